/- The draws of disks, and of what stands beside them. -/
import Derived.Test.YtlmnmcfieagmbaaMDraw4
namespace Go.Proofs.Ytlmnmcfieagmbaa.MDraw5
open Go.RowKit Go.Proofs.Ytlmnmcfieagmbaa.RJ Go.Proofs.Ytlmnmcfieagmbaa.RP Go.Proofs.YtlmnmcfieagmbaaW.PrintWords Go.Proofs.Ytlmnmcfieagmbaa.Fp Go.Proofs.Ytlmnmcfieagmbaa.FpStep Go.Proofs.Ytlmnmcfieagmbaa.MInt Go.Proofs.Ytlmnmcfieagmbaa.MKinds Go.Proofs.Ytlmnmcfieagmbaa.MRead Go.Proofs.Ytlmnmcfieagmbaa.MMake Go.Proofs.Ytlmnmcfieagmbaa.MPut Go.Proofs.Ytlmnmcfieagmbaa.MOk Go.Proofs.Ytlmnmcfieagmbaa.MVal Go.Proofs.Ytlmnmcfieagmbaa.MValB Go.Proofs.Ytlmnmcfieagmbaa.Sep Go.Proofs.Ytlmnmcfieagmbaa.SepStep Go.Proofs.Ytlmnmcfieagmbaa.MSuper Go.Proofs.Ytlmnmcfieagmbaa.MReadS Go.Proofs.Ytlmnmcfieagmbaa.MDraw Go.Proofs.Ytlmnmcfieagmbaa.MDraw2 Go.Proofs.Ytlmnmcfieagmbaa.MDraw3 Go.Proofs.Ytlmnmcfieagmbaa.MDraw4
set_option linter.unusedVariables false
set_option linter.unusedSimpArgs false
attribute [local go_sem ↓] Go.wp_at_zero Go.wp_at_succ
set_option maxHeartbeats 2000000 in
theorem c_l2Sector {w0 w : World} {L : List Res} {g : Nat} {B : Value} {bs : List Int} {i h : Int} (hs : Sep w0 [] w (cur g B i h :: L)) (hB : RK (Kd.int .u8) w0 B bs) (hi : 0 ≤ i ∧ i ≤ bs.length) :
    Calls Try.prog 116 #[.pointer (some ⟨g, 0, none⟩)] w fun e w' => ∃ (x i' h' : Int), e = .returned (.int .i64 x) ∧ (0 ≤ i' ∧ i' ≤ bs.length) ∧ Sep w0 [] w' (cur g B i' h' :: L) := by
  have HS := Aside0.mk hs
  clear hs
  go_enter Try.func116, Try.ntmps116
  go_wp2_with (first
    | (go_at_call 119; have hn := new_lit HS.out (g := w.heap.size) rfl 3 (#[.int .i64 0, .int .i64 0, .int .i64 1, .int .i64 2, .int .i64 3, .int .i64 (-1), .int .i64 20]) (l := [0, 0, 1, 2, 3, -1, 20]) (n := 7) rfl rfl (by decide); have hn2 := hn.perm (List.Perm.swap _ _ _); refine (c_l1Int hn2 hB hi (fun w' hw => O_RK (hw.get 0 rfl)) (by decide)).mono ?_; rintro e w1 ⟨x, i', h', rfl, hx, hi2, hs1⟩; have HS1 := Aside0.mk (hs1.drop 1 rfl); clear hs1 hn hn2 hx)
    | fail)
  go_ret
  exact ⟨x, i', h', rfl, hi2, HS1.out⟩
set_option maxHeartbeats 2000000 in
theorem c_DrawMemOk {w : World} {B : Value} {bs : List Int} (hB : RK (Kd.int .u8) w B bs) (hl : bs.length ≤ 16777216) :
    Calls Try.prog 19 #[B] w fun e w' => ∃ (u : Value) (F : List Nat) (m : MemV), e = .returned u ∧ Tiny m ∧ Sep w [] w' [me F u m] := by
  have H0 := Aside0.mk ((Sep.start w []).alloc (g := w.heap.size) rfl #[.slice none 0 0, .slice none 0 0, .bool false, .slice none 0 0] 30)
  have HB := Aside0.mk hB
  obtain ⟨BA, Bc, rfl, _, _⟩ := hB
  go_enter Try.func19, Try.ntmps19
  go_wp2_with (first
    | (go_at_call 115; refine (c_l2Any HS1.out HB.out hi1).mono ?_; rintro e w2 ⟨u, F, m, i2, h2, rfl, hm, hi2, hs2⟩; obtain ⟨A1, d1, A2, d2, A3, d3, rfl⟩ := me_form hs2; have HM := Aside0.mk hm; clear hm; have HS2 := Aside0.mk hs2; clear hs2; obtain ⟨z0, z1, z2, z3⟩ := four (HS2.out.get 2 rfl); have fz := blk_frozen (HS2.out.get 2 rfl))
    | (go_at_call 114; refine (c_l1New (RK_below HB.out (below_alloc (Below.refl _ _) _)) hl).mono ?_; rintro e w1 ⟨g, h1, rfl, hs1⟩; have hs2 := Sep.comp H0.out hs1; simp only [List.cons_append, List.nil_append] at hs2; have HS1 := Aside0.mk hs2; have hi1 : (0 : Int) ≤ 0 ∧ (0 : Int) ≤ (bs.length : Int) := ⟨Int.le_refl _, by omega⟩; clear hs1 hs2)
    | fail)
  have HE : Sep w [] _ _ := HS2.out.box4 2 rfl (.slice A1 m.secs.length d1) (.slice A2 m.cache.length d2) (.bool m.failed) (.slice A3 m.bad.length d3)
  have h9 := HE.sel [0] (by decide) (by simp)
  simp only [List.map_cons, List.map_nil, pick, List.getD_cons_succ, List.getD_cons_zero, List.set_cons_zero, List.set_cons_succ, List.eraseIdx_cons_zero, List.eraseIdx_cons_succ, List.setIfInBounds_toArray] at h9
  refine bodyPost_ret (results_cell_row rfl _ _ w.heap.size 30 #[.slice A1 m.secs.length d1, .slice A2 m.cache.length d2, .bool m.failed, .slice A3 m.bad.length d3] (0, 0) _ rfl (HE.get 2 rfl) Try.underlying30 rfl (by kernel_rfl)) rfl ?_
  first | exact ⟨_, F, m, rfl, HM.out, h9⟩ | exact ⟨_, rfl, F, m, HM.out, h9⟩ | exact ⟨_, rfl, m, HM.out, F, h9⟩ | (trace_state; fail)
set_option maxHeartbeats 2000000 in
theorem c_DrawFailMem {w : World} {B : Value} {bs : List Int} (hB : RK (Kd.int .u8) w B bs) (hl : bs.length ≤ 16777216) :
    Calls Try.prog 26 #[B] w fun e w' => ∃ (u : Value) (F : List Nat) (m : MemV), e = .returned u ∧ Tiny m ∧ Sep w [] w' [me F u m] := by
  have H0 := Aside0.mk ((Sep.start w []).alloc (g := w.heap.size) rfl #[.slice none 0 0, .slice none 0 0, .bool false, .slice none 0 0] 30)
  have HB := Aside0.mk hB
  obtain ⟨BA, Bc, rfl, _, _⟩ := hB
  go_enter Try.func26, Try.ntmps26
  go_wp2_with (first
    | (go_at_call 115; refine (c_l2Any HS1.out HB.out hi1).mono ?_; rintro e w2 ⟨u, F, m, i2, h2, rfl, hm, hi2, hs2⟩; obtain ⟨A1, d1, A2, d2, A3, d3, rfl⟩ := me_form hs2; have HM := Aside0.mk hm; clear hm; have HS2 := Aside0.mk hs2; clear hs2; obtain ⟨z0, z1, z2, z3⟩ := four (HS2.out.get 2 rfl); have fz := blk_frozen (HS2.out.get 2 rfl))
    | (go_at_call 114; refine (c_l1New (RK_below HB.out (below_alloc (Below.refl _ _) _)) hl).mono ?_; rintro e w1 ⟨g, h1, rfl, hs1⟩; have hs2 := Sep.comp H0.out hs1; simp only [List.cons_append, List.nil_append] at hs2; have HS1 := Aside0.mk hs2; have hi1 : (0 : Int) ≤ 0 ∧ (0 : Int) ≤ (bs.length : Int) := ⟨Int.le_refl _, by omega⟩; clear hs1 hs2)
    | fail)
  have HE : Sep w [] _ _ := HS2.out.box4 2 rfl (.slice A1 m.secs.length d1) (.slice A2 m.cache.length d2) (.bool m.failed) (.slice A3 m.bad.length d3)
  have h9 := HE.sel [0] (by decide) (by simp)
  simp only [List.map_cons, List.map_nil, pick, List.getD_cons_succ, List.getD_cons_zero, List.set_cons_zero, List.set_cons_succ, List.eraseIdx_cons_zero, List.eraseIdx_cons_succ, List.setIfInBounds_toArray] at h9
  refine bodyPost_ret (results_cell_row rfl _ _ w.heap.size 30 #[.slice A1 m.secs.length d1, .slice A2 m.cache.length d2, .bool m.failed, .slice A3 m.bad.length d3] (0, 0) _ rfl (HE.get 2 rfl) Try.underlying30 rfl (by kernel_rfl)) rfl ?_
  first | exact ⟨_, F, m, rfl, HM.out, h9⟩ | exact ⟨_, rfl, F, m, HM.out, h9⟩ | exact ⟨_, rfl, m, HM.out, F, h9⟩ | (trace_state; fail)
set_option maxHeartbeats 2000000 in
theorem c_DrawMem {w : World} {B : Value} {bs : List Int} (hB : RK (Kd.int .u8) w B bs) (hl : bs.length ≤ 16777216) :
    Calls Try.prog 54 #[B] w fun e w' => ∃ (u : Value) (F : List Nat) (m : MemV), e = .returned u ∧ (memB m = true ∧ (m.failed = false ∧ m.cache.length ≤ 7)) ∧ Sep w [] w' [me F u m] := by
  have H0 := Aside0.mk ((Sep.start w []).alloc (g := w.heap.size) rfl #[.slice none 0 0, .slice none 0 0, .bool false, .slice none 0 0] 30)
  have HB := Aside0.mk hB
  obtain ⟨BA, Bc, rfl, _, _⟩ := hB
  go_enter Try.func54, Try.ntmps54
  go_wp2_with (first
    | (go_at_call 132; refine (c_l2Draw HS1.out HB.out hi1).mono ?_; rintro e w2 ⟨u, F, m, i2, h2, rfl, hm, hi2, hs2⟩; obtain ⟨A1, d1, A2, d2, A3, d3, rfl⟩ := me_form hs2; have HM := Aside0.mk hm; clear hm; have HS2 := Aside0.mk hs2; clear hs2; obtain ⟨z0, z1, z2, z3⟩ := four (HS2.out.get 2 rfl); have fz := blk_frozen (HS2.out.get 2 rfl))
    | (go_at_call 114; refine (c_l1New (RK_below HB.out (below_alloc (Below.refl _ _) _)) hl).mono ?_; rintro e w1 ⟨g, h1, rfl, hs1⟩; have hs2 := Sep.comp H0.out hs1; simp only [List.cons_append, List.nil_append] at hs2; have HS1 := Aside0.mk hs2; have hi1 : (0 : Int) ≤ 0 ∧ (0 : Int) ≤ (bs.length : Int) := ⟨Int.le_refl _, by omega⟩; clear hs1 hs2)
    | fail)
  have HE : Sep w [] _ _ := HS2.out.box4 2 rfl (.slice A1 m.secs.length d1) (.slice A2 m.cache.length d2) (.bool m.failed) (.slice A3 m.bad.length d3)
  have h9 := HE.sel [0] (by decide) (by simp)
  simp only [List.map_cons, List.map_nil, pick, List.getD_cons_succ, List.getD_cons_zero, List.set_cons_zero, List.set_cons_succ, List.eraseIdx_cons_zero, List.eraseIdx_cons_succ, List.setIfInBounds_toArray] at h9
  refine bodyPost_ret (results_cell_row rfl _ _ w.heap.size 30 #[.slice A1 m.secs.length d1, .slice A2 m.cache.length d2, .bool m.failed, .slice A3 m.bad.length d3] (0, 0) _ rfl (HE.get 2 rfl) Try.underlying30 rfl (by kernel_rfl)) rfl ?_
  first | exact ⟨_, F, m, rfl, HM.out, h9⟩ | exact ⟨_, rfl, F, m, HM.out, h9⟩ | exact ⟨_, rfl, m, HM.out, F, h9⟩ | (trace_state; fail)
set_option maxHeartbeats 2000000 in
theorem c_DrawReadSec {w : World} {B : Value} {bs : List Int} (hB : RK (Kd.int .u8) w B bs) (hl : bs.length ≤ 16777216) :
    Calls Try.prog 20 #[B] w fun e w' => ∃ (u : Value) (F : List Nat) (m : MemV) (n : Int), e = .returned (.tuple #[u, .int .i64 n]) ∧ Tiny m ∧ Sep w [] w' [me F u m] := by
  have H0 := Aside0.mk ((Sep.start w []).alloc (g := w.heap.size) rfl #[.slice none 0 0, .slice none 0 0, .bool false, .slice none 0 0] 30)
  have HB := Aside0.mk hB
  obtain ⟨BA, Bc, rfl, _, _⟩ := hB
  go_enter Try.func20, Try.ntmps20
  go_wp2_with (first
    | (go_at_call 116; refine (c_l2Sector HS2.out HB.out hi2).mono ?_; rintro e w3 ⟨n, i3, h3, rfl, hi3, hs3⟩; have HS3 := Aside0.mk hs3; clear hs3; obtain ⟨z0, z1, z2, z3⟩ := four (HS3.out.get 2 rfl); have fz := blk_frozen (HS3.out.get 2 rfl))
    | (go_at_call 115; refine (c_l2Any HS1.out HB.out hi1).mono ?_; rintro e w2 ⟨u, F, m, i2, h2, rfl, hm, hi2, hs2⟩; obtain ⟨A1, d1, A2, d2, A3, d3, rfl⟩ := me_form hs2; have HM := Aside0.mk hm; clear hm; have hq := hs2.sel [1, 0, 2] (by decide) (by simp); simp only [List.map_cons, List.map_nil, pick, List.getD_cons_succ, List.getD_cons_zero, List.set_cons_zero, List.set_cons_succ, List.eraseIdx_cons_zero, List.eraseIdx_cons_succ, List.setIfInBounds_toArray] at hq; have HS2 := Aside0.mk hq; clear hs2 hq)
    | (go_at_call 114; refine (c_l1New (RK_below HB.out (below_alloc (Below.refl _ _) _)) hl).mono ?_; rintro e w1 ⟨g, h1, rfl, hs1⟩; have hs2 := Sep.comp H0.out hs1; simp only [List.cons_append, List.nil_append] at hs2; have HS1 := Aside0.mk hs2; have hi1 : (0 : Int) ≤ 0 ∧ (0 : Int) ≤ (bs.length : Int) := ⟨Int.le_refl _, by omega⟩; clear hs1 hs2)
    | fail)
  have HE : Sep w [] _ _ := HS3.out.box4 2 rfl (.slice A1 m.secs.length d1) (.slice A2 m.cache.length d2) (.bool m.failed) (.slice A3 m.bad.length d3)
  have h9 := HE.sel [1] (by decide) (by simp)
  simp only [List.map_cons, List.map_nil, pick, List.getD_cons_succ, List.getD_cons_zero, List.set_cons_zero, List.set_cons_succ, List.eraseIdx_cons_zero, List.eraseIdx_cons_succ, List.setIfInBounds_toArray] at h9
  refine bodyPost_ret (results_ct rfl _ _ w.heap.size 30 #[.slice A1 m.secs.length d1, .slice A2 m.cache.length d2, .bool m.failed, .slice A3 m.bad.length d3] (0, 0) _ rfl (HE.get 2 rfl) Try.underlying30 rfl (by kernel_rfl)) rfl ?_
  first | exact ⟨_, F, m, n, rfl, HM.out, h9⟩ | (trace_state; fail)
set_option maxHeartbeats 2000000 in
theorem c_DrawSpoilSec {w : World} {B : Value} {bs : List Int} (hB : RK (Kd.int .u8) w B bs) (hl : bs.length ≤ 16777216) :
    Calls Try.prog 24 #[B] w fun e w' => ∃ (u : Value) (F : List Nat) (m : MemV) (n : Int), e = .returned (.tuple #[u, .int .i64 n]) ∧ Tiny m ∧ Sep w [] w' [me F u m] := by
  have H0 := Aside0.mk ((Sep.start w []).alloc (g := w.heap.size) rfl #[.slice none 0 0, .slice none 0 0, .bool false, .slice none 0 0] 30)
  have HB := Aside0.mk hB
  obtain ⟨BA, Bc, rfl, _, _⟩ := hB
  go_enter Try.func24, Try.ntmps24
  go_wp2_with (first
    | (go_at_call 116; refine (c_l2Sector HS2.out HB.out hi2).mono ?_; rintro e w3 ⟨n, i3, h3, rfl, hi3, hs3⟩; have HS3 := Aside0.mk hs3; clear hs3; obtain ⟨z0, z1, z2, z3⟩ := four (HS3.out.get 2 rfl); have fz := blk_frozen (HS3.out.get 2 rfl))
    | (go_at_call 115; refine (c_l2Any HS1.out HB.out hi1).mono ?_; rintro e w2 ⟨u, F, m, i2, h2, rfl, hm, hi2, hs2⟩; obtain ⟨A1, d1, A2, d2, A3, d3, rfl⟩ := me_form hs2; have HM := Aside0.mk hm; clear hm; have hq := hs2.sel [1, 0, 2] (by decide) (by simp); simp only [List.map_cons, List.map_nil, pick, List.getD_cons_succ, List.getD_cons_zero, List.set_cons_zero, List.set_cons_succ, List.eraseIdx_cons_zero, List.eraseIdx_cons_succ, List.setIfInBounds_toArray] at hq; have HS2 := Aside0.mk hq; clear hs2 hq)
    | (go_at_call 114; refine (c_l1New (RK_below HB.out (below_alloc (Below.refl _ _) _)) hl).mono ?_; rintro e w1 ⟨g, h1, rfl, hs1⟩; have hs2 := Sep.comp H0.out hs1; simp only [List.cons_append, List.nil_append] at hs2; have HS1 := Aside0.mk hs2; have hi1 : (0 : Int) ≤ 0 ∧ (0 : Int) ≤ (bs.length : Int) := ⟨Int.le_refl _, by omega⟩; clear hs1 hs2)
    | fail)
  have HE : Sep w [] _ _ := HS3.out.box4 2 rfl (.slice A1 m.secs.length d1) (.slice A2 m.cache.length d2) (.bool m.failed) (.slice A3 m.bad.length d3)
  have h9 := HE.sel [1] (by decide) (by simp)
  simp only [List.map_cons, List.map_nil, pick, List.getD_cons_succ, List.getD_cons_zero, List.set_cons_zero, List.set_cons_succ, List.eraseIdx_cons_zero, List.eraseIdx_cons_succ, List.setIfInBounds_toArray] at h9
  refine bodyPost_ret (results_ct rfl _ _ w.heap.size 30 #[.slice A1 m.secs.length d1, .slice A2 m.cache.length d2, .bool m.failed, .slice A3 m.bad.length d3] (0, 0) _ rfl (HE.get 2 rfl) Try.underlying30 rfl (by kernel_rfl)) rfl ?_
  first | exact ⟨_, F, m, n, rfl, HM.out, h9⟩ | (trace_state; fail)
set_option maxHeartbeats 2000000 in
theorem c_DrawWriteSec {w : World} {B : Value} {bs : List Int} (hB : RK (Kd.int .u8) w B bs) (hl : bs.length ≤ 16777216) :
    Calls Try.prog 38 #[B] w fun e w' => ∃ (u : Value) (F : List Nat) (m : MemV) (n : Int) (A : Option Addr) (c : Nat) (G : List Nat) (xs : List Int), e = .returned (.tuple #[u, .int .i64 n, .slice A xs.length c]) ∧ Tiny m ∧ xs.length ≤ 13 ∧ Sep w [] w' [me F u m, rw_ oInt 3 G (.slice A xs.length c) xs] := by
  have H0 := Aside0.mk ((Sep.start w []).alloc (g := w.heap.size) rfl #[.slice none 0 0, .slice none 0 0, .bool false, .slice none 0 0] 30)
  have HB := Aside0.mk hB
  obtain ⟨BA, Bc, rfl, _, _⟩ := hB
  go_enter Try.func38, Try.ntmps38
  go_wp2_with (first
    | (go_at_call 122; refine (c_l1Any HS3.out HB.out hi3).mono ?_; rintro e w4 ⟨A, c, G, xs, i4, h4, rfl, hx, hi4, hs4⟩; have HS4 := Aside0.mk hs4; clear hs4; obtain ⟨z0, z1, z2, z3⟩ := four (HS4.out.get 3 rfl); have fz := blk_frozen (HS4.out.get 3 rfl))
    | (go_at_call 116; refine (c_l2Sector HS2.out HB.out hi2).mono ?_; rintro e w3 ⟨n, i3, h3, rfl, hi3, hs3⟩; have HS3 := Aside0.mk hs3; clear hs3)
    | (go_at_call 115; refine (c_l2Any HS1.out HB.out hi1).mono ?_; rintro e w2 ⟨u, F, m, i2, h2, rfl, hm, hi2, hs2⟩; obtain ⟨A1, d1, A2, d2, A3, d3, rfl⟩ := me_form hs2; have HM := Aside0.mk hm; clear hm; have hq := hs2.sel [1, 0, 2] (by decide) (by simp); simp only [List.map_cons, List.map_nil, pick, List.getD_cons_succ, List.getD_cons_zero, List.set_cons_zero, List.set_cons_succ, List.eraseIdx_cons_zero, List.eraseIdx_cons_succ, List.setIfInBounds_toArray] at hq; have HS2 := Aside0.mk hq; clear hs2 hq)
    | (go_at_call 114; refine (c_l1New (RK_below HB.out (below_alloc (Below.refl _ _) _)) hl).mono ?_; rintro e w1 ⟨g, h1, rfl, hs1⟩; have hs2 := Sep.comp H0.out hs1; simp only [List.cons_append, List.nil_append] at hs2; have HS1 := Aside0.mk hs2; have hi1 : (0 : Int) ≤ 0 ∧ (0 : Int) ≤ (bs.length : Int) := ⟨Int.le_refl _, by omega⟩; clear hs1 hs2)
    | fail)
  have HE : Sep w [] _ _ := HS4.out.box4 3 rfl (.slice A1 m.secs.length d1) (.slice A2 m.cache.length d2) (.bool m.failed) (.slice A3 m.bad.length d3)
  have h9 := HE.sel [2, 0] (by decide) (by simp)
  simp only [List.map_cons, List.map_nil, pick, List.getD_cons_succ, List.getD_cons_zero, List.set_cons_zero, List.set_cons_succ, List.eraseIdx_cons_zero, List.eraseIdx_cons_succ, List.setIfInBounds_toArray] at h9
  refine bodyPost_ret (results_ctt rfl _ _ w.heap.size 30 #[.slice A1 m.secs.length d1, .slice A2 m.cache.length d2, .bool m.failed, .slice A3 m.bad.length d3] (0, 0) _ rfl (HE.get 3 rfl) Try.underlying30 rfl (by kernel_rfl)) rfl ?_
  first | exact ⟨_, F, m, n, A, c, G, xs, rfl, HM.out, hx, h9⟩ | (trace_state; fail)
set_option maxHeartbeats 2000000 in
theorem c_DrawFallMem {w : World} {B : Value} {bs : List Int} (hB : RK (Kd.int .u8) w B bs) (hl : bs.length ≤ 16777216) :
    Calls Try.prog 23 #[B] w fun e w' => ∃ (u : Value) (F : List Nat) (m : MemV) (n : Int), e = .returned (.tuple #[u, .int .i64 n]) ∧ Tiny m ∧ Sep w [] w' [me F u m] := by
  have H0 := Aside0.mk ((Sep.start w []).alloc (g := w.heap.size) rfl #[.slice none 0 0, .slice none 0 0, .bool false, .slice none 0 0] 30)
  have HB := Aside0.mk hB
  obtain ⟨BA, Bc, rfl, _, _⟩ := hB
  go_enter Try.func23, Try.ntmps23
  go_wp2_with (first
    | (go_at_call 119; have hn := new_lit HS2.out (g := w2.heap.size) rfl 3 (#[.int .i64 0, .int .i64 1, .int .i64 2, .int .i64 3, .int .i64 5, .int .i64 10, .int .i64 1048575, .int .i64 (-1), .int .i64 1048576]) (l := [0, 1, 2, 3, 5, 10, 1048575, -1, 1048576]) (n := 9) rfl rfl (by decide); have hn2 := hn.perm (List.Perm.swap _ _ _); refine (c_l1Int hn2 HB.out hi2 (fun w' hw => O_RK (hw.get 0 rfl)) (by decide)).mono ?_; rintro e w3 ⟨n, i3, h3, rfl, hx, hi3, hs3⟩; have HS3 := Aside0.mk (hs3.drop 1 rfl); clear hs3 hn hn2 hx; obtain ⟨z0, z1, z2, z3⟩ := four (HS3.out.get 2 rfl); have fz := blk_frozen (HS3.out.get 2 rfl))
    | (go_at_call 115; refine (c_l2Any HS1.out HB.out hi1).mono ?_; rintro e w2 ⟨u, F, m, i2, h2, rfl, hm, hi2, hs2⟩; obtain ⟨A1, d1, A2, d2, A3, d3, rfl⟩ := me_form hs2; have HM := Aside0.mk hm; clear hm; have hq := hs2.sel [1, 0, 2] (by decide) (by simp); simp only [List.map_cons, List.map_nil, pick, List.getD_cons_succ, List.getD_cons_zero, List.set_cons_zero, List.set_cons_succ, List.eraseIdx_cons_zero, List.eraseIdx_cons_succ, List.setIfInBounds_toArray] at hq; have HS2 := Aside0.mk hq; clear hs2 hq)
    | (go_at_call 114; refine (c_l1New (RK_below HB.out (below_alloc (Below.refl _ _) _)) hl).mono ?_; rintro e w1 ⟨g, h1, rfl, hs1⟩; have hs2 := Sep.comp H0.out hs1; simp only [List.cons_append, List.nil_append] at hs2; have HS1 := Aside0.mk hs2; have hi1 : (0 : Int) ≤ 0 ∧ (0 : Int) ≤ (bs.length : Int) := ⟨Int.le_refl _, by omega⟩; clear hs1 hs2)
    | fail)
  have HE : Sep w [] _ _ := HS3.out.box4 2 rfl (.slice A1 m.secs.length d1) (.slice A2 m.cache.length d2) (.bool m.failed) (.slice A3 m.bad.length d3)
  have h9 := HE.sel [1] (by decide) (by simp)
  simp only [List.map_cons, List.map_nil, pick, List.getD_cons_succ, List.getD_cons_zero, List.set_cons_zero, List.set_cons_succ, List.eraseIdx_cons_zero, List.eraseIdx_cons_succ, List.setIfInBounds_toArray] at h9
  refine bodyPost_ret (results_ct rfl _ _ w.heap.size 30 #[.slice A1 m.secs.length d1, .slice A2 m.cache.length d2, .bool m.failed, .slice A3 m.bad.length d3] (0, 0) _ rfl (HE.get 2 rfl) Try.underlying30 rfl (by kernel_rfl)) rfl ?_
  first | exact ⟨_, F, m, n, rfl, HM.out, h9⟩ | (trace_state; fail)
end Go.Proofs.Ytlmnmcfieagmbaa.MDraw5
