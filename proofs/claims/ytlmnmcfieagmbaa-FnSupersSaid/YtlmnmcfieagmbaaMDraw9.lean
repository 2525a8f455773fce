/- The draws of what a disk knows, and of disks that hold it. -/
import Derived.Test.YtlmnmcfieagmbaaMDraw8
namespace Go.Proofs.Ytlmnmcfieagmbaa.MDraw9
open Go.RowKit Go.Proofs.Ytlmnmcfieagmbaa.RJ Go.Proofs.Ytlmnmcfieagmbaa.RP Go.Proofs.YtlmnmcfieagmbaaW.PrintWords Go.Proofs.Ytlmnmcfieagmbaa.Fp Go.Proofs.Ytlmnmcfieagmbaa.FpStep Go.Proofs.Ytlmnmcfieagmbaa.MInt Go.Proofs.Ytlmnmcfieagmbaa.MKinds Go.Proofs.Ytlmnmcfieagmbaa.MRead Go.Proofs.Ytlmnmcfieagmbaa.MMake Go.Proofs.Ytlmnmcfieagmbaa.MPut Go.Proofs.Ytlmnmcfieagmbaa.MSuper Go.Proofs.Ytlmnmcfieagmbaa.Sep Go.Proofs.Ytlmnmcfieagmbaa.SepStep Go.Proofs.Ytlmnmcfieagmbaa.MDraw Go.Proofs.Ytlmnmcfieagmbaa.MDraw2 Go.Proofs.Ytlmnmcfieagmbaa.MVal Go.Proofs.Ytlmnmcfieagmbaa.MValB Go.Proofs.Ytlmnmcfieagmbaa.MDraw7 Go.Proofs.Ytlmnmcfieagmbaa.MDraw8
set_option linter.unusedVariables false
set_option linter.unusedSimpArgs false
attribute [local go_sem ↓] Go.wp_at_zero Go.wp_at_succ
set_option maxHeartbeats 4000000 in
theorem c_DrawPutSuper {w : World} {B : Value} {bs : List Int} (hB : RK (Kd.int .u8) w B bs) (hl : bs.length ≤ 16777216) :
    Calls Try.prog 41 #[B] w fun e w' => ∃ (s : SupV), e = .returned (.agg (supA s)) ∧ Sep w [] w' [] := by
  have H0 := Aside0.mk ((Sep.start w []).alloc (g := w.heap.size) rfl #[.int .i64 0, .int .i64 0, .int .i64 0, .int .i64 0, .int .i64 0, .int .i64 0, .int .i64 0, .int .i64 0] 53)
  have HB := Aside0.mk hB
  obtain ⟨BA, Bc, rfl, _, _⟩ := hB
  go_enter Try.func41, Try.ntmps41
  go_wp2_with (first
    | (go_at_call 126; refine (c_l4Any HS1.out HB.out hi1).mono ?_; rintro e w2 ⟨s, i2, h2, he, hi2, hs3⟩; simp only [supA] at he; subst he; have HS2 := Aside0.mk hs3; clear hs3; obtain ⟨z0, z1, z2, z3, z4, z5, z6, z7⟩ := eight (HS2.out.get 1 rfl); have fz := blk_frozen (HS2.out.get 1 rfl))
    | (go_at_call 114; refine (c_l1New (RK_below HB.out (below_alloc (Below.refl _ _) _)) hl).mono ?_; rintro e w1 ⟨g, h1, rfl, hs1⟩; have hs2 := Sep.comp H0.out hs1; simp only [List.cons_append, List.nil_append] at hs2; have hi1 : (0 : Int) ≤ 0 ∧ (0 : Int) ≤ (bs.length : Int) := ⟨Int.le_refl _, by omega⟩; have HS1 := Aside0.mk hs2; clear hs1 hs2)
    | fail)
  have HE : Sep w [] _ _ := HS2.out.box8 1 rfl (.int .i64 s.id) (.int .i64 s.gen) (.int .i64 s.role) (.int .i64 s.n) (.int .i64 s.st) (.int .i64 s.tail) (.int .i64 s.lost) (.int .i64 s.built)
  have h9 := HE.sel [] (by decide) (by simp)
  simp only [List.map_cons, List.map_nil, pick, List.getD_cons_succ, List.getD_cons_zero, List.set_cons_zero, List.set_cons_succ, List.eraseIdx_cons_zero, List.eraseIdx_cons_succ, List.setIfInBounds_toArray] at h9
  refine bodyPost_ret (results_cell_row rfl _ _ w.heap.size 53 #[.int .i64 s.id, .int .i64 s.gen, .int .i64 s.role, .int .i64 s.n, .int .i64 s.st, .int .i64 s.tail, .int .i64 s.lost, .int .i64 s.built] (0, 0) _ rfl (HE.get 1 rfl) Try.underlying53 rfl (by kernel_rfl)) rfl ?_
  first | exact ⟨s, rfl, h9⟩ | exact ⟨rfl, s, h9⟩ | exact ⟨_, rfl, h9⟩
set_option maxHeartbeats 4000000 in
theorem c_DrawBestSuper {w : World} {B : Value} {bs : List Int} (hB : RK (Kd.int .u8) w B bs) (hl : bs.length ≤ 16777216) :
    Calls Try.prog 46 #[B] w fun e w' => ∃ (u : Value) (F : List Nat) (m : MemV) (n : Int), e = .returned (.tuple #[u, .int .i64 n]) ∧ Tiny m ∧ Sep w [] w' [me F u m] := by
  have H0 := Aside0.mk ((Sep.start w []).alloc (g := w.heap.size) rfl #[.slice none 0 0, .slice none 0 0, .bool false, .slice none 0 0] 30)
  have HB := Aside0.mk hB
  obtain ⟨BA, Bc, rfl, _, _⟩ := hB
  go_enter Try.func46, Try.ntmps46
  go_wp2_with (first
    | (go_at_call 129; refine (c_l1Below HS2.out HB.out hi2 (by omega)).mono ?_; rintro e w3 ⟨x, i3, h3, rfl, x0, x1, hi3, hs4⟩; have x2 := x1 (by omega); have HS3 := Aside0.mk hs4; clear hs4 x1; have hwx : IntKind.i64.wrap (1 + x) = 1 + x := (by rw [IntKind.wrap_i64]; omega); obtain ⟨z0, z1, z2, z3⟩ := four (HS3.out.get 2 rfl); have fz := blk_frozen (HS3.out.get 2 rfl))
    | (go_at_call 130; refine (c_l4Mem HS1.out HB.out hi1).mono ?_; rintro e w2 ⟨u, F, m, i2, h2, rfl, hm, hi2, hs3⟩; obtain ⟨A1, d1, A2, d2, A3, d3, rfl⟩ := me_form hs3; have HM := Aside0.mk hm; clear hm; have hq := hs3.selT 2 [1, 0] (by decide) (by simp <;> omega); simp only [List.map_cons, List.map_nil, pick, List.getD_cons_succ, List.getD_cons_zero, List.set_cons_zero, List.set_cons_succ, List.eraseIdx_cons_zero, List.eraseIdx_cons_succ, List.drop_succ_cons, List.drop_zero, List.append_eq, List.cons_append, List.nil_append, List.setIfInBounds_toArray] at hq; have HS2 := Aside0.mk hq; clear hs3 hq)
    | (go_at_call 114; refine (c_l1New (RK_below HB.out (below_alloc (Below.refl _ _) _)) hl).mono ?_; rintro e w1 ⟨g, h1, rfl, hs1⟩; have hs2 := Sep.comp H0.out hs1; simp only [List.cons_append, List.nil_append] at hs2; have hi1 : (0 : Int) ≤ 0 ∧ (0 : Int) ≤ (bs.length : Int) := ⟨Int.le_refl _, by omega⟩; have HS1 := Aside0.mk hs2; clear hs1 hs2)
    | fail)
  have HE : Sep w [] _ _ := HS3.out.box4 2 rfl (.slice A1 m.secs.length d1) (.slice A2 m.cache.length d2) (.bool m.failed) (.slice A3 m.bad.length d3)
  have h9 := HE.sel [1] (by decide) (by simp)
  simp only [List.map_cons, List.map_nil, pick, List.getD_cons_succ, List.getD_cons_zero, List.set_cons_zero, List.set_cons_succ, List.eraseIdx_cons_zero, List.eraseIdx_cons_succ, List.setIfInBounds_toArray] at h9
  refine bodyPost_ret (results_ct rfl _ _ w.heap.size 30 #[.slice A1 m.secs.length d1, .slice A2 m.cache.length d2, .bool m.failed, .slice A3 m.bad.length d3] (0, 0) _ rfl (HE.get 2 rfl) Try.underlying30 rfl (by kernel_rfl)) rfl ?_
  exact ⟨_, F, m, 1 + x, rfl, HM.out, h9⟩
set_option maxHeartbeats 4000000 in
theorem c_DrawWriteSuper {w : World} {B : Value} {bs : List Int} (hB : RK (Kd.int .u8) w B bs) (hl : bs.length ≤ 16777216) :
    Calls Try.prog 51 #[B] w fun e w' => ∃ (u : Value) (F : List Nat) (m : MemV) (s : SupV), e = .returned (.tuple #[u, .agg (supA s)]) ∧ Tiny m ∧ Sep w [] w' [me F u m] := by
  have H0 := Aside0.mk (((Sep.start w []).alloc (g := w.heap.size) rfl #[.slice none 0 0, .slice none 0 0, .bool false, .slice none 0 0] 30).alloc (g := w.heap.size + 1) (by simp) #[.int .i64 0, .int .i64 0, .int .i64 0, .int .i64 0, .int .i64 0, .int .i64 0, .int .i64 0, .int .i64 0] 53)
  have HB := Aside0.mk hB
  obtain ⟨BA, Bc, rfl, _, _⟩ := hB
  go_enter Try.func51, Try.ntmps51
  go_wp2_with (first
    | (go_at_call 126; refine (c_l4Any HS2.out HB.out hi2).mono ?_; rintro e w3 ⟨s, i3, h3, he, hi3, hs4⟩; simp only [supA] at he; subst he; have HS3 := Aside0.mk hs4; clear hs4; obtain ⟨y0, y1, y2, y3, y4, y5, y6, y7⟩ := eight (HS3.out.get 2 rfl); have fy := blk_frozen (HS3.out.get 2 rfl); obtain ⟨z0, z1, z2, z3⟩ := four (HS3.out.get 3 rfl); have fz := blk_frozen (HS3.out.get 3 rfl); have hne := HS3.out.neq 2 3 rfl rfl (by decide))
    | (go_at_call 130; refine (c_l4Mem HS1.out HB.out hi1).mono ?_; rintro e w2 ⟨u, F, m, i2, h2, rfl, hm, hi2, hs3⟩; obtain ⟨A1, d1, A2, d2, A3, d3, rfl⟩ := me_form hs3; have HM := Aside0.mk hm; clear hm; have hq := hs3.selT 2 [1, 0] (by decide) (by simp <;> omega); simp only [List.map_cons, List.map_nil, pick, List.getD_cons_succ, List.getD_cons_zero, List.set_cons_zero, List.set_cons_succ, List.eraseIdx_cons_zero, List.eraseIdx_cons_succ, List.drop_succ_cons, List.drop_zero, List.append_eq, List.cons_append, List.nil_append, List.setIfInBounds_toArray] at hq; have HS2 := Aside0.mk hq; clear hs3 hq)
    | (go_at_call 114; refine (c_l1New (RK_below HB.out (below_alloc (below_alloc (Below.refl _ _) _) _)) hl).mono ?_; rintro e w1 ⟨g, h1, rfl, hs1⟩; have hs2 := Sep.comp H0.out hs1; simp only [List.cons_append, List.nil_append] at hs2; have hi1 : (0 : Int) ≤ 0 ∧ (0 : Int) ≤ (bs.length : Int) := ⟨Int.le_refl _, by omega⟩; have HS1 := Aside0.mk hs2; clear hs1 hs2)
    | fail)
  have HE : Sep w [] _ _ := (HS3.out.box4 3 rfl (.slice A1 m.secs.length d1) (.slice A2 m.cache.length d2) (.bool m.failed) (.slice A3 m.bad.length d3)).box8 2 rfl (.int .i64 s.id) (.int .i64 s.gen) (.int .i64 s.role) (.int .i64 s.n) (.int .i64 s.st) (.int .i64 s.tail) (.int .i64 s.lost) (.int .i64 s.built)
  have h9 := HE.sel [1] (by decide) (by simp)
  simp only [List.map_cons, List.map_nil, pick, List.getD_cons_succ, List.getD_cons_zero, List.set_cons_zero, List.set_cons_succ, List.eraseIdx_cons_zero, List.eraseIdx_cons_succ, List.setIfInBounds_toArray] at h9
  refine bodyPost_ret (results_cc rfl _ _ w.heap.size (w.heap.size + 1) 30 53 #[.slice A1 m.secs.length d1, .slice A2 m.cache.length d2, .bool m.failed, .slice A3 m.bad.length d3] #[.int .i64 s.id, .int .i64 s.gen, .int .i64 s.role, .int .i64 s.n, .int .i64 s.st, .int .i64 s.tail, .int .i64 s.lost, .int .i64 s.built] (0, 0) (0, 0) _ _ rfl (HE.get 3 rfl) Try.underlying30 rfl (by kernel_rfl) rfl (HE.get 2 rfl) Try.underlying53 rfl (by kernel_rfl)) rfl ?_
  exact ⟨_, F, m, s, rfl, HM.out, h9⟩
end Go.Proofs.Ytlmnmcfieagmbaa.MDraw9
