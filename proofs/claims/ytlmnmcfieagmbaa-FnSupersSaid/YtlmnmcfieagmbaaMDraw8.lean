/- What a disk knows, drawn, bent or not: l4Any. -/
import Derived.Test.YtlmnmcfieagmbaaMDraw7
import Derived.Test.YtlmnmcfieagmbaaMDraw4
import Derived.Test.YtlmnmcfieagmbaaMWSuper
namespace Go.Proofs.Ytlmnmcfieagmbaa.MDraw8
open Go.RowKit Go.Proofs.Ytlmnmcfieagmbaa.RJ Go.Proofs.Ytlmnmcfieagmbaa.RP Go.Proofs.YtlmnmcfieagmbaaW.PrintWords Go.Proofs.Ytlmnmcfieagmbaa.Fp Go.Proofs.Ytlmnmcfieagmbaa.FpStep Go.Proofs.Ytlmnmcfieagmbaa.MInt Go.Proofs.Ytlmnmcfieagmbaa.MKinds Go.Proofs.Ytlmnmcfieagmbaa.MRead Go.Proofs.Ytlmnmcfieagmbaa.MMake Go.Proofs.Ytlmnmcfieagmbaa.MPut Go.Proofs.Ytlmnmcfieagmbaa.MSuper Go.Proofs.Ytlmnmcfieagmbaa.Sep Go.Proofs.Ytlmnmcfieagmbaa.SepStep Go.Proofs.Ytlmnmcfieagmbaa.MDraw Go.Proofs.Ytlmnmcfieagmbaa.MDraw2 Go.Proofs.Ytlmnmcfieagmbaa.MDraw7 Go.Proofs.Ytlmnmcfieagmbaa.MDraw3 Go.Proofs.Ytlmnmcfieagmbaa.MDraw4 Go.Proofs.Ytlmnmcfieagmbaa.MVal Go.Proofs.Ytlmnmcfieagmbaa.MValB Go.Proofs.Ytlmnmcfieagmbaa.MWSuper
set_option linter.unusedVariables false
set_option linter.unusedSimpArgs false
attribute [local go_sem ↓] Go.wp_at_zero Go.wp_at_succ
set_option maxHeartbeats 8000000 in
set_option maxRecDepth 100000 in
theorem c_l4Any {w0 w : World} {L : List Res} {g : Nat} {B : Value} {bs : List Int} {i h : Int} (hs : Sep w0 [] w (cur g B i h :: L)) (hB : RK (Kd.int .u8) w0 B bs) (hi : 0 ≤ i ∧ i ≤ bs.length) :
    Calls Try.prog 126 #[.pointer (some ⟨g, 0, none⟩)] w fun e w' => ∃ (s : SupV) (i' h' : Int), e = .returned (.agg (supA s)) ∧ (0 ≤ i' ∧ i' ≤ bs.length) ∧ Sep w0 [] w' (cur g B i' h' :: L) := by
  have H0 := Aside0.mk ((hs.alloc (g := w.heap.size) rfl #[.int .i64 0, .int .i64 0, .int .i64 0, .int .i64 0, .int .i64 0, .int .i64 0, .int .i64 0, .int .i64 0] 53).perm (List.Perm.swap _ _ _))
  clear hs
  go_enter Try.func126, Try.ntmps126
  go_upto_region 2 with (first
    | (go_at_call 128; refine (c_l4Draw H0.out hB hi).mono ?_; rintro e w1 ⟨s, i1, h1, he, hsup, hi1, hs1⟩; simp only [supA] at he; subst he; have HS1 := Aside0.mk hs1; clear hs1)
    | fail)
  have hq := HS1.out.alloc (g := w1.heap.size) rfl #[.int .i64 s.id, .int .i64 s.gen, .int .i64 s.role, .int .i64 s.n, .int .i64 s.st, .int .i64 s.tail, .int .i64 s.lost, .int .i64 s.built] 53
  generalize hgw : w1.heap.size = gs at *
  generalize hww : w1.alloc (.cells #[.int .i64 s.id, .int .i64 s.gen, .int .i64 s.role, .int .i64 s.n, .int .i64 s.st, .int .i64 s.tail, .int .i64 s.lost, .int .i64 s.built] 53 (0, 0)) = w2 at *
  have hr := hq.selT 3 [1, 0, 2] (by decide) (by simp <;> omega)
  simp only [List.map_cons, List.map_nil, pick, List.getD_cons_succ, List.getD_cons_zero, List.set_cons_zero, List.set_cons_succ, List.eraseIdx_cons_zero, List.eraseIdx_cons_succ, List.drop_succ_cons, List.drop_zero, List.append_eq, List.cons_append, List.nil_append, List.setIfInBounds_toArray] at hr
  have HS2 := Aside0.mk hr
  clear hq hr hgw hww HS1 H0
  go_upto_region 3 with (first
    | (go_at_call 129; refine (c_l1Below HS2.out hB hi1 (by omega)).mono ?_; rintro e w3 ⟨x, i3, h3, rfl, x0, x1, hi3, hs3⟩; have x2 := x1 (by omega); have HS3 := Aside0.mk hs3; clear hs3 x1)
    | fail)
  clear HS2
  obtain ⟨k0, k1, k2, k3, k4, k5, k6, k7⟩ := eight (HS3.out.get 1 rfl)
  have fk := blk_frozen (HS3.out.get 1 rfl)
  obtain ⟨z0, z1, z2, z3, z4, z5, z6, z7⟩ := eight (HS3.out.get 2 rfl)
  have fz := blk_frozen (HS3.out.get 2 rfl)
  obtain rfl | rfl | rfl | rfl | rfl | rfl | hx6 : x = 0 ∨ x = 1 ∨ x = 2 ∨ x = 3 ∨ x = 4 ∨ x = 5 ∨ 5 < x := by omega
  · go_upto_region 15 with (first
      | (go_at_call 119; have hn := new_lit HS3.out (g := w3.heap.size) rfl 3 (#[.int .i64 0, .int .i64 60001]) (l := [0, 60001]) (n := 2) rfl rfl (by decide); have hn2 := hn.perm (List.Perm.swap _ _ _); refine (c_l1Int hn2 hB hi3 (fun w' hw => O_RK (hw.get 0 rfl)) (by decide)).mono ?_; rintro e w4 ⟨y, i4, h4, rfl, hy, hi4, hs4⟩; have hr := hs4.selT 4 [0, 2, 3] (by decide) (by simp <;> omega); simp only [List.map_cons, List.map_nil, pick, List.getD_cons_succ, List.getD_cons_zero, List.set_cons_zero, List.set_cons_succ, List.eraseIdx_cons_zero, List.eraseIdx_cons_succ, List.drop_succ_cons, List.drop_zero, List.append_eq, List.cons_append, List.nil_append, List.setIfInBounds_toArray] at hr; have HS4 := Aside0.mk hr; clear hs4 hr hn hn2 fk fz k0 k1 k2 k3 k4 k5 k6 k7 z0 z1 z2 z3 z4 z5 z6 z7; obtain ⟨k0, k1, k2, k3, k4, k5, k6, k7⟩ := eight (HS4.out.get 1 rfl); have fk := blk_frozen (HS4.out.get 1 rfl); obtain ⟨z0, z1, z2, z3, z4, z5, z6, z7⟩ := eight (HS4.out.get 2 rfl); have fz := blk_frozen (HS4.out.get 2 rfl))
      | fail)
    have hB5 := HS4.out.setb 1 rfl 0 (.int .i64 y) (cs' := #[.int .i64 y, .int .i64 s.gen, .int .i64 s.role, .int .i64 s.n, .int .i64 s.st, .int .i64 s.tail, .int .i64 s.lost, .int .i64 s.built]) rfl
    simp only [List.map_cons, List.map_nil, pick, List.getD_cons_succ, List.getD_cons_zero, List.set_cons_zero, List.set_cons_succ, List.eraseIdx_cons_zero, List.eraseIdx_cons_succ, List.setIfInBounds_toArray] at hB5
    generalize hwq : World.setCell w4 ⟨gs, 0, none⟩ (.int .i64 y) = w5 at *
    have HS5 := Aside0.mk hB5
    clear hB5 hwq fk fz k0 k1 k2 k3 k4 k5 k6 k7 z0 z1 z2 z3 z4 z5 z6 z7
    obtain ⟨k0, k1, k2, k3, k4, k5, k6, k7⟩ := eight (HS5.out.get 1 rfl)
    obtain ⟨z0, z1, z2, z3, z4, z5, z6, z7⟩ := eight (HS5.out.get 2 rfl)
    have fz := blk_frozen (HS5.out.get 2 rfl)
    go_wp2
    have HE := HS5.out.box8 2 rfl (.int .i64 y) (.int .i64 s.gen) (.int .i64 s.role) (.int .i64 s.n) (.int .i64 s.st) (.int .i64 s.tail) (.int .i64 s.lost) (.int .i64 s.built)
    simp only [List.map_cons, List.map_nil, pick, List.getD_cons_succ, List.getD_cons_zero, List.set_cons_zero, List.set_cons_succ, List.eraseIdx_cons_zero, List.eraseIdx_cons_succ, List.setIfInBounds_toArray] at HE
    refine bodyPost_ret (results_cell_row rfl _ _ w.heap.size 53 #[.int .i64 y, .int .i64 s.gen, .int .i64 s.role, .int .i64 s.n, .int .i64 s.st, .int .i64 s.tail, .int .i64 s.lost, .int .i64 s.built] (0, 0) _ rfl (HE.get 2 rfl) Try.underlying53 rfl (by kernel_rfl)) rfl ?_
    have hB9 := HE.selT 3 [0] (by decide) (by simp <;> omega)
    simp only [List.map_cons, List.map_nil, pick, List.getD_cons_succ, List.getD_cons_zero, List.set_cons_zero, List.set_cons_succ, List.eraseIdx_cons_zero, List.eraseIdx_cons_succ, List.drop_succ_cons, List.drop_zero, List.append_eq, List.cons_append, List.nil_append, List.setIfInBounds_toArray] at hB9
    exact ⟨⟨y, s.gen, s.role, s.n, s.st, s.tail, s.lost, s.built⟩, _, _, rfl, hi4, hB9⟩
  · go_upto_region 15 with (first
      | (go_at_call 119; have hn := new_lit HS3.out (g := w3.heap.size) rfl 3 (#[.int .i64 (-1), .int .i64 60001]) (l := [(-1), 60001]) (n := 2) rfl rfl (by decide); have hn2 := hn.perm (List.Perm.swap _ _ _); refine (c_l1Int hn2 hB hi3 (fun w' hw => O_RK (hw.get 0 rfl)) (by decide)).mono ?_; rintro e w4 ⟨y, i4, h4, rfl, hy, hi4, hs4⟩; have hr := hs4.selT 4 [0, 2, 3] (by decide) (by simp <;> omega); simp only [List.map_cons, List.map_nil, pick, List.getD_cons_succ, List.getD_cons_zero, List.set_cons_zero, List.set_cons_succ, List.eraseIdx_cons_zero, List.eraseIdx_cons_succ, List.drop_succ_cons, List.drop_zero, List.append_eq, List.cons_append, List.nil_append, List.setIfInBounds_toArray] at hr; have HS4 := Aside0.mk hr; clear hs4 hr hn hn2 fk fz k0 k1 k2 k3 k4 k5 k6 k7 z0 z1 z2 z3 z4 z5 z6 z7; obtain ⟨k0, k1, k2, k3, k4, k5, k6, k7⟩ := eight (HS4.out.get 1 rfl); have fk := blk_frozen (HS4.out.get 1 rfl); obtain ⟨z0, z1, z2, z3, z4, z5, z6, z7⟩ := eight (HS4.out.get 2 rfl); have fz := blk_frozen (HS4.out.get 2 rfl))
      | fail)
    have hB5 := HS4.out.setb 1 rfl 1 (.int .i64 y) (cs' := #[.int .i64 s.id, .int .i64 y, .int .i64 s.role, .int .i64 s.n, .int .i64 s.st, .int .i64 s.tail, .int .i64 s.lost, .int .i64 s.built]) rfl
    simp only [List.map_cons, List.map_nil, pick, List.getD_cons_succ, List.getD_cons_zero, List.set_cons_zero, List.set_cons_succ, List.eraseIdx_cons_zero, List.eraseIdx_cons_succ, List.setIfInBounds_toArray] at hB5
    generalize hwq : World.setCell w4 ⟨gs, 1, none⟩ (.int .i64 y) = w5 at *
    have HS5 := Aside0.mk hB5
    clear hB5 hwq fk fz k0 k1 k2 k3 k4 k5 k6 k7 z0 z1 z2 z3 z4 z5 z6 z7
    obtain ⟨k0, k1, k2, k3, k4, k5, k6, k7⟩ := eight (HS5.out.get 1 rfl)
    obtain ⟨z0, z1, z2, z3, z4, z5, z6, z7⟩ := eight (HS5.out.get 2 rfl)
    have fz := blk_frozen (HS5.out.get 2 rfl)
    go_wp2
    have HE := HS5.out.box8 2 rfl (.int .i64 s.id) (.int .i64 y) (.int .i64 s.role) (.int .i64 s.n) (.int .i64 s.st) (.int .i64 s.tail) (.int .i64 s.lost) (.int .i64 s.built)
    simp only [List.map_cons, List.map_nil, pick, List.getD_cons_succ, List.getD_cons_zero, List.set_cons_zero, List.set_cons_succ, List.eraseIdx_cons_zero, List.eraseIdx_cons_succ, List.setIfInBounds_toArray] at HE
    refine bodyPost_ret (results_cell_row rfl _ _ w.heap.size 53 #[.int .i64 s.id, .int .i64 y, .int .i64 s.role, .int .i64 s.n, .int .i64 s.st, .int .i64 s.tail, .int .i64 s.lost, .int .i64 s.built] (0, 0) _ rfl (HE.get 2 rfl) Try.underlying53 rfl (by kernel_rfl)) rfl ?_
    have hB9 := HE.selT 3 [0] (by decide) (by simp <;> omega)
    simp only [List.map_cons, List.map_nil, pick, List.getD_cons_succ, List.getD_cons_zero, List.set_cons_zero, List.set_cons_succ, List.eraseIdx_cons_zero, List.eraseIdx_cons_succ, List.drop_succ_cons, List.drop_zero, List.append_eq, List.cons_append, List.nil_append, List.setIfInBounds_toArray] at hB9
    exact ⟨⟨s.id, y, s.role, s.n, s.st, s.tail, s.lost, s.built⟩, _, _, rfl, hi4, hB9⟩
  · go_upto_region 15 with (first
      | (go_at_call 119; have hn := new_lit HS3.out (g := w3.heap.size) rfl 3 (#[.int .i64 (-1), .int .i64 5]) (l := [(-1), 5]) (n := 2) rfl rfl (by decide); have hn2 := hn.perm (List.Perm.swap _ _ _); refine (c_l1Int hn2 hB hi3 (fun w' hw => O_RK (hw.get 0 rfl)) (by decide)).mono ?_; rintro e w4 ⟨y, i4, h4, rfl, hy, hi4, hs4⟩; have hr := hs4.selT 4 [0, 2, 3] (by decide) (by simp <;> omega); simp only [List.map_cons, List.map_nil, pick, List.getD_cons_succ, List.getD_cons_zero, List.set_cons_zero, List.set_cons_succ, List.eraseIdx_cons_zero, List.eraseIdx_cons_succ, List.drop_succ_cons, List.drop_zero, List.append_eq, List.cons_append, List.nil_append, List.setIfInBounds_toArray] at hr; have HS4 := Aside0.mk hr; clear hs4 hr hn hn2 fk fz k0 k1 k2 k3 k4 k5 k6 k7 z0 z1 z2 z3 z4 z5 z6 z7; obtain ⟨k0, k1, k2, k3, k4, k5, k6, k7⟩ := eight (HS4.out.get 1 rfl); have fk := blk_frozen (HS4.out.get 1 rfl); obtain ⟨z0, z1, z2, z3, z4, z5, z6, z7⟩ := eight (HS4.out.get 2 rfl); have fz := blk_frozen (HS4.out.get 2 rfl))
      | fail)
    have hB5 := HS4.out.setb 1 rfl 2 (.int .i64 y) (cs' := #[.int .i64 s.id, .int .i64 s.gen, .int .i64 y, .int .i64 s.n, .int .i64 s.st, .int .i64 s.tail, .int .i64 s.lost, .int .i64 s.built]) rfl
    simp only [List.map_cons, List.map_nil, pick, List.getD_cons_succ, List.getD_cons_zero, List.set_cons_zero, List.set_cons_succ, List.eraseIdx_cons_zero, List.eraseIdx_cons_succ, List.setIfInBounds_toArray] at hB5
    generalize hwq : World.setCell w4 ⟨gs, 2, none⟩ (.int .i64 y) = w5 at *
    have HS5 := Aside0.mk hB5
    clear hB5 hwq fk fz k0 k1 k2 k3 k4 k5 k6 k7 z0 z1 z2 z3 z4 z5 z6 z7
    obtain ⟨k0, k1, k2, k3, k4, k5, k6, k7⟩ := eight (HS5.out.get 1 rfl)
    obtain ⟨z0, z1, z2, z3, z4, z5, z6, z7⟩ := eight (HS5.out.get 2 rfl)
    have fz := blk_frozen (HS5.out.get 2 rfl)
    go_wp2
    have HE := HS5.out.box8 2 rfl (.int .i64 s.id) (.int .i64 s.gen) (.int .i64 y) (.int .i64 s.n) (.int .i64 s.st) (.int .i64 s.tail) (.int .i64 s.lost) (.int .i64 s.built)
    simp only [List.map_cons, List.map_nil, pick, List.getD_cons_succ, List.getD_cons_zero, List.set_cons_zero, List.set_cons_succ, List.eraseIdx_cons_zero, List.eraseIdx_cons_succ, List.setIfInBounds_toArray] at HE
    refine bodyPost_ret (results_cell_row rfl _ _ w.heap.size 53 #[.int .i64 s.id, .int .i64 s.gen, .int .i64 y, .int .i64 s.n, .int .i64 s.st, .int .i64 s.tail, .int .i64 s.lost, .int .i64 s.built] (0, 0) _ rfl (HE.get 2 rfl) Try.underlying53 rfl (by kernel_rfl)) rfl ?_
    have hB9 := HE.selT 3 [0] (by decide) (by simp <;> omega)
    simp only [List.map_cons, List.map_nil, pick, List.getD_cons_succ, List.getD_cons_zero, List.set_cons_zero, List.set_cons_succ, List.eraseIdx_cons_zero, List.eraseIdx_cons_succ, List.drop_succ_cons, List.drop_zero, List.append_eq, List.cons_append, List.nil_append, List.setIfInBounds_toArray] at hB9
    exact ⟨⟨s.id, s.gen, y, s.n, s.st, s.tail, s.lost, s.built⟩, _, _, rfl, hi4, hB9⟩
  · go_upto_region 15 with (first
      | (go_at_call 119; have hn := new_lit HS3.out (g := w3.heap.size) rfl 3 (#[.int .i64 2, .int .i64 6]) (l := [2, 6]) (n := 2) rfl rfl (by decide); have hn2 := hn.perm (List.Perm.swap _ _ _); refine (c_l1Int hn2 hB hi3 (fun w' hw => O_RK (hw.get 0 rfl)) (by decide)).mono ?_; rintro e w4 ⟨y, i4, h4, rfl, hy, hi4, hs4⟩; have hr := hs4.selT 4 [0, 2, 3] (by decide) (by simp <;> omega); simp only [List.map_cons, List.map_nil, pick, List.getD_cons_succ, List.getD_cons_zero, List.set_cons_zero, List.set_cons_succ, List.eraseIdx_cons_zero, List.eraseIdx_cons_succ, List.drop_succ_cons, List.drop_zero, List.append_eq, List.cons_append, List.nil_append, List.setIfInBounds_toArray] at hr; have HS4 := Aside0.mk hr; clear hs4 hr hn hn2 fk fz k0 k1 k2 k3 k4 k5 k6 k7 z0 z1 z2 z3 z4 z5 z6 z7; obtain ⟨k0, k1, k2, k3, k4, k5, k6, k7⟩ := eight (HS4.out.get 1 rfl); have fk := blk_frozen (HS4.out.get 1 rfl); obtain ⟨z0, z1, z2, z3, z4, z5, z6, z7⟩ := eight (HS4.out.get 2 rfl); have fz := blk_frozen (HS4.out.get 2 rfl))
      | fail)
    have hB5 := HS4.out.setb 1 rfl 3 (.int .i64 y) (cs' := #[.int .i64 s.id, .int .i64 s.gen, .int .i64 s.role, .int .i64 y, .int .i64 s.st, .int .i64 s.tail, .int .i64 s.lost, .int .i64 s.built]) rfl
    simp only [List.map_cons, List.map_nil, pick, List.getD_cons_succ, List.getD_cons_zero, List.set_cons_zero, List.set_cons_succ, List.eraseIdx_cons_zero, List.eraseIdx_cons_succ, List.setIfInBounds_toArray] at hB5
    generalize hwq : World.setCell w4 ⟨gs, 3, none⟩ (.int .i64 y) = w5 at *
    have HS5 := Aside0.mk hB5
    clear hB5 hwq fk fz k0 k1 k2 k3 k4 k5 k6 k7 z0 z1 z2 z3 z4 z5 z6 z7
    obtain ⟨k0, k1, k2, k3, k4, k5, k6, k7⟩ := eight (HS5.out.get 1 rfl)
    obtain ⟨z0, z1, z2, z3, z4, z5, z6, z7⟩ := eight (HS5.out.get 2 rfl)
    have fz := blk_frozen (HS5.out.get 2 rfl)
    go_wp2
    have HE := HS5.out.box8 2 rfl (.int .i64 s.id) (.int .i64 s.gen) (.int .i64 s.role) (.int .i64 y) (.int .i64 s.st) (.int .i64 s.tail) (.int .i64 s.lost) (.int .i64 s.built)
    simp only [List.map_cons, List.map_nil, pick, List.getD_cons_succ, List.getD_cons_zero, List.set_cons_zero, List.set_cons_succ, List.eraseIdx_cons_zero, List.eraseIdx_cons_succ, List.setIfInBounds_toArray] at HE
    refine bodyPost_ret (results_cell_row rfl _ _ w.heap.size 53 #[.int .i64 s.id, .int .i64 s.gen, .int .i64 s.role, .int .i64 y, .int .i64 s.st, .int .i64 s.tail, .int .i64 s.lost, .int .i64 s.built] (0, 0) _ rfl (HE.get 2 rfl) Try.underlying53 rfl (by kernel_rfl)) rfl ?_
    have hB9 := HE.selT 3 [0] (by decide) (by simp <;> omega)
    simp only [List.map_cons, List.map_nil, pick, List.getD_cons_succ, List.getD_cons_zero, List.set_cons_zero, List.set_cons_succ, List.eraseIdx_cons_zero, List.eraseIdx_cons_succ, List.drop_succ_cons, List.drop_zero, List.append_eq, List.cons_append, List.nil_append, List.setIfInBounds_toArray] at hB9
    exact ⟨⟨s.id, s.gen, s.role, y, s.st, s.tail, s.lost, s.built⟩, _, _, rfl, hi4, hB9⟩
  · go_upto_region 15 with (first
      | (go_at_call 119; have hn := new_lit HS3.out (g := w3.heap.size) rfl 3 (#[.int .i64 (-2), .int .i64 (-1), .int .i64 5]) (l := [(-2), (-1), 5]) (n := 3) rfl rfl (by decide); have hn2 := hn.perm (List.Perm.swap _ _ _); refine (c_l1Int hn2 hB hi3 (fun w' hw => O_RK (hw.get 0 rfl)) (by decide)).mono ?_; rintro e w4 ⟨y, i4, h4, rfl, hy, hi4, hs4⟩; have hr := hs4.selT 4 [0, 2, 3] (by decide) (by simp <;> omega); simp only [List.map_cons, List.map_nil, pick, List.getD_cons_succ, List.getD_cons_zero, List.set_cons_zero, List.set_cons_succ, List.eraseIdx_cons_zero, List.eraseIdx_cons_succ, List.drop_succ_cons, List.drop_zero, List.append_eq, List.cons_append, List.nil_append, List.setIfInBounds_toArray] at hr; have HS4 := Aside0.mk hr; clear hs4 hr hn hn2 fk fz k0 k1 k2 k3 k4 k5 k6 k7 z0 z1 z2 z3 z4 z5 z6 z7; obtain ⟨k0, k1, k2, k3, k4, k5, k6, k7⟩ := eight (HS4.out.get 1 rfl); have fk := blk_frozen (HS4.out.get 1 rfl); obtain ⟨z0, z1, z2, z3, z4, z5, z6, z7⟩ := eight (HS4.out.get 2 rfl); have fz := blk_frozen (HS4.out.get 2 rfl))
      | fail)
    have hB5 := HS4.out.setb 1 rfl 6 (.int .i64 y) (cs' := #[.int .i64 s.id, .int .i64 s.gen, .int .i64 s.role, .int .i64 s.n, .int .i64 s.st, .int .i64 s.tail, .int .i64 y, .int .i64 s.built]) rfl
    simp only [List.map_cons, List.map_nil, pick, List.getD_cons_succ, List.getD_cons_zero, List.set_cons_zero, List.set_cons_succ, List.eraseIdx_cons_zero, List.eraseIdx_cons_succ, List.setIfInBounds_toArray] at hB5
    generalize hwq : World.setCell w4 ⟨gs, 6, none⟩ (.int .i64 y) = w5 at *
    have HS5 := Aside0.mk hB5
    clear hB5 hwq fk fz k0 k1 k2 k3 k4 k5 k6 k7 z0 z1 z2 z3 z4 z5 z6 z7
    obtain ⟨k0, k1, k2, k3, k4, k5, k6, k7⟩ := eight (HS5.out.get 1 rfl)
    obtain ⟨z0, z1, z2, z3, z4, z5, z6, z7⟩ := eight (HS5.out.get 2 rfl)
    have fz := blk_frozen (HS5.out.get 2 rfl)
    go_wp2
    have HE := HS5.out.box8 2 rfl (.int .i64 s.id) (.int .i64 s.gen) (.int .i64 s.role) (.int .i64 s.n) (.int .i64 s.st) (.int .i64 s.tail) (.int .i64 y) (.int .i64 s.built)
    simp only [List.map_cons, List.map_nil, pick, List.getD_cons_succ, List.getD_cons_zero, List.set_cons_zero, List.set_cons_succ, List.eraseIdx_cons_zero, List.eraseIdx_cons_succ, List.setIfInBounds_toArray] at HE
    refine bodyPost_ret (results_cell_row rfl _ _ w.heap.size 53 #[.int .i64 s.id, .int .i64 s.gen, .int .i64 s.role, .int .i64 s.n, .int .i64 s.st, .int .i64 s.tail, .int .i64 y, .int .i64 s.built] (0, 0) _ rfl (HE.get 2 rfl) Try.underlying53 rfl (by kernel_rfl)) rfl ?_
    have hB9 := HE.selT 3 [0] (by decide) (by simp <;> omega)
    simp only [List.map_cons, List.map_nil, pick, List.getD_cons_succ, List.getD_cons_zero, List.set_cons_zero, List.set_cons_succ, List.eraseIdx_cons_zero, List.eraseIdx_cons_succ, List.drop_succ_cons, List.drop_zero, List.append_eq, List.cons_append, List.nil_append, List.setIfInBounds_toArray] at hB9
    exact ⟨⟨s.id, s.gen, s.role, s.n, s.st, s.tail, y, s.built⟩, _, _, rfl, hi4, hB9⟩
  · go_upto_region 15 with (first
      | (go_at_call 119; have hn := new_lit HS3.out (g := w3.heap.size) rfl 3 (#[.int .i64 (-1), .int .i64 1, .int .i64 9]) (l := [(-1), 1, 9]) (n := 3) rfl rfl (by decide); have hn2 := hn.perm (List.Perm.swap _ _ _); refine (c_l1Int hn2 hB hi3 (fun w' hw => O_RK (hw.get 0 rfl)) (by decide)).mono ?_; rintro e w4 ⟨y, i4, h4, rfl, hy, hi4, hs4⟩; have hr := hs4.selT 4 [0, 2, 3] (by decide) (by simp <;> omega); simp only [List.map_cons, List.map_nil, pick, List.getD_cons_succ, List.getD_cons_zero, List.set_cons_zero, List.set_cons_succ, List.eraseIdx_cons_zero, List.eraseIdx_cons_succ, List.drop_succ_cons, List.drop_zero, List.append_eq, List.cons_append, List.nil_append, List.setIfInBounds_toArray] at hr; have HS4 := Aside0.mk hr; clear hs4 hr hn hn2 fk fz k0 k1 k2 k3 k4 k5 k6 k7 z0 z1 z2 z3 z4 z5 z6 z7; obtain ⟨k0, k1, k2, k3, k4, k5, k6, k7⟩ := eight (HS4.out.get 1 rfl); have fk := blk_frozen (HS4.out.get 1 rfl); obtain ⟨z0, z1, z2, z3, z4, z5, z6, z7⟩ := eight (HS4.out.get 2 rfl); have fz := blk_frozen (HS4.out.get 2 rfl))
      | fail)
    have hB5 := HS4.out.setb 1 rfl 7 (.int .i64 y) (cs' := #[.int .i64 s.id, .int .i64 s.gen, .int .i64 s.role, .int .i64 s.n, .int .i64 s.st, .int .i64 s.tail, .int .i64 s.lost, .int .i64 y]) rfl
    simp only [List.map_cons, List.map_nil, pick, List.getD_cons_succ, List.getD_cons_zero, List.set_cons_zero, List.set_cons_succ, List.eraseIdx_cons_zero, List.eraseIdx_cons_succ, List.setIfInBounds_toArray] at hB5
    generalize hwq : World.setCell w4 ⟨gs, 7, none⟩ (.int .i64 y) = w5 at *
    have HS5 := Aside0.mk hB5
    clear hB5 hwq fk fz k0 k1 k2 k3 k4 k5 k6 k7 z0 z1 z2 z3 z4 z5 z6 z7
    obtain ⟨k0, k1, k2, k3, k4, k5, k6, k7⟩ := eight (HS5.out.get 1 rfl)
    obtain ⟨z0, z1, z2, z3, z4, z5, z6, z7⟩ := eight (HS5.out.get 2 rfl)
    have fz := blk_frozen (HS5.out.get 2 rfl)
    go_wp2
    have HE := HS5.out.box8 2 rfl (.int .i64 s.id) (.int .i64 s.gen) (.int .i64 s.role) (.int .i64 s.n) (.int .i64 s.st) (.int .i64 s.tail) (.int .i64 s.lost) (.int .i64 y)
    simp only [List.map_cons, List.map_nil, pick, List.getD_cons_succ, List.getD_cons_zero, List.set_cons_zero, List.set_cons_succ, List.eraseIdx_cons_zero, List.eraseIdx_cons_succ, List.setIfInBounds_toArray] at HE
    refine bodyPost_ret (results_cell_row rfl _ _ w.heap.size 53 #[.int .i64 s.id, .int .i64 s.gen, .int .i64 s.role, .int .i64 s.n, .int .i64 s.st, .int .i64 s.tail, .int .i64 s.lost, .int .i64 y] (0, 0) _ rfl (HE.get 2 rfl) Try.underlying53 rfl (by kernel_rfl)) rfl ?_
    have hB9 := HE.selT 3 [0] (by decide) (by simp <;> omega)
    simp only [List.map_cons, List.map_nil, pick, List.getD_cons_succ, List.getD_cons_zero, List.set_cons_zero, List.set_cons_succ, List.eraseIdx_cons_zero, List.eraseIdx_cons_succ, List.drop_succ_cons, List.drop_zero, List.append_eq, List.cons_append, List.nil_append, List.setIfInBounds_toArray] at hB9
    exact ⟨⟨s.id, s.gen, s.role, s.n, s.st, s.tail, s.lost, y⟩, _, _, rfl, hi4, hB9⟩
  · have e0 : ¬ x = 0 := by omega
    have e1 : ¬ x = 1 := by omega
    have e2 : ¬ x = 2 := by omega
    have e3 : ¬ x = 3 := by omega
    have e4 : ¬ x = 4 := by omega
    have e5 : ¬ x = 5 := by omega
    go_wp2
    have HE := HS3.out.box8 2 rfl (.int .i64 s.id) (.int .i64 s.gen) (.int .i64 s.role) (.int .i64 s.n) (.int .i64 s.st) (.int .i64 s.tail) (.int .i64 s.lost) (.int .i64 s.built)
    simp only [List.map_cons, List.map_nil, pick, List.getD_cons_succ, List.getD_cons_zero, List.set_cons_zero, List.set_cons_succ, List.eraseIdx_cons_zero, List.eraseIdx_cons_succ, List.setIfInBounds_toArray] at HE
    refine bodyPost_ret (results_cell_row rfl _ _ w.heap.size 53 #[.int .i64 s.id, .int .i64 s.gen, .int .i64 s.role, .int .i64 s.n, .int .i64 s.st, .int .i64 s.tail, .int .i64 s.lost, .int .i64 s.built] (0, 0) _ rfl (HE.get 2 rfl) Try.underlying53 rfl (by kernel_rfl)) rfl ?_
    have hB9 := HE.selT 3 [0] (by decide) (by simp <;> omega)
    simp only [List.map_cons, List.map_nil, pick, List.getD_cons_succ, List.getD_cons_zero, List.set_cons_zero, List.set_cons_succ, List.eraseIdx_cons_zero, List.eraseIdx_cons_succ, List.drop_succ_cons, List.drop_zero, List.append_eq, List.cons_append, List.nil_append, List.setIfInBounds_toArray] at hB9
    exact ⟨s, _, _, rfl, hi3, hB9⟩
theorem tiny_wsup {m : MemV} {s : SupV} (h : Tiny m) : Tiny (wsupV m s) := by
  unfold wsupV
  by_cases hs : supB s = true
  · rw [if_pos hs]
    exact tiny_write h _ (by have := Go.Proofs.Ytlmnmcfieagmbaa.MWSuper.putSup_len s; omega)
  · rw [if_neg hs]; exact h
set_option maxHeartbeats 8000000 in
set_option maxRecDepth 100000 in
theorem c_l4Mem {w0 w : World} {L : List Res} {g : Nat} {B : Value} {bs : List Int} {i h : Int} (hs : Sep w0 [] w (cur g B i h :: L)) (hB : RK (Kd.int .u8) w0 B bs) (hi : 0 ≤ i ∧ i ≤ bs.length) :
    Calls Try.prog 130 #[.pointer (some ⟨g, 0, none⟩)] w fun e w' => ∃ (u : Value) (F : List Nat) (m : MemV) (i' h' : Int), e = .returned u ∧ Tiny m ∧ (0 ≤ i' ∧ i' ≤ bs.length) ∧ Sep w0 [] w' (me F u m :: cur g B i' h' :: L) := by
  have H0 := Aside0.mk ((hs.alloc (g := w.heap.size) rfl #[.slice none 0 0, .slice none 0 0, .bool false, .slice none 0 0] 30).perm (List.Perm.swap _ _ _))
  clear hs
  go_enter Try.func130, Try.ntmps130
  go_upto_region 2 with (first
    | (go_at_call 115; refine (c_l2Any H0.out hB hi).mono ?_; rintro e w1 ⟨u, F, m, i1, h1, rfl, hm, hi1, hs1⟩; obtain ⟨A1, d1, A2, d2, A3, d3, rfl⟩ := me_form hs1; have HM := Aside0.mk hm; have HS1 := Aside0.mk hs1; clear hm hs1)
    | fail)
  have hq := HS1.out.alloc (g := w1.heap.size) rfl #[.slice A1 m.secs.length d1, .slice A2 m.cache.length d2, .bool m.failed, .slice A3 m.bad.length d3] 30
  generalize hgw : w1.heap.size = gm at *
  generalize hww : w1.alloc (.cells #[.slice A1 m.secs.length d1, .slice A2 m.cache.length d2, .bool m.failed, .slice A3 m.bad.length d3] 30 (0, 0)) = w2 at *
  have hr := hq.selT 4 [2, 1, 0, 3] (by decide) (by simp <;> omega)
  simp only [List.map_cons, List.map_nil, pick, List.getD_cons_succ, List.getD_cons_zero, List.set_cons_zero, List.set_cons_succ, List.eraseIdx_cons_zero, List.eraseIdx_cons_succ, List.drop_succ_cons, List.drop_zero, List.append_eq, List.cons_append, List.nil_append, List.setIfInBounds_toArray] at hr
  have HS2 := Aside0.mk hr
  clear hq hr hgw hww HS1 H0
  go_upto_region 3 with (first
    | (go_at_call 129; refine (c_l1Below HS2.out hB hi1 (by omega)).mono ?_; rintro e w3 ⟨x, i3, h3, rfl, x0, x1, hi3, hs3⟩; have x2 := x1 (by omega); have HS3 := Aside0.mk hs3; clear hs3 x1 HS2)
    | fail)
  obtain ⟨q, rfl⟩ : ∃ q : Nat, x = (q : Int) := ⟨x.toNat, by omega⟩
  go_loopw [4] (fun v9 wr => ∃ (q : Nat) (F : List Nat) (m : MemV) (A1 : Option Addr) (d1 : Nat) (A2 : Option Addr) (d2 : Nat) (A3 : Option Addr) (d3 : Nat) (i2 h2 : Int), q ≤ 3 ∧ v9 = .int .i64 q ∧ Aside0 (Tiny m) ∧ (0 ≤ i2 ∧ i2 ≤ bs.length) ∧ Aside0 (Sep w0 [] wr (cur g B i2 h2 :: me F (.agg #[.slice A1 m.secs.length d1, .slice A2 m.cache.length d2, .bool m.failed, .slice A3 m.bad.length d3]) m :: bx gm 30 #[.slice A1 m.secs.length d1, .slice A2 m.cache.length d2, .bool m.failed, .slice A3 m.bad.length d3] :: bx w.heap.size 30 #[.slice none 0 0, .slice none 0 0, .bool false, .slice none 0 0] :: L))) (fun v9 _ => (intOf v9).toNat)
  case atStart => exact ⟨q, F, m, A1, d1, A2, d2, A3, d3, i3, h3, by omega, rfl, HM, hi3, HS3⟩
  case round =>
    clear HM HS3
    obtain ⟨q, F, m, A1, d1, A2, d2, A3, d3, i2, h2, hq3, rfl, HM, hi2, HR⟩ := hrel
    by_cases hq0 : 0 < q
    · have q0 : (0 : Int) < (q : Int) := by omega
      have hwq : IntKind.i64.wrap ((q : Int) - 1) = (q : Int) - 1 := by rw [IntKind.wrap_i64]; omega
      obtain ⟨d0_, d1_, d2_, d3_⟩ := four (HR.out.get 2 rfl)
      go_upto_region 5 with fail
      refine wp_region_seqp (fun w' => w'.cell? ⟨gm, 0, none⟩ = some (.slice A1 m.secs.length d1) ∧ w'.cell? ⟨gm, 1, none⟩ = some (.slice A2 m.cache.length d2) ∧ w'.cell? ⟨gm, 2, none⟩ = some (.bool m.failed) ∧ w'.cell? ⟨gm, 3, none⟩ = some (.slice A3 m.bad.length d3)) [4] [(1, 2), (0, 1), (2, 0), (3, 0), (4, 0)] (by kernel_rfl) (by kernel_rfl) ?_
      have hS : (fun w' : World => w'.cell? ⟨gm, 0, none⟩ = some (.slice A1 m.secs.length d1) ∧ w'.cell? ⟨gm, 1, none⟩ = some (.slice A2 m.cache.length d2) ∧ w'.cell? ⟨gm, 2, none⟩ = some (.bool m.failed) ∧ w'.cell? ⟨gm, 3, none⟩ = some (.slice A3 m.bad.length d3)) wr.drew := ⟨d0_, d1_, d2_, d3_⟩
      clear d0_ d1_ d2_ d3_
      have HRD := Aside0.mk HR.out.drew
      generalize hwd : wr.drew = wd at *
      clear hwd HR
      repeat ((first | (refine seqp_pure rfl (fun _ _ _ h => h) (by rfl) (fun w_ => by go_simp; first | done | with_reducible rfl) ?_) | (refine seqp_take hS rfl (fun _ _ _ h => h) (by rfl) (fun w_ hSw => by (try dsimp only at hSw); go_simp; first | done | with_reducible rfl) ?_) | (refine seqp_skip2 rfl (fun _ _ _ h => h) (by rfl) ?_) | (refine seqp_skip1 hS rfl (fun _ _ _ h => h) (by rfl) ?_) | (refine seqp_skip0 rfl (by rfl) ?_)); (try simp only [Act.put, List.getElem_toArray, List.getElem_cons_succ, List.getElem_cons_zero, List.setIfInBounds_toArray, List.set_cons_zero, List.set_cons_succ]))
      refine seqp_step rfl (fun K hK => ?_)
      go_simp
      go_at_call 128; refine (c_l4Draw HRD.out hB hi2).mono ?_; rintro e w5 ⟨s, i5, h5, he, hsup, hi5, hs5⟩; simp only [supA] at he; subst he; have HS5 := Aside0.mk hs5; clear hs5 HRD hS
      have hS : (fun w' : World => w'.cell? ⟨gm, 0, none⟩ = some (.slice A1 m.secs.length d1) ∧ w'.cell? ⟨gm, 1, none⟩ = some (.slice A2 m.cache.length d2) ∧ w'.cell? ⟨gm, 2, none⟩ = some (.bool m.failed) ∧ w'.cell? ⟨gm, 3, none⟩ = some (.slice A3 m.bad.length d3)) w5 := four (HS5.out.get 2 rfl)
      refine hK.out _ _ ⟨fun _ _ => hS, ?_⟩; clear hK K; (try simp only [Act.put, List.getElem_toArray, List.getElem_cons_succ, List.getElem_cons_zero, List.setIfInBounds_toArray, List.set_cons_zero, List.set_cons_succ])
      refine seqp_step rfl (fun K hK => ?_)
      go_simp
      go_at_call 53; refine (c_specWriteSuper _ _ _ _ _ _ _ _ (MemO_R (HS5.out.get 1 rfl)) (tiny_small HM.out)).mono ?_; rintro e w6 ⟨u6, F6, rfl, hn⟩
      obtain ⟨m2, hm2⟩ : ∃ m2, wsupV m ⟨s.id, s.gen, s.role, s.n, s.st, s.tail, s.lost, s.built⟩ = m2 := ⟨_, rfl⟩
      rw [hm2] at hn
      have HM2 := Aside0.mk (show Tiny m2 by rw [← hm2]; exact tiny_wsup HM.out)
      clear hm2
      have hs6 := HS5.out.new hn
      obtain ⟨B1, e1, B2, e2, B3, e3, rfl⟩ := me_form hs6
      have hr := hs6.selT 5 [1, 0, 3, 4] (by decide) (by simp <;> omega)
      simp only [List.map_cons, List.map_nil, pick, List.getD_cons_succ, List.getD_cons_zero, List.set_cons_zero, List.set_cons_succ, List.eraseIdx_cons_zero, List.eraseIdx_cons_succ, List.drop_succ_cons, List.drop_zero, List.append_eq, List.cons_append, List.nil_append, List.setIfInBounds_toArray] at hr
      have HS6 := Aside0.mk hr
      clear hs6 hr hn hS HS5
      have hS : (fun w' : World => w'.cell? ⟨gm, 0, none⟩ = some (.slice A1 m.secs.length d1) ∧ w'.cell? ⟨gm, 1, none⟩ = some (.slice A2 m.cache.length d2) ∧ w'.cell? ⟨gm, 2, none⟩ = some (.bool m.failed) ∧ w'.cell? ⟨gm, 3, none⟩ = some (.slice A3 m.bad.length d3)) w6 := four (HS6.out.get 2 rfl)
      refine hK.out _ _ ⟨fun _ _ => hS, ?_⟩; clear hK K; (try simp only [Act.put, List.getElem_toArray, List.getElem_cons_succ, List.getElem_cons_zero, List.setIfInBounds_toArray, List.set_cons_zero, List.set_cons_succ])
      obtain ⟨d0_, d1_, d2_, d3_⟩ := four (HS6.out.get 2 rfl)
      have gz := blk_frozen (HS6.out.get 2 rfl)
      have f0 := gz 0
      have f1 := gz 1
      have f2 := gz 2
      have f3 := gz 3
      refine seqp_step rfl (fun K hK => ?_)
      go_simp
      refine hK.out _ _ ⟨(fun h => (by cases h)), ?_⟩; clear hK K; (try simp only [Act.put, List.getElem_toArray, List.getElem_cons_succ, List.getElem_cons_zero, List.setIfInBounds_toArray, List.set_cons_zero, List.set_cons_succ])
      clear hS
      refine seqp_done ?_
      go_wp2
      go_roundw
      case rel =>
        have hE := HS6.out.box4 2 rfl (.slice B1 m2.secs.length e1) (.slice B2 m2.cache.length e2) (.bool m2.failed) (.slice B3 m2.bad.length e3)
        simp only [List.map_cons, List.map_nil, pick, List.getD_cons_succ, List.getD_cons_zero, List.set_cons_zero, List.set_cons_succ, List.eraseIdx_cons_zero, List.eraseIdx_cons_succ, List.setIfInBounds_toArray] at hE
        exact ⟨q - 1, F6, m2, B1, e1, B2, e2, B3, e3, i5, h5, by omega, by (congr 1; omega), HM2, hi5, ⟨hE⟩⟩
      case measure => simp [intOf]; omega
    · obtain rfl : q = 0 := by omega
      obtain ⟨d0_, d1_, d2_, d3_⟩ := four (HR.out.get 2 rfl)
      obtain ⟨z0, z1, z2, z3⟩ := four (HR.out.get 3 rfl)
      have fz := blk_frozen (HR.out.get 3 rfl)
      go_wp2
      have HE := HR.out.box4 3 rfl (.slice A1 m.secs.length d1) (.slice A2 m.cache.length d2) (.bool m.failed) (.slice A3 m.bad.length d3)
      simp only [List.map_cons, List.map_nil, pick, List.getD_cons_succ, List.getD_cons_zero, List.set_cons_zero, List.set_cons_succ, List.eraseIdx_cons_zero, List.eraseIdx_cons_succ, List.setIfInBounds_toArray] at HE
      refine bodyPost_ret (results_cell_row rfl _ _ w.heap.size 30 #[.slice A1 m.secs.length d1, .slice A2 m.cache.length d2, .bool m.failed, .slice A3 m.bad.length d3] (0, 0) _ rfl (HE.get 3 rfl) Try.underlying30 rfl (by kernel_rfl)) rfl ?_
      have hB9 := HE.selT 4 [1, 0] (by decide) (by simp <;> omega)
      simp only [List.map_cons, List.map_nil, pick, List.getD_cons_succ, List.getD_cons_zero, List.set_cons_zero, List.set_cons_succ, List.eraseIdx_cons_zero, List.eraseIdx_cons_succ, List.drop_succ_cons, List.drop_zero, List.append_eq, List.cons_append, List.nil_append, List.setIfInBounds_toArray] at hB9
      exact ⟨_, F, m, i2, h2, rfl, HM.out, hi2, hB9⟩
end Go.Proofs.Ytlmnmcfieagmbaa.MDraw8
