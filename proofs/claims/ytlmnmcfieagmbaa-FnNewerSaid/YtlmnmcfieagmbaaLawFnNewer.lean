/- The law FnNewer: it returns true. -/
import Derived.Test.YtlmnmcfieagmbaaMDraw9
import Derived.Test.YtlmnmcfieagmbaaMSame
import Derived.Test.YtlmnmcfieagmbaaPNewer
import Derived.Test.YtlmnmcfieagmbaaMLaw
import Derived.Test.YtlmnmcfieagmbaaRQ
namespace Go.Proofs.Ytlmnmcfieagmbaa.LawFnNewer
open Go.RowKit Go.Proofs.Ytlmnmcfieagmbaa.RJ Go.Proofs.Ytlmnmcfieagmbaa.RP Go.Proofs.Ytlmnmcfieagmbaa.RQ Go.Proofs.YtlmnmcfieagmbaaW.PrintWords Go.Proofs.Ytlmnmcfieagmbaa.Fp Go.Proofs.Ytlmnmcfieagmbaa.FpStep Go.Proofs.Ytlmnmcfieagmbaa.MInt Go.Proofs.Ytlmnmcfieagmbaa.MKinds Go.Proofs.Ytlmnmcfieagmbaa.MRead Go.Proofs.Ytlmnmcfieagmbaa.MMake Go.Proofs.Ytlmnmcfieagmbaa.MPut Go.Proofs.Ytlmnmcfieagmbaa.MOk Go.Proofs.Ytlmnmcfieagmbaa.MVal Go.Proofs.Ytlmnmcfieagmbaa.MValB Go.Proofs.Ytlmnmcfieagmbaa.Sep Go.Proofs.Ytlmnmcfieagmbaa.SepStep Go.Proofs.Ytlmnmcfieagmbaa.MSuper Go.Proofs.Ytlmnmcfieagmbaa.MReadS Go.Proofs.Ytlmnmcfieagmbaa.MDraw Go.Proofs.Ytlmnmcfieagmbaa.MSame Go.Proofs.Ytlmnmcfieagmbaa.MLaw Go.Proofs.Ytlmnmcfieagmbaa.MSuper Go.Proofs.Ytlmnmcfieagmbaa.MBest Go.Proofs.Ytlmnmcfieagmbaa.MWSuper Go.Proofs.Ytlmnmcfieagmbaa.MDraw7 Go.Proofs.Ytlmnmcfieagmbaa.MDraw8 Go.Proofs.Ytlmnmcfieagmbaa.MDraw9 Go.Proofs.Ytlmnmcfieagmbaa.PNewer
set_option linter.unusedVariables false
set_option linter.unusedSimpArgs false
attribute [local go_sem ↓] Go.wp_at_zero Go.wp_at_succ
set_option maxHeartbeats 8000000 in
set_option maxRecDepth 100000 in
theorem law_FnNewer {w : World} {B : Value} {bs : List Int} (hB : RK (Kd.int .u8) w B bs) : Calls Try.prog 7 #[B] w fun e w' => e = .returned (.bool true) ∧ Below w.heap.size w w' := by
  have HC := Aside0.mk hB
  have lx := RK_len hB
  obtain ⟨BA, Bc, rfl, _, _⟩ := hB
  by_cases hl0 : (1048576 : Int) < (bs.length : Int)
  · go_enter Try.func7, Try.ntmps7
    go_wp2_with (first | (go_at_call 18; refine (c_big HC.out).mono ?_; rw [decide_eq_true hl0]; rintro e w1 ⟨rfl, hb⟩; have HS1 := Aside0.mk ((Sep.start w []).dr hb); clear hb) | fail)
    go_ret
    exact ⟨rfl, HS1.out.toBelow⟩
  have hl : bs.length ≤ 16777216 := by omega
  go_enter Try.func7, Try.ntmps7
  go_upto_region 3 with (first | (go_at_call 18; refine (c_big HC.out).mono ?_; rw [decide_eq_false hl0]; rintro e w1 ⟨rfl, hb⟩; have HS1 := Aside0.mk ((Sep.start w []).dr hb); clear hb) | fail)
  clear hl0
  go_upto_region 4 with (first
    | (go_at_call 51; refine (c_DrawWriteSuper (HS1.out.rk HC.out) hl).mono ?_; rintro e w2 ⟨um, Fm, m, s, he, hm, hs⟩; simp only [supA] at he; subst he; obtain ⟨A1, d1, A2, d2, A3, d3, rfl⟩ := me_form hs; have hq := Sep.comp HS1.out hs; simp only [List.cons_append, List.nil_append] at hq; have HM := Aside0.mk hm; have HS2 := Aside0.mk hq; clear hm hs hq)
    | fail)
  have hB := (HS2.out.alloc (g := w2.heap.size) rfl #[.slice A1 m.secs.length d1, .slice A2 m.cache.length d2, .bool m.failed, .slice A3 m.bad.length d3] 30).alloc (g := w2.heap.size + 1) (by simp) #[.int .i64 s.id, .int .i64 s.gen, .int .i64 s.role, .int .i64 s.n, .int .i64 s.st, .int .i64 s.tail, .int .i64 s.lost, .int .i64 s.built] 53
  generalize hg4 : w2.heap.size + 1 = g4 at *
  generalize hg3 : w2.heap.size = g3 at *
  generalize hww : (w2.alloc (.cells #[.slice A1 m.secs.length d1, .slice A2 m.cache.length d2, .bool m.failed, .slice A3 m.bad.length d3] 30 (0, 0))).alloc (.cells #[.int .i64 s.id, .int .i64 s.gen, .int .i64 s.role, .int .i64 s.n, .int .i64 s.st, .int .i64 s.tail, .int .i64 s.lost, .int .i64 s.built] 53 (0, 0)) = w3 at *
  have HS3 := Aside0.mk hB
  clear hB hg3 hg4 hww HS2 HS1
  obtain ⟨k0, k1, k2, k3⟩ := four (HS3.out.get 1 rfl)
  obtain ⟨y0, y1, y2, y3, y4, y5, y6, y7⟩ := eight (HS3.out.get 0 rfl)
  obtain ⟨x, hx⟩ : ∃ x, wsupV m ⟨s.id, s.gen, s.role, s.n, s.st, s.tail, s.lost, s.built⟩ = x := ⟨_, rfl⟩
  have HX := Aside0.mk hx
  have HTX := Aside0.mk (show Tiny x by rw [← hx]; exact tiny_wsup HM.out)
  clear hx
  go_upto_region 5 with (first
    | (go_at_call 52; refine (c_implWriteSuper _ _ _ _ _ _ _ _ (MemO_R (HS3.out.get 2 rfl)) (tiny_small HM.out)).mono ?_; rw [HX.out]; rintro e w4 ⟨u4, F4, rfl, hn⟩; have hq := HS3.out.new hn; obtain ⟨B1, e1, B2, e2, B3, e3, rfl⟩ := me_form hq; have HS4 := Aside0.mk hq; clear hq hn k0 k1 k2 k3 y0 y1 y2 y3 y4 y5 y6 y7)
    | fail)
  have hB := HS4.out.alloc (g := w4.heap.size) rfl #[.slice B1 x.secs.length e1, .slice B2 x.cache.length e2, .bool x.failed, .slice B3 x.bad.length e3] 30
  generalize hg5 : w4.heap.size = g5 at *
  generalize hww : w4.alloc (.cells #[.slice B1 x.secs.length e1, .slice B2 x.cache.length e2, .bool x.failed, .slice B3 x.bad.length e3] 30 (0, 0)) = w5 at *
  have HS5 := Aside0.mk hB
  clear hB hg5 hww HS4 HS3
  obtain ⟨p0, p1, p2, p3⟩ := four (HS5.out.get 0 rfl)
  obtain ⟨y0, y1, y2, y3, y4, y5, y6, y7⟩ := eight (HS5.out.get 2 rfl)
  obtain ⟨k0, k1, k2, k3⟩ := four (HS5.out.get 3 rfl)
  have HALL : ∀ w' : World, Below w5.heap.size w5 w' → (w'.cell? ⟨g5, 0, none⟩ = some (.slice B1 x.secs.length e1) ∧ w'.cell? ⟨g5, 1, none⟩ = some (.slice B2 x.cache.length e2) ∧ w'.cell? ⟨g5, 2, none⟩ = some (.bool x.failed) ∧ w'.cell? ⟨g5, 3, none⟩ = some (.slice B3 x.bad.length e3) ∧ w'.cell? ⟨g4, 0, none⟩ = some (.int .i64 s.id) ∧ w'.cell? ⟨g4, 1, none⟩ = some (.int .i64 s.gen) ∧ w'.cell? ⟨g4, 2, none⟩ = some (.int .i64 s.role) ∧ w'.cell? ⟨g4, 3, none⟩ = some (.int .i64 s.n) ∧ w'.cell? ⟨g4, 4, none⟩ = some (.int .i64 s.st) ∧ w'.cell? ⟨g4, 5, none⟩ = some (.int .i64 s.tail) ∧ w'.cell? ⟨g4, 6, none⟩ = some (.int .i64 s.lost) ∧ w'.cell? ⟨g4, 7, none⟩ = some (.int .i64 s.built) ∧ w'.cell? ⟨g3, 0, none⟩ = some (.slice A1 m.secs.length d1) ∧ w'.cell? ⟨g3, 1, none⟩ = some (.slice A2 m.cache.length d2) ∧ w'.cell? ⟨g3, 2, none⟩ = some (.bool m.failed) ∧ w'.cell? ⟨g3, 3, none⟩ = some (.slice A3 m.bad.length d3)) := fun w' hb => ⟨(hb.cell (lt_of_cell p0)).trans p0, (hb.cell (lt_of_cell p1)).trans p1, (hb.cell (lt_of_cell p2)).trans p2, (hb.cell (lt_of_cell p3)).trans p3, (hb.cell (lt_of_cell y0)).trans y0, (hb.cell (lt_of_cell y1)).trans y1, (hb.cell (lt_of_cell y2)).trans y2, (hb.cell (lt_of_cell y3)).trans y3, (hb.cell (lt_of_cell y4)).trans y4, (hb.cell (lt_of_cell y5)).trans y5, (hb.cell (lt_of_cell y6)).trans y6, (hb.cell (lt_of_cell y7)).trans y7, (hb.cell (lt_of_cell k0)).trans k0, (hb.cell (lt_of_cell k1)).trans k1, (hb.cell (lt_of_cell k2)).trans k2, (hb.cell (lt_of_cell k3)).trans k3⟩
  replace HALL := Aside0.mk HALL
  clear p0 p1 p2 p3 y0 y1 y2 y3 y4 y5 y6 y7 k0 k1 k2 k3
  refine wp_region_seqp (fun w' => Below w5.heap.size w5 w') [] [(0, 1), (1, 1), (2, 1), (3, 0), (4, 0), (5, 2)] (by kernel_rfl) (by kernel_rfl) ?_
  have hS : Below w5.heap.size w5 w5.drew := Below.drew (Below.refl _ _)
  repeat ((first | (refine seqp_pure rfl (fun _ _ _ h => h) (by rfl) (fun w_ => by go_simp; first | done | with_reducible rfl) ?_) | (refine seqp_take hS rfl (fun _ _ _ h => h) (by rfl) (fun w_ hSw => by have hSc := HALL.out w_ hSw; clear hSw; go_simp; first | done | with_reducible rfl) ?_) | (refine seqp_skip2 rfl (fun _ _ _ h => h) (by rfl) ?_) | (refine seqp_skip1 hS rfl (fun _ _ _ h => h) (by rfl) ?_) | (refine seqp_skip0 rfl (by rfl) ?_)); (try simp only [Act.put, List.getElem_toArray, List.getElem_cons_succ, List.getElem_cons_zero, List.setIfInBounds_toArray, List.set_cons_zero, List.set_cons_succ]))
  refine seqp_step rfl (fun K hK => ?_)
  go_simp
  go_at_call 53; refine (c_specWriteSuper _ _ _ _ _ _ _ _ (MemO_R ((HS5.out.below hS).get 4 rfl)) (tiny_small HM.out)).mono ?_; rw [HX.out]; rintro e w6 ⟨u6, F6, rfl, hn⟩; have hq := (HS5.out.below hS).new hn; have hb := hn.below; obtain ⟨C1, f1, C2, f2, C3, f3, rfl⟩ := me_form hq; have HS6 := Aside0.mk hq; clear hq hn
  replace hS := hS.trans (hb.mono hS.size); clear hb; refine hK.out _ _ ⟨fun _ _ => hS, ?_⟩; clear hK K; (try simp only [Act.put, List.getElem_toArray, List.getElem_cons_succ, List.getElem_cons_zero, List.setIfInBounds_toArray, List.set_cons_zero, List.set_cons_succ])
  refine seqp_step rfl (fun K hK => ?_)
  go_simp
  go_at_call 31; refine (c_sameMem (MemO_R (HS6.out.get 2 rfl)) (MemO_R (HS6.out.get 0 rfl))).mono ?_; rw [decide_eq_true rfl]; rintro e w7 ⟨rfl, hb⟩; have HS7 := Aside0.mk (HS6.out.below hb)
  replace hS := hS.trans (hb.mono hS.size); clear hb; refine hK.out _ _ ⟨fun _ _ => hS, ?_⟩; clear hK K; (try simp only [Act.put, List.getElem_toArray, List.getElem_cons_succ, List.getElem_cons_zero, List.setIfInBounds_toArray, List.set_cons_zero, List.set_cons_succ])
  repeat ((first | (refine seqp_pure rfl (fun _ _ _ h => h) (by rfl) (fun w_ => by go_simp; first | done | with_reducible rfl) ?_) | (refine seqp_take hS rfl (fun _ _ _ h => h) (by rfl) (fun w_ hSw => by have hSc := HALL.out w_ hSw; clear hSw; go_simp; first | done | with_reducible rfl) ?_) | (refine seqp_skip2 rfl (fun _ _ _ h => h) (by rfl) ?_) | (refine seqp_skip1 hS rfl (fun _ _ _ h => h) (by rfl) ?_) | (refine seqp_skip0 rfl (by rfl) ?_)); (try simp only [Act.put, List.getElem_toArray, List.getElem_cons_succ, List.getElem_cons_zero, List.setIfInBounds_toArray, List.set_cons_zero, List.set_cons_succ]))
  clear hS HALL
  refine seqp_done ?_
  have hq := HS7.out.drop 0 rfl
  simp only [List.map_cons, List.map_nil, pick, List.getD_cons_succ, List.getD_cons_zero, List.set_cons_zero, List.set_cons_succ, List.eraseIdx_cons_zero, List.eraseIdx_cons_succ, List.setIfInBounds_toArray] at hq
  have HS8 := Aside0.mk hq
  clear hq HS7 HS6 HS5
  obtain ⟨y0, y1, y2, y3, y4, y5, y6, y7⟩ := eight (HS8.out.get 2 rfl)
  obtain ⟨k0, k1, k2, k3⟩ := four (HS8.out.get 3 rfl)
  obtain ⟨⟨a, was⟩, hab⟩ : ∃ r, bestN m s.id 2 = r := ⟨_, rfl⟩
  have HAB := Aside0.mk hab
  clear hab
  obtain ⟨⟨b, is⟩, hbb⟩ : ∃ r, bestN x s.id 2 = r := ⟨_, rfl⟩
  have HBB := Aside0.mk hbb
  clear hbb
  go_upto_region 8 with (first
    | (go_at_call 47; refine (c_implBestSuper (MemO_R (HS8.out.get 4 rfl)) (tiny_small HM.out)).mono ?_; rw [HAB.out]; rintro e w9 ⟨he, hb⟩; simp only [supA] at he; subst he; have HS9 := Aside0.mk (HS8.out.below hb); clear hb y0 y1 y2 y3 y4 y5 y6 y7 k0 k1 k2 k3)
    | fail)
  have hB := HS9.out.alloc (g := w9.heap.size) rfl #[.int .i64 a.id, .int .i64 a.gen, .int .i64 a.role, .int .i64 a.n, .int .i64 a.st, .int .i64 a.tail, .int .i64 a.lost, .int .i64 a.built] 53
  generalize hg6 : w9.heap.size = g6 at *
  generalize hww : w9.alloc (.cells #[.int .i64 a.id, .int .i64 a.gen, .int .i64 a.role, .int .i64 a.n, .int .i64 a.st, .int .i64 a.tail, .int .i64 a.lost, .int .i64 a.built] 53 (0, 0)) = w10 at *
  have HS10 := Aside0.mk hB
  clear hB hg6 hww HS9 HS8
  obtain ⟨p0, p1, p2, p3⟩ := four (HS10.out.get 1 rfl)
  obtain ⟨y0, y1, y2, y3, y4, y5, y6, y7⟩ := eight (HS10.out.get 3 rfl)
  go_upto_region 9 with (first
    | (go_at_call 47; refine (c_implBestSuper (MemO_R (HS10.out.get 2 rfl)) (tiny_small HTX.out)).mono ?_; rw [HBB.out]; rintro e w11 ⟨he, hb⟩; simp only [supA] at he; subst he; have HS11 := Aside0.mk (HS10.out.below hb); clear hb y0 y1 y2 y3 y4 y5 y6 y7 p0 p1 p2 p3)
    | fail)
  have hB := HS11.out.alloc (g := w11.heap.size) rfl #[.int .i64 b.id, .int .i64 b.gen, .int .i64 b.role, .int .i64 b.n, .int .i64 b.st, .int .i64 b.tail, .int .i64 b.lost, .int .i64 b.built] 53
  generalize hg8 : w11.heap.size = g8 at *
  generalize hww : w11.alloc (.cells #[.int .i64 b.id, .int .i64 b.gen, .int .i64 b.role, .int .i64 b.n, .int .i64 b.st, .int .i64 b.tail, .int .i64 b.lost, .int .i64 b.built] 53 (0, 0)) = w12 at *
  have HS12 := Aside0.mk hB
  clear hB hg8 hww HS11 HS10
  obtain ⟨p0, p1, p2, p3⟩ := four (HS12.out.get 2 rfl)
  obtain ⟨k0, k1, k2, k3⟩ := four (HS12.out.get 5 rfl)
  by_cases hxm : x = m
  · have HE := Aside0.mk hxm
    have hr := HAB.out
    rw [← hxm, HBB.out] at hr
    obtain ⟨rfl, rfl⟩ : b = a ∧ is = was := by simpa using hr
    clear hr hxm
    go_wp2_with (first
      | (go_at_call 31; refine (c_sameMem (MemO_R (HS12.out.get 3 rfl)) (MemO_R (HS12.out.get 6 rfl))).mono ?_; rw [decide_eq_true HE.out]; rintro e w13 ⟨rfl, hb⟩; have HS13 := Aside0.mk (HS12.out.below hb); clear hb p0 p1 p2 p3 k0 k1 k2 k3; obtain ⟨bb_0, bb_1, bb_2, bb_3, bb_4, bb_5, bb_6, bb_7⟩ := eight (HS13.out.get 0 rfl); obtain ⟨aa_0, aa_1, aa_2, aa_3, aa_4, aa_5, aa_6, aa_7⟩ := eight (HS13.out.get 1 rfl); obtain ⟨y0, y1, y2, y3, y4, y5, y6, y7⟩ := eight (HS13.out.get 4 rfl))
      | fail)
    go_ret
    exact ⟨by first | rfl | simp, HS13.out.toBelow⟩
  · have HE := Aside0.mk hxm
    have hne : wsupV m s ≠ m := by rw [show wsupV m s = x from HX.out]; exact hxm
    obtain ⟨hN1, hN2⟩ := newer hne
    rw [show wsupV m s = x from HX.out, HBB.out] at hN1 hN2
    rw [HAB.out] at hN1
    simp only at hN1 hN2
    subst hN2
    have hsg : 0 ≤ s.gen := wsup_gen hne
    clear hne hxm
    cases was
    · have h1 := hN1 (.inl rfl)
      obtain rfl : b = s := by simpa using h1
      clear h1 hN1
      go_wp2_with (first
        | (go_at_call 31; refine (c_sameMem (MemO_R (HS12.out.get 3 rfl)) (MemO_R (HS12.out.get 6 rfl))).mono ?_; rw [decide_eq_false HE.out]; rintro e w13 ⟨rfl, hb⟩; have HS13 := Aside0.mk (HS12.out.below hb); clear hb p0 p1 p2 p3 k0 k1 k2 k3; obtain ⟨bb_0, bb_1, bb_2, bb_3, bb_4, bb_5, bb_6, bb_7⟩ := eight (HS13.out.get 0 rfl); obtain ⟨aa_0, aa_1, aa_2, aa_3, aa_4, aa_5, aa_6, aa_7⟩ := eight (HS13.out.get 1 rfl); obtain ⟨y0, y1, y2, y3, y4, y5, y6, y7⟩ := eight (HS13.out.get 4 rfl))
        | fail)
      go_ret
      exact ⟨by first | rfl | simp, HS13.out.toBelow⟩
    · have hag : 0 ≤ a.gen := by have h9 := best_gen m s.id; rw [HAB.out] at h9; exact h9
      have t1 := Int.tmod_eq_emod_of_nonneg (b := 2) hsg
      have t2 := Int.tmod_eq_emod_of_nonneg (b := 2) hag
      by_cases hc : a.gen < s.gen ∧ s.gen % 2 ≠ a.gen % 2
      · have h1 := hN1 (.inr hc)
        obtain rfl : b = s := by simpa using h1
        obtain ⟨c1, c2⟩ := hc
        clear h1 hN1
        go_wp2_with (first
          | (go_at_call 31; refine (c_sameMem (MemO_R (HS12.out.get 3 rfl)) (MemO_R (HS12.out.get 6 rfl))).mono ?_; rw [decide_eq_false HE.out]; rintro e w13 ⟨rfl, hb⟩; have HS13 := Aside0.mk (HS12.out.below hb); clear hb p0 p1 p2 p3 k0 k1 k2 k3; obtain ⟨bb_0, bb_1, bb_2, bb_3, bb_4, bb_5, bb_6, bb_7⟩ := eight (HS13.out.get 0 rfl); obtain ⟨aa_0, aa_1, aa_2, aa_3, aa_4, aa_5, aa_6, aa_7⟩ := eight (HS13.out.get 1 rfl); obtain ⟨y0, y1, y2, y3, y4, y5, y6, y7⟩ := eight (HS13.out.get 4 rfl))
          | fail)
        go_ret
        exact ⟨by first | rfl | simp, HS13.out.toBelow⟩
      · clear hN1
        by_cases hc1 : a.gen < s.gen
        · have hc2 : s.gen % 2 = a.gen % 2 := by omega
          clear hc
          go_wp2_with (first
            | (go_at_call 31; refine (c_sameMem (MemO_R (HS12.out.get 3 rfl)) (MemO_R (HS12.out.get 6 rfl))).mono ?_; rw [decide_eq_false HE.out]; rintro e w13 ⟨rfl, hb⟩; have HS13 := Aside0.mk (HS12.out.below hb); clear hb p0 p1 p2 p3 k0 k1 k2 k3; obtain ⟨bb_0, bb_1, bb_2, bb_3, bb_4, bb_5, bb_6, bb_7⟩ := eight (HS13.out.get 0 rfl); obtain ⟨aa_0, aa_1, aa_2, aa_3, aa_4, aa_5, aa_6, aa_7⟩ := eight (HS13.out.get 1 rfl); obtain ⟨y0, y1, y2, y3, y4, y5, y6, y7⟩ := eight (HS13.out.get 4 rfl))
            | fail)
          go_ret
          exact ⟨by first | rfl | simp, HS13.out.toBelow⟩
        · clear hc
          go_wp2_with (first
            | (go_at_call 31; refine (c_sameMem (MemO_R (HS12.out.get 3 rfl)) (MemO_R (HS12.out.get 6 rfl))).mono ?_; rw [decide_eq_false HE.out]; rintro e w13 ⟨rfl, hb⟩; have HS13 := Aside0.mk (HS12.out.below hb); clear hb p0 p1 p2 p3 k0 k1 k2 k3; obtain ⟨bb_0, bb_1, bb_2, bb_3, bb_4, bb_5, bb_6, bb_7⟩ := eight (HS13.out.get 0 rfl); obtain ⟨aa_0, aa_1, aa_2, aa_3, aa_4, aa_5, aa_6, aa_7⟩ := eight (HS13.out.get 1 rfl); obtain ⟨y0, y1, y2, y3, y4, y5, y6, y7⟩ := eight (HS13.out.get 4 rfl))
            | fail)
          go_ret
          exact ⟨by first | rfl | simp, HS13.out.toBelow⟩
end Go.Proofs.Ytlmnmcfieagmbaa.LawFnNewer
