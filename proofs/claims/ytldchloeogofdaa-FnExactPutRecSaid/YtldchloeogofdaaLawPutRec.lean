/- The law FnExactPutRec: it returns true. -/
import Derived.Test.YtldchloeogofdaaMRec
import Derived.Deep.DrawnRows
namespace Go.Proofs.Ytldchloeogofdaa.LawPutRec
open Go.RowKit Go.Proofs.Ytldchloeogofdaa.RJ Go.Proofs.YtldchloeogofdaaW.PrintWords Go.Proofs.Ytldchloeogofdaa.Fp Go.Proofs.Ytldchloeogofdaa.MInt Go.Proofs.Ytldchloeogofdaa.MKinds Go.Proofs.Ytldchloeogofdaa.MRead Go.Proofs.Ytldchloeogofdaa.MMake Go.Proofs.Ytldchloeogofdaa.MPut Go.Proofs.Ytldchloeogofdaa.MHeld Go.Proofs.Ytldchloeogofdaa.MMark Go.Proofs.Ytldchloeogofdaa.MOk Go.Proofs.Ytldchloeogofdaa.MVal Go.Proofs.Ytldchloeogofdaa.Sep Go.Proofs.Ytldchloeogofdaa.SepStep Go.Proofs.Ytldchloeogofdaa.LawLib Go.Proofs.Ytldchloeogofdaa.MRec
set_option linter.unusedVariables false
set_option linter.unusedSimpArgs false
attribute [local go_sem ↓] Go.wp_at_zero Go.wp_at_succ
set_option maxHeartbeats 8000000 in
set_option maxRecDepth 100000 in
theorem law_PutRec {w : World} {q t : Int} {v : Value} {xs : List Int} (h : RK kInt w v xs) : Calls Try.prog 3 #[.agg #[.int .i64 q, .int .i64 t, v]] w fun e w' => e = .returned (.bool true) ∧ Below w.heap.size w w' := by
  have H := Aside0.mk h
  have lx := RK_len h
  obtain ⟨A, ca, rfl, _, _⟩ := h
  by_cases hz : (1048576 : Int) - (xs.length : Int) < 0
  · go_enter Try.func3, Try.ntmps3
    go_wp2_with (first
      | (go_at_call 13; have HS0 := Aside0.mk ((Sep.start w []).alloc (g := w.heap.size) rfl #[.int .i64 q, .int .i64 t, .slice A xs.length ca] 24); refine (c_szRec (HS0.out.rk H.out) (by omega) (by omega)).mono ?_; rw [if_pos hz]; rintro e w1 ⟨rfl, hb⟩; have HS1 := Aside0.mk (HS0.out.below hb); clear hb)
      | fail)
    go_ret
    exact ⟨rfl, HS1.out.toBelow⟩
  · have hxl : xs.length ≤ 16777216 := by omega
    have htot : (putR q t xs).length ≤ 4194304 := by have := putR_len q t xs; omega
    go_enter Try.func3, Try.ntmps3
    go_upto_region 5 with (first
      | (go_at_call 13; have HS0 := Aside0.mk ((Sep.start w []).alloc (g := w.heap.size) rfl #[.int .i64 q, .int .i64 t, .slice A xs.length ca] 24); refine (c_szRec (HS0.out.rk H.out) (by omega) (by omega)).mono ?_; rw [if_neg hz]; rintro e w1 ⟨rfl, hb⟩; have HS1 := Aside0.mk (HS0.out.below hb); clear hb HS0)
      | fail)
    obtain ⟨a0_, a1_, a2_⟩ := three (HS1.out.get 0 rfl)
    go_upto_region 6 with (first
      | (go_at_call 15; refine (c_toRec (HS1.out.rk H.out) hxl).mono ?_; rintro e w2 ⟨A2, p2, F2, rfl, hn⟩; have HS2 := Aside0.mk (HS1.out.new hn); clear hn)
      | (go_at_call 14; refine (c_specPutRec (O_RK (HS2.out.get 0 rfl)) hxl).mono ?_; rintro e w3 ⟨A3, p3, F3, rfl, hn⟩; have HS3 := Aside0.mk (HS2.out.new hn); clear hn)
      | fail)
    have hB := HS3.out.sel [0, 2] (by decide) (by simp)
    simp only [List.map_cons, List.map_nil, pick, List.getD_cons_succ, List.getD_cons_zero, List.set_cons_zero, List.set_cons_succ, List.eraseIdx_cons_zero, List.eraseIdx_cons_succ, List.setIfInBounds_toArray] at hB
    have HS4 := Aside0.mk hB
    clear hB
    clear a0_ a1_ a2_; obtain ⟨a0_, a1_, a2_⟩ := three (HS4.out.get 1 rfl)
    go_upto_region 7 with (first
      | (go_at_call 15; refine (c_toRec (HS4.out.rk H.out) hxl).mono ?_; rintro e w5 ⟨A5, p5, F5, rfl, hn⟩; have HS5 := Aside0.mk (HS4.out.new hn); clear hn)
      | fail)
    have hB := HS5.out.alloc (g := w5.heap.size) rfl #[.int .i64 q, .int .i64 t, .slice A5 xs.length p5] 27
    generalize hgg : w5.heap.size = g6 at *
    generalize hww : w5.alloc (.cells #[.int .i64 q, .int .i64 t, .slice A5 xs.length p5] 27 (0, 0)) = w6 at *
    have HS6 := Aside0.mk hB
    clear hB hgg hww
    have hB := HS6.out.sel [0, 1, 2, 3] (by decide) (by simp)
    simp only [List.map_cons, List.map_nil, pick, List.getD_cons_succ, List.getD_cons_zero, List.set_cons_zero, List.set_cons_succ, List.eraseIdx_cons_zero, List.eraseIdx_cons_succ, List.setIfInBounds_toArray] at hB
    have HS7 := Aside0.mk hB
    clear hB
    clear a0_ a1_ a2_; obtain ⟨x00_, x01_, x02_⟩ := three (HS7.out.get 0 rfl)
    go_upto_region 8 with (first
      | (go_at_call 16; refine (c_implPutRec (O_RK (HS7.out.get 1 rfl)) hxl).mono ?_; rintro e w8 ⟨A8, p8, F8, rfl, hn⟩; have HS8 := Aside0.mk (HS7.out.new hn); clear hn)
      | fail)
    clear x00_ x01_ x02_
    go_upto_region 10 with (first
      | (go_at_call 17; refine (c_eqIntS (O_RK (HS8.out.get 0 rfl)) (O_RK (HS8.out.get 3 rfl))).mono ?_; rw [decide_eq_true rfl]; rintro e w9 ⟨rfl, hb⟩; have HS9 := Aside0.mk (HS8.out.dr hb); clear hb; obtain ⟨x00_, x01_, x02_⟩ := three (HS9.out.get 1 rfl); obtain ⟨a0_, a1_, a2_⟩ := three (HS9.out.get 4 rfl))
      | fail)
    go_wp2
    refine wp_region_seq (fun w' => w'.cell? ⟨g6, 0, none⟩ = some (.int .i64 q) ∧ w'.cell? ⟨g6, 1, none⟩ = some (.int .i64 t) ∧ w'.cell? ⟨g6, 2, none⟩ = some (.slice A5 xs.length p5) ∧ w'.cell? ⟨w.heap.size, 0, none⟩ = some (.int .i64 q) ∧ w'.cell? ⟨w.heap.size, 1, none⟩ = some (.int .i64 t) ∧ w'.cell? ⟨w.heap.size, 2, none⟩ = some (.slice A xs.length ca)) [] [(0, true), (1, true), (2, false), (3, false), (4, true)] (by kernel_rfl) (by kernel_rfl) ?_
    have hS : (fun w' : World => w'.cell? ⟨g6, 0, none⟩ = some (.int .i64 q) ∧ w'.cell? ⟨g6, 1, none⟩ = some (.int .i64 t) ∧ w'.cell? ⟨g6, 2, none⟩ = some (.slice A5 xs.length p5) ∧ w'.cell? ⟨w.heap.size, 0, none⟩ = some (.int .i64 q) ∧ w'.cell? ⟨w.heap.size, 1, none⟩ = some (.int .i64 t) ∧ w'.cell? ⟨w.heap.size, 2, none⟩ = some (.slice A xs.length ca)) w9.drew := ⟨x00_, x01_, x02_, a0_, a1_, a2_⟩
    iterate 2 (refine seq_take hS rfl (fun _ _ _ h => h) (by rfl) (fun w_ hSw => by (try dsimp only at hSw); go_simp; first | done | with_reducible rfl) ?_; (try simp only [Act.put, List.setIfInBounds_toArray, List.set_cons_zero, List.set_cons_succ]))
    refine seq_step rfl (fun K hK => ?_)
    go_simp
    go_at_call 15; refine (c_toRec (HS9.out.drew.rk H.out) hxl).mono ?_; rintro e w10 ⟨A10, p10, F10, rfl, hn⟩
    have HS10 := Aside0.mk (HS9.out.drew.new hn)
    clear hn hS
    clear x00_ x01_ x02_ a0_ a1_ a2_; obtain ⟨x00_, x01_, x02_⟩ := three (HS10.out.get 2 rfl); obtain ⟨a0_, a1_, a2_⟩ := three (HS10.out.get 5 rfl)
    have hS : (fun w' : World => w'.cell? ⟨g6, 0, none⟩ = some (.int .i64 q) ∧ w'.cell? ⟨g6, 1, none⟩ = some (.int .i64 t) ∧ w'.cell? ⟨g6, 2, none⟩ = some (.slice A5 xs.length p5) ∧ w'.cell? ⟨w.heap.size, 0, none⟩ = some (.int .i64 q) ∧ w'.cell? ⟨w.heap.size, 1, none⟩ = some (.int .i64 t) ∧ w'.cell? ⟨w.heap.size, 2, none⟩ = some (.slice A xs.length ca)) w10 := ⟨x00_, x01_, x02_, a0_, a1_, a2_⟩
    refine hK.out _ _ ⟨fun _ => hS, ?_⟩; clear hK K; (try simp only [Act.put, List.setIfInBounds_toArray, List.set_cons_zero, List.set_cons_succ])
    refine seq_step rfl (fun K hK => ?_)
    go_simp
    go_at_call 18; refine (c_eqRec (O_RK (HS10.out.get 3 rfl)) (O_RK (HS10.out.get 0 rfl))).mono ?_; rintro e w11 ⟨rfl, hb⟩
    have HS11 := Aside0.mk (HS10.out.below hb)
    clear hb hS
    clear x00_ x01_ x02_ a0_ a1_ a2_; obtain ⟨x00_, x01_, x02_⟩ := three (HS11.out.get 2 rfl); obtain ⟨a0_, a1_, a2_⟩ := three (HS11.out.get 5 rfl)
    have hS : (fun w' : World => w'.cell? ⟨g6, 0, none⟩ = some (.int .i64 q) ∧ w'.cell? ⟨g6, 1, none⟩ = some (.int .i64 t) ∧ w'.cell? ⟨g6, 2, none⟩ = some (.slice A5 xs.length p5) ∧ w'.cell? ⟨w.heap.size, 0, none⟩ = some (.int .i64 q) ∧ w'.cell? ⟨w.heap.size, 1, none⟩ = some (.int .i64 t) ∧ w'.cell? ⟨w.heap.size, 2, none⟩ = some (.slice A xs.length ca)) w11 := ⟨x00_, x01_, x02_, a0_, a1_, a2_⟩
    refine hK.out _ _ ⟨fun _ => hS, ?_⟩; clear hK K; (try simp only [Act.put, List.setIfInBounds_toArray, List.set_cons_zero, List.set_cons_succ])
    iterate 1 (refine seq_take hS rfl (fun _ _ _ h => h) (by rfl) (fun w_ hSw => by (try dsimp only at hSw); go_simp; first | done | with_reducible rfl) ?_; (try simp only [Act.put, List.setIfInBounds_toArray, List.set_cons_zero, List.set_cons_succ]))
    clear hS
    refine seq_done ?_
    have hB := HS11.out.sel [1, 2, 3, 4, 5] (by decide) (by simp)
    simp only [List.map_cons, List.map_nil, pick, List.getD_cons_succ, List.getD_cons_zero, List.set_cons_zero, List.set_cons_succ, List.eraseIdx_cons_zero, List.eraseIdx_cons_succ, List.setIfInBounds_toArray] at hB
    have HS12 := Aside0.mk hB
    clear hB
    clear x00_ x01_ x02_ a0_ a1_ a2_; obtain ⟨x00_, x01_, x02_⟩ := three (HS12.out.get 1 rfl)
    go_upto_region 13 with fail
    go_upto_region 14 with (first
      | (go_at_call 19; refine (c_markRec (HS12.out.get 2 rfl) (HS12.out.fnd 2 rfl) (by omega) (by omega)).mono ?_; rintro e w13 ⟨rfl, hu⟩; have hB := HS12.out.upd 2 rfl hu; simp only [List.map_cons, List.map_nil, pick, List.getD_cons_succ, List.getD_cons_zero, List.set_cons_zero, List.set_cons_succ, List.eraseIdx_cons_zero, List.eraseIdx_cons_succ, List.setIfInBounds_toArray] at hB; have HS13 := Aside0.mk hB; clear hB hu; clear x00_ x01_ x02_)
      | fail)
    go_upto_region 17 with (first
      | (go_at_call 17; refine (c_eqIntS (O_RK (HS13.out.get 0 rfl)) (O_RK (HS13.out.get 3 rfl))).mono ?_; rw [decide_eq_true rfl]; rintro e w14 ⟨rfl, hb⟩; have HS14 := Aside0.mk (HS13.out.dr hb); clear hb; skip)
      | fail)
    go_upto_region 19 with (first
      | (go_at_call 20; refine (c_markIntS (HS14.out.get 0 rfl) (by omega) (by have := htot; omega)).mono ?_; rintro e w15 ⟨rfl, hu, hc⟩; have hB := HS14.out.upd 0 rfl (upd_ints hu (HS14.out.fnd 0 rfl) hc); simp only [List.map_cons, List.map_nil, pick, List.getD_cons_succ, List.getD_cons_zero, List.set_cons_zero, List.set_cons_succ, List.eraseIdx_cons_zero, List.eraseIdx_cons_succ, List.setIfInBounds_toArray] at hB; have HS15 := Aside0.mk hB; clear hB hu hc; skip)
      | fail)
    go_upto_region 24 with (first
      | (go_at_call 21; refine (c_heldIntS (O_RK (HS15.out.get 0 rfl)) (by omega) (by rw [cntL_length]; have := htot; omega)).mono ?_; rw [held_cnt]; rintro e w16 ⟨rfl, hb⟩; have HS16 := Aside0.mk (HS15.out.dr hb); clear hb; obtain ⟨a0_, a1_, a2_⟩ := three (HS16.out.get 4 rfl))
      | fail)
    go_upto_region 25 with (first
      | (go_at_call 15; refine (c_toRec (HS16.out.rk H.out) hxl).mono ?_; rintro e w17 ⟨A17, p17, F17, rfl, hn⟩; have HS17 := Aside0.mk (HS16.out.new hn); clear hn)
      | (go_at_call 16; refine (c_implPutRec (O_RK (HS17.out.get 0 rfl)) hxl).mono ?_; rintro e w18 ⟨A18, p18, F18, rfl, hn⟩; have HS18 := Aside0.mk (HS17.out.new hn); clear hn)
      | fail)
    have hB := HS18.out.sel [0, 2, 3, 4, 5, 6] (by decide) (by simp)
    simp only [List.map_cons, List.map_nil, pick, List.getD_cons_succ, List.getD_cons_zero, List.set_cons_zero, List.set_cons_succ, List.eraseIdx_cons_zero, List.eraseIdx_cons_succ, List.setIfInBounds_toArray] at hB
    have HS19 := Aside0.mk hB
    clear hB
    clear a0_ a1_ a2_
    go_upto_region 28 with (first
      | (go_at_call 17; refine (c_eqIntS (O_RK (HS19.out.get 0 rfl)) (O_RK (HS19.out.get 4 rfl))).mono ?_; rw [decide_eq_true rfl]; rintro e w20 ⟨rfl, hb⟩; have HS20 := Aside0.mk (HS19.out.dr hb); clear hb; skip)
      | fail)
    go_wp2_with (first
      | (go_at_call 21; refine (c_heldIntS (O_RK (HS20.out.get 1 rfl)) (by omega) (by rw [cntL_length]; have := htot; omega)).mono ?_; rw [held_cnt]; rintro e w21 ⟨rfl, hb⟩; have HS21 := Aside0.mk (HS20.out.dr hb); clear hb; skip)
      | fail)
    go_ret
    exact ⟨rfl, HS21.out.toBelow⟩
end Go.Proofs.Ytldchloeogofdaa.LawPutRec
