/- The law FnExactReadSec: it returns true. -/
import Derived.Test.YtbejlccfclkiiaaLawLib
import Derived.Test.YtbejlccfclkiiaaMReadS
import Derived.Deep.DrawnRows
namespace Go.Proofs.Ytbejlccfclkiiaa.LawReadSec
open Go.RowKit Go.Proofs.Ytbejlccfclkiiaa.RJ Go.Proofs.YtbejlccfclkiiaaW.PrintWords Go.Proofs.Ytbejlccfclkiiaa.Fp Go.Proofs.Ytbejlccfclkiiaa.MInt Go.Proofs.Ytbejlccfclkiiaa.MKinds Go.Proofs.Ytbejlccfclkiiaa.MRead Go.Proofs.Ytbejlccfclkiiaa.MMake Go.Proofs.Ytbejlccfclkiiaa.MPut Go.Proofs.Ytbejlccfclkiiaa.MHeld Go.Proofs.Ytbejlccfclkiiaa.MMark Go.Proofs.Ytbejlccfclkiiaa.MOk Go.Proofs.Ytbejlccfclkiiaa.MVal Go.Proofs.Ytbejlccfclkiiaa.Sep Go.Proofs.Ytbejlccfclkiiaa.SepStep Go.Proofs.Ytbejlccfclkiiaa.LawLib Go.Proofs.Ytbejlccfclkiiaa.MReadS
set_option linter.unusedVariables false
set_option linter.unusedSimpArgs false
attribute [local go_sem ↓] Go.wp_at_zero Go.wp_at_succ
set_option maxHeartbeats 8000000 in
set_option maxRecDepth 100000 in
theorem law_ReadSec {w : World} {v : Value} {m : MemV} {n : Int} (h : MemR w v m) : Calls Try.prog 5 #[v, .int .i64 n] w fun e w' => e = .returned (.bool true) ∧ Below w.heap.size w w' := by
  have H := Aside0.mk h
  obtain ⟨s, c, b, rfl, r1, r2, r3⟩ := h
  clear r1 r2 r3
  by_cases hz : (1048576 : Int) - (szM m : Int) < 0
  · go_enter Try.func5, Try.ntmps5
    go_wp2_with (first
      | (go_at_call 20; refine (c_szMem (MemR_below H.out (below_alloc (Below.refl _ _) _)) (by omega) (by omega)).mono ?_; rw [sub0_neg (by omega)]; rintro e w1 ⟨rfl, hb⟩; have HS1 := Aside0.mk (((Sep.start w []).alloc (g := w.heap.size) rfl #[s, c, .bool m.failed, b] 33).below hb); clear hb)
      | fail)
    go_ret
    exact ⟨rfl, HS1.out.toBelow⟩
  · have hsz : totM m ≤ 1048576 := by have := totM_szM m; omega
    have hsm : Small m := small_of m (by omega)
    have HSm := Aside0.mk hsm
    clear hsm
    go_enter Try.func5, Try.ntmps5
    go_upto_region 5 with (first
      | (go_at_call 20; refine (c_szMem (MemR_below H.out (below_alloc (Below.refl _ _) _)) (by omega) (by omega)).mono ?_; rw [sub0_pos (by omega)]; rintro e w1 ⟨rfl, hb⟩; have HS1 := Aside0.mk (((Sep.start w []).alloc (g := w.heap.size) rfl #[s, c, .bool m.failed, b] 33).below hb); clear hb)
      | fail)
    obtain ⟨a0_, a1_, a2_, a3_⟩ := four (HS1.out.get 0 rfl)
    have htot : ((readV m n)).length ≤ 4194304 := (by have := readV_len m n; omega)
    go_upto_region 6 with (first
      | (go_at_call 22; refine (c_toMem (MemR_below H.out HS1.out.toBelow) HSm.out).mono ?_; rintro e w2 ⟨u2, F2, rfl, hu, hF, hb⟩; have HS2 := Aside0.mk (HS1.out.new (new_mem hu hF hb)); clear hu hF hb)
      | (go_at_call 24; refine (c_specReadSec (MemO_R (HS2.out.get 0 rfl)) HSm.out).mono ?_; rintro e w3 ⟨u3, F3, rfl, hn⟩; have HS3 := Aside0.mk (HS2.out.new hn); clear hn; obtain ⟨A3, p3, rfl, hzz⟩ := O_RK (HS3.out.get 0 rfl); clear hzz)
      | fail)
    have hB := HS3.out.sel [0, 2] (by decide) (by simp)
    simp only [List.map_cons, List.map_nil, pick, List.getD_cons_succ, List.getD_cons_zero, List.set_cons_zero, List.set_cons_succ, List.eraseIdx_cons_zero, List.eraseIdx_cons_succ, List.setIfInBounds_toArray] at hB
    have HS4 := Aside0.mk hB
    clear hB
    clear a0_ a1_ a2_ a3_; obtain ⟨a0_, a1_, a2_, a3_⟩ := four (HS4.out.get 1 rfl)
    go_upto_region 7 with (first
      | (go_at_call 22; refine (c_toMem (MemR_below H.out HS4.out.toBelow) HSm.out).mono ?_; rintro e w5 ⟨u5, F5, rfl, hu, hF, hb⟩; have HS5 := Aside0.mk (HS4.out.new (new_mem hu hF hb)); clear hu hF hb; obtain ⟨A5, p5, B5, q5, C5, r5, rfl⟩ := me_form HS5.out)
      | fail)
    have hB := HS5.out.alloc (g := w5.heap.size) rfl #[.slice A5 m.secs.length p5, .slice B5 m.cache.length q5, .bool m.failed, .slice C5 m.bad.length r5] 26
    generalize hgg : w5.heap.size = g6 at *
    generalize hww : w5.alloc (.cells #[.slice A5 m.secs.length p5, .slice B5 m.cache.length q5, .bool m.failed, .slice C5 m.bad.length r5] 26 (0, 0)) = w6 at *
    have HS6 := Aside0.mk hB
    clear hB hgg hww
    have hB := HS6.out.sel [0, 1, 2, 3] (by decide) (by simp)
    simp only [List.map_cons, List.map_nil, pick, List.getD_cons_succ, List.getD_cons_zero, List.set_cons_zero, List.set_cons_succ, List.eraseIdx_cons_zero, List.eraseIdx_cons_succ, List.setIfInBounds_toArray] at hB
    have HS7 := Aside0.mk hB
    clear hB
    clear a0_ a1_ a2_ a3_; obtain ⟨x00_, x01_, x02_, x03_⟩ := four (HS7.out.get 0 rfl)
    go_upto_region 8 with (first
      | (go_at_call 25; refine (c_implReadSec (MemO_R (HS7.out.get 1 rfl)) HSm.out).mono ?_; rintro e w8 ⟨u8, F8, rfl, hn⟩; have HS8 := Aside0.mk (HS7.out.new hn); clear hn; obtain ⟨A8, p8, rfl, hzz⟩ := O_RK (HS8.out.get 0 rfl); clear hzz)
      | fail)
    clear x00_ x01_ x02_ x03_
    go_upto_region 10 with (first
      | (go_at_call 26; refine (c_eqIntS (O_RK (HS8.out.get 0 rfl)) (O_RK (HS8.out.get 3 rfl))).mono ?_; rw [decide_eq_true rfl]; rintro e w9 ⟨rfl, hb⟩; have HS9 := Aside0.mk (HS8.out.dr hb); clear hb; obtain ⟨x00_, x01_, x02_, x03_⟩ := four (HS9.out.get 1 rfl); obtain ⟨a0_, a1_, a2_, a3_⟩ := four (HS9.out.get 4 rfl))
      | fail)
    go_wp2
    refine wp_region_seq (fun w' => w'.cell? ⟨g6, 0, none⟩ = some (.slice A5 m.secs.length p5) ∧ w'.cell? ⟨g6, 1, none⟩ = some (.slice B5 m.cache.length q5) ∧ w'.cell? ⟨g6, 2, none⟩ = some (.bool m.failed) ∧ w'.cell? ⟨g6, 3, none⟩ = some (.slice C5 m.bad.length r5) ∧ w'.cell? ⟨w.heap.size, 0, none⟩ = some (s) ∧ w'.cell? ⟨w.heap.size, 1, none⟩ = some (c) ∧ w'.cell? ⟨w.heap.size, 2, none⟩ = some (.bool m.failed) ∧ w'.cell? ⟨w.heap.size, 3, none⟩ = some (b)) [] [(0, true), (1, true), (2, false), (3, false), (4, true)] (by kernel_rfl) (by kernel_rfl) ?_
    have hS : (fun w' : World => w'.cell? ⟨g6, 0, none⟩ = some (.slice A5 m.secs.length p5) ∧ w'.cell? ⟨g6, 1, none⟩ = some (.slice B5 m.cache.length q5) ∧ w'.cell? ⟨g6, 2, none⟩ = some (.bool m.failed) ∧ w'.cell? ⟨g6, 3, none⟩ = some (.slice C5 m.bad.length r5) ∧ w'.cell? ⟨w.heap.size, 0, none⟩ = some (s) ∧ w'.cell? ⟨w.heap.size, 1, none⟩ = some (c) ∧ w'.cell? ⟨w.heap.size, 2, none⟩ = some (.bool m.failed) ∧ w'.cell? ⟨w.heap.size, 3, none⟩ = some (b)) w9.drew := ⟨x00_, x01_, x02_, x03_, a0_, a1_, a2_, a3_⟩
    iterate 2 (refine seq_take hS rfl (fun _ _ _ h => h) (by rfl) (fun w_ hSw => by (try dsimp only at hSw); go_simp; first | done | with_reducible rfl) ?_; (try simp only [Act.put, List.setIfInBounds_toArray, List.set_cons_zero, List.set_cons_succ]))
    refine seq_step rfl (fun K hK => ?_)
    go_simp
    go_at_call 22; refine (c_toMem (MemR_below H.out HS9.out.drew.toBelow) HSm.out).mono ?_; rintro e w10 ⟨u10, F10, rfl, hu, hF, hb⟩
    have HS10 := Aside0.mk (HS9.out.drew.new (new_mem hu hF hb))
    clear hu hF hb hS
    clear x00_ x01_ x02_ x03_ a0_ a1_ a2_ a3_; obtain ⟨x00_, x01_, x02_, x03_⟩ := four (HS10.out.get 2 rfl); obtain ⟨a0_, a1_, a2_, a3_⟩ := four (HS10.out.get 5 rfl)
    have hS : (fun w' : World => w'.cell? ⟨g6, 0, none⟩ = some (.slice A5 m.secs.length p5) ∧ w'.cell? ⟨g6, 1, none⟩ = some (.slice B5 m.cache.length q5) ∧ w'.cell? ⟨g6, 2, none⟩ = some (.bool m.failed) ∧ w'.cell? ⟨g6, 3, none⟩ = some (.slice C5 m.bad.length r5) ∧ w'.cell? ⟨w.heap.size, 0, none⟩ = some (s) ∧ w'.cell? ⟨w.heap.size, 1, none⟩ = some (c) ∧ w'.cell? ⟨w.heap.size, 2, none⟩ = some (.bool m.failed) ∧ w'.cell? ⟨w.heap.size, 3, none⟩ = some (b)) w10 := ⟨x00_, x01_, x02_, x03_, a0_, a1_, a2_, a3_⟩
    refine hK.out _ _ ⟨fun _ => hS, ?_⟩; clear hK K; (try simp only [Act.put, List.setIfInBounds_toArray, List.set_cons_zero, List.set_cons_succ])
    refine seq_step rfl (fun K hK => ?_)
    go_simp
    go_at_call 17; refine (c_eqMem (MemO_R (HS10.out.get 3 rfl)) (MemO_R (HS10.out.get 0 rfl))).mono ?_; rw [decide_eq_true rfl]; rintro e w11 ⟨rfl, hb⟩
    have HS11 := Aside0.mk (HS10.out.below hb)
    clear hb hS
    clear x00_ x01_ x02_ x03_ a0_ a1_ a2_ a3_; obtain ⟨x00_, x01_, x02_, x03_⟩ := four (HS11.out.get 2 rfl); obtain ⟨a0_, a1_, a2_, a3_⟩ := four (HS11.out.get 5 rfl)
    have hS : (fun w' : World => w'.cell? ⟨g6, 0, none⟩ = some (.slice A5 m.secs.length p5) ∧ w'.cell? ⟨g6, 1, none⟩ = some (.slice B5 m.cache.length q5) ∧ w'.cell? ⟨g6, 2, none⟩ = some (.bool m.failed) ∧ w'.cell? ⟨g6, 3, none⟩ = some (.slice C5 m.bad.length r5) ∧ w'.cell? ⟨w.heap.size, 0, none⟩ = some (s) ∧ w'.cell? ⟨w.heap.size, 1, none⟩ = some (c) ∧ w'.cell? ⟨w.heap.size, 2, none⟩ = some (.bool m.failed) ∧ w'.cell? ⟨w.heap.size, 3, none⟩ = some (b)) w11 := ⟨x00_, x01_, x02_, x03_, a0_, a1_, a2_, a3_⟩
    refine hK.out _ _ ⟨fun _ => hS, ?_⟩; clear hK K; (try simp only [Act.put, List.setIfInBounds_toArray, List.set_cons_zero, List.set_cons_succ])
    iterate 1 (refine seq_take hS rfl (fun _ _ _ h => h) (by rfl) (fun w_ hSw => by (try dsimp only at hSw); go_simp; first | done | with_reducible rfl) ?_; (try simp only [Act.put, List.setIfInBounds_toArray, List.set_cons_zero, List.set_cons_succ]))
    clear hS
    refine seq_done ?_
    have hB := HS11.out.sel [1, 2, 3, 4, 5] (by decide) (by simp)
    simp only [List.map_cons, List.map_nil, pick, List.getD_cons_succ, List.getD_cons_zero, List.set_cons_zero, List.set_cons_succ, List.eraseIdx_cons_zero, List.eraseIdx_cons_succ, List.setIfInBounds_toArray] at hB
    have HS12 := Aside0.mk hB
    clear hB
    clear x00_ x01_ x02_ x03_ a0_ a1_ a2_ a3_; obtain ⟨x00_, x01_, x02_, x03_⟩ := four (HS12.out.get 1 rfl)
    go_upto_region 13 with fail
    go_upto_region 14 with (first
      | (go_at_call 18; refine (c_markMem (HS12.out.get 2 rfl) (HS12.out.fnd 2 rfl) (by omega) (by omega)).mono ?_; rintro e w13 ⟨rfl, ⟨F13, hu, hF, hs⟩, hc⟩; have hB := HS12.out.upd 2 rfl (upd_mark hu hF hs hc); simp only [List.map_cons, List.map_nil, pick, List.getD_cons_succ, List.getD_cons_zero, List.set_cons_zero, List.set_cons_succ, List.eraseIdx_cons_zero, List.eraseIdx_cons_succ, List.setIfInBounds_toArray] at hB; have HS13 := Aside0.mk hB; clear hB hu hF hs hc; clear x00_ x01_ x02_ x03_)
      | fail)
    go_upto_region 17 with (first
      | (go_at_call 26; refine (c_eqIntS (O_RK (HS13.out.get 0 rfl)) (O_RK (HS13.out.get 3 rfl))).mono ?_; rw [decide_eq_true rfl]; rintro e w14 ⟨rfl, hb⟩; have HS14 := Aside0.mk (HS13.out.dr hb); clear hb; skip)
      | fail)
    go_upto_region 19 with (first
      | (go_at_call 27; refine (c_markIntS (HS14.out.get 0 rfl) (by omega) (by have := htot; omega)).mono ?_; rintro e w15 ⟨rfl, hu, hc⟩; have hB := HS14.out.upd 0 rfl (upd_ints hu (HS14.out.fnd 0 rfl) hc); simp only [List.map_cons, List.map_nil, pick, List.getD_cons_succ, List.getD_cons_zero, List.set_cons_zero, List.set_cons_succ, List.eraseIdx_cons_zero, List.eraseIdx_cons_succ, List.setIfInBounds_toArray] at hB; have HS15 := Aside0.mk hB; clear hB hu hc; skip)
      | fail)
    go_upto_region 24 with (first
      | (go_at_call 28; refine (c_heldIntS (O_RK (HS15.out.get 0 rfl)) (by omega) (by rw [cntL_length]; have := htot; omega)).mono ?_; rw [held_cnt]; rintro e w16 ⟨rfl, hb⟩; have HS16 := Aside0.mk (HS15.out.dr hb); clear hb; obtain ⟨a0_, a1_, a2_, a3_⟩ := four (HS16.out.get 4 rfl))
      | fail)
    go_upto_region 25 with (first
      | (go_at_call 22; refine (c_toMem (MemR_below H.out HS16.out.toBelow) HSm.out).mono ?_; rintro e w17 ⟨u17, F17, rfl, hu, hF, hb⟩; have HS17 := Aside0.mk (HS16.out.new (new_mem hu hF hb)); clear hu hF hb)
      | (go_at_call 25; refine (c_implReadSec (MemO_R (HS17.out.get 0 rfl)) HSm.out).mono ?_; rintro e w18 ⟨u18, F18, rfl, hn⟩; have HS18 := Aside0.mk (HS17.out.new hn); clear hn; obtain ⟨A18, p18, rfl, hzz⟩ := O_RK (HS18.out.get 0 rfl); clear hzz)
      | fail)
    have hB := HS18.out.sel [0, 2, 3, 4, 5, 6] (by decide) (by simp)
    simp only [List.map_cons, List.map_nil, pick, List.getD_cons_succ, List.getD_cons_zero, List.set_cons_zero, List.set_cons_succ, List.eraseIdx_cons_zero, List.eraseIdx_cons_succ, List.setIfInBounds_toArray] at hB
    have HS19 := Aside0.mk hB
    clear hB
    clear a0_ a1_ a2_ a3_
    go_upto_region 28 with (first
      | (go_at_call 26; refine (c_eqIntS (O_RK (HS19.out.get 0 rfl)) (O_RK (HS19.out.get 4 rfl))).mono ?_; rw [decide_eq_true rfl]; rintro e w20 ⟨rfl, hb⟩; have HS20 := Aside0.mk (HS19.out.dr hb); clear hb; skip)
      | fail)
    go_wp2_with (first
      | (go_at_call 28; refine (c_heldIntS (O_RK (HS20.out.get 1 rfl)) (by omega) (by rw [cntL_length]; have := htot; omega)).mono ?_; rw [held_cnt]; rintro e w21 ⟨rfl, hb⟩; have HS21 := Aside0.mk (HS20.out.dr hb); clear hb; skip)
      | fail)
    go_ret
    exact ⟨rfl, HS21.out.toBelow⟩
end Go.Proofs.Ytbejlccfclkiiaa.LawReadSec
