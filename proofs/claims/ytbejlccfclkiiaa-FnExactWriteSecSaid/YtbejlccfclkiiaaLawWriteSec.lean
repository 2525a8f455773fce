/- The law FnExactWriteSec: it returns true. -/
import Derived.Test.YtbejlccfclkiiaaLawLib
import Derived.Test.YtbejlccfclkiiaaMWrite
import Derived.Deep.DrawnRows
namespace Go.Proofs.Ytbejlccfclkiiaa.LawWriteSec
open Go.RowKit Go.Proofs.Ytbejlccfclkiiaa.RJ Go.Proofs.YtbejlccfclkiiaaW.PrintWords Go.Proofs.Ytbejlccfclkiiaa.Fp Go.Proofs.Ytbejlccfclkiiaa.MInt Go.Proofs.Ytbejlccfclkiiaa.MKinds Go.Proofs.Ytbejlccfclkiiaa.MRead Go.Proofs.Ytbejlccfclkiiaa.MMake Go.Proofs.Ytbejlccfclkiiaa.MPut Go.Proofs.Ytbejlccfclkiiaa.MHeld Go.Proofs.Ytbejlccfclkiiaa.MMark Go.Proofs.Ytbejlccfclkiiaa.MOk Go.Proofs.Ytbejlccfclkiiaa.MVal Go.Proofs.Ytbejlccfclkiiaa.Sep Go.Proofs.Ytbejlccfclkiiaa.SepStep Go.Proofs.Ytbejlccfclkiiaa.LawLib Go.Proofs.Ytbejlccfclkiiaa.MWrite
set_option linter.unusedVariables false
set_option linter.unusedSimpArgs false
attribute [local go_sem ↓] Go.wp_at_zero Go.wp_at_succ
set_option maxHeartbeats 8000000 in
set_option maxRecDepth 100000 in
theorem law_WriteSec {w : World} {v : Value} {m : MemV} {n : Int} {vs : Value} {xs : List Int} (h : MemR w v m) (hx : RK kInt w vs xs) : Calls Try.prog 8 #[v, .int .i64 n, vs] w fun e w' => e = .returned (.bool true) ∧ Below w.heap.size w w' := by
  have H := Aside0.mk h
  obtain ⟨s, c, b, rfl, r1, r2, r3⟩ := h
  clear r1 r2 r3
  have HX := Aside0.mk hx
  have lx := RK_len hx
  obtain ⟨AX, cX, rfl, _⟩ := hx
  by_cases hxl0 : (1048576 : Int) < (xs.length : Int)
  · go_enter Try.func8, Try.ntmps8
    go_wp2
    go_ret
    exact ⟨rfl, ((Sep.start w []).alloc (g := w.heap.size) rfl #[s, c, .bool m.failed, b] 33).toBelow⟩
  have hxl : xs.length ≤ 16777216 := by omega
  by_cases hz : (1048576 : Int) - (szM m : Int) < 0
  · go_enter Try.func8, Try.ntmps8
    go_wp2_with (first
      | (go_at_call 20; refine (c_szMem (MemR_below H.out (below_alloc (Below.refl _ _) _)) (by omega) (by omega)).mono ?_; rw [sub0_neg (by omega)]; rintro e w1 ⟨rfl, hb⟩; have HS1 := Aside0.mk (((Sep.start w []).alloc (g := w.heap.size) rfl #[s, c, .bool m.failed, b] 33).below hb); clear hb)
      | fail)
    go_ret
    exact ⟨rfl, HS1.out.toBelow⟩
  · have hsz : totM m ≤ 1048576 := by have := totM_szM m; omega
    have hsm : Small m := small_of m (by omega)
    have HSm := Aside0.mk hsm
    clear hsm
    go_enter Try.func8, Try.ntmps8
    go_upto_region 7 with (first
      | (go_at_call 20; refine (c_szMem (MemR_below H.out (below_alloc (Below.refl _ _) _)) (by omega) (by omega)).mono ?_; rw [sub0_pos (by omega)]; rintro e w1 ⟨rfl, hb⟩; have HS1 := Aside0.mk (((Sep.start w []).alloc (g := w.heap.size) rfl #[s, c, .bool m.failed, b] 33).below hb); clear hb)
      | fail)
    obtain ⟨a0_, a1_, a2_, a3_⟩ := four (HS1.out.get 0 rfl)
    have htot : totM (writeV m n xs) ≤ 4194304 := (by have := writeV_tot (m := m) (n := n) (xs := xs); omega)
    go_upto_region 8 with (first
      | (go_at_call 22; refine (c_toMem (MemR_below H.out HS1.out.toBelow) HSm.out).mono ?_; rintro e w2 ⟨u2, F2, rfl, hu, hF, hb⟩; have HS2 := Aside0.mk (HS1.out.new (new_mem hu hF hb)); clear hu hF hb)
      | (go_at_call 34; refine (c_toIntS (HS2.out.rk HX.out) hxl).mono ?_; rintro e w3 ⟨u3, F3, rfl, hu, hF, hb⟩; have HS3 := Aside0.mk (HS2.out.new (new_row hu hF hb)); clear hu hF hb)
      | (go_at_call 33; refine (c_specWriteSec (MemO_R (HS3.out.get 1 rfl)) HSm.out (O_RK (HS3.out.get 0 rfl)) hxl).mono ?_; rintro e w4 ⟨u4, F4, rfl, hn⟩; have HS4 := Aside0.mk (HS3.out.new hn); clear hn; obtain ⟨A4, p4, B4, q4, C4, r4, rfl⟩ := me_form HS4.out)
      | fail)
    have hB := HS4.out.alloc (g := w4.heap.size) rfl #[.slice A4 (writeV m n xs).secs.length p4, .slice B4 (writeV m n xs).cache.length q4, .bool (writeV m n xs).failed, .slice C4 (writeV m n xs).bad.length r4] 26
    generalize hgg : w4.heap.size = g5 at *
    generalize hww : w4.alloc (.cells #[.slice A4 (writeV m n xs).secs.length p4, .slice B4 (writeV m n xs).cache.length q4, .bool (writeV m n xs).failed, .slice C4 (writeV m n xs).bad.length r4] 26 (0, 0)) = w5 at *
    have HS5 := Aside0.mk hB
    clear hB hgg hww
    have hB := HS5.out.sel [0, 1, 4] (by decide) (by simp)
    simp only [List.map_cons, List.map_nil, pick, List.getD_cons_succ, List.getD_cons_zero, List.set_cons_zero, List.set_cons_succ, List.eraseIdx_cons_zero, List.eraseIdx_cons_succ, List.setIfInBounds_toArray] at hB
    have HS6 := Aside0.mk hB
    clear hB
    clear a0_ a1_ a2_ a3_; obtain ⟨a0_, a1_, a2_, a3_⟩ := four (HS6.out.get 2 rfl)
    go_upto_region 9 with (first
      | (go_at_call 22; refine (c_toMem (MemR_below H.out HS6.out.toBelow) HSm.out).mono ?_; rintro e w7 ⟨u7, F7, rfl, hu, hF, hb⟩; have HS7 := Aside0.mk (HS6.out.new (new_mem hu hF hb)); clear hu hF hb; obtain ⟨A7, p7, B7, q7, C7, r7, rfl⟩ := me_form HS7.out)
      | fail)
    have hB := HS7.out.alloc (g := w7.heap.size) rfl #[.slice A7 m.secs.length p7, .slice B7 m.cache.length q7, .bool m.failed, .slice C7 m.bad.length r7] 26
    generalize hgg : w7.heap.size = g8 at *
    generalize hww : w7.alloc (.cells #[.slice A7 m.secs.length p7, .slice B7 m.cache.length q7, .bool m.failed, .slice C7 m.bad.length r7] 26 (0, 0)) = w8 at *
    have HS8 := Aside0.mk hB
    clear hB hgg hww
    have hB := HS8.out.sel [0, 1, 2, 3, 4] (by decide) (by simp)
    simp only [List.map_cons, List.map_nil, pick, List.getD_cons_succ, List.getD_cons_zero, List.set_cons_zero, List.set_cons_succ, List.eraseIdx_cons_zero, List.eraseIdx_cons_succ, List.setIfInBounds_toArray] at hB
    have HS9 := Aside0.mk hB
    clear hB
    clear a0_ a1_ a2_ a3_; obtain ⟨x00_, x01_, x02_, x03_⟩ := four (HS9.out.get 0 rfl)
    go_upto_region 10 with (first
      | (go_at_call 34; refine (c_toIntS (HS9.out.rk HX.out) hxl).mono ?_; rintro e w10 ⟨u10, F10, rfl, hu, hF, hb⟩; have HS10 := Aside0.mk (HS9.out.new (new_row hu hF hb)); clear hu hF hb; obtain ⟨A10, p10, rfl, hzz⟩ := O_RK (HS10.out.get 0 rfl); clear hzz)
      | fail)
    clear x00_ x01_ x02_ x03_; obtain ⟨x00_, x01_, x02_, x03_⟩ := four (HS10.out.get 1 rfl)
    go_upto_region 11 with (first
      | (go_at_call 35; refine (c_implWriteSec (MemO_R (HS10.out.get 2 rfl)) HSm.out (O_RK (HS10.out.get 0 rfl)) hxl).mono ?_; rintro e w11 ⟨u11, F11, rfl, hn⟩; have HS11 := Aside0.mk (HS10.out.new hn); clear hn; obtain ⟨A11, p11, B11, q11, C11, r11, rfl⟩ := me_form HS11.out)
      | fail)
    have hB := HS11.out.alloc (g := w11.heap.size) rfl #[.slice A11 (writeV m n xs).secs.length p11, .slice B11 (writeV m n xs).cache.length q11, .bool (writeV m n xs).failed, .slice C11 (writeV m n xs).bad.length r11] 26
    generalize hgg : w11.heap.size = g12 at *
    generalize hww : w11.alloc (.cells #[.slice A11 (writeV m n xs).secs.length p11, .slice B11 (writeV m n xs).cache.length q11, .bool (writeV m n xs).failed, .slice C11 (writeV m n xs).bad.length r11] 26 (0, 0)) = w12 at *
    have HS12 := Aside0.mk hB
    clear hB hgg hww
    clear x00_ x01_ x02_ x03_; obtain ⟨g00_, g01_, g02_, g03_⟩ := four (HS12.out.get 0 rfl); obtain ⟨w00_, w01_, w02_, w03_⟩ := four (HS12.out.get 5 rfl)
    go_upto_region 13 with (first
      | (go_at_call 17; refine (c_eqMem (MemO_R (HS12.out.get 1 rfl)) (MemO_R (HS12.out.get 6 rfl))).mono ?_; rw [decide_eq_true rfl]; rintro e w13 ⟨rfl, hb⟩; have HS13 := Aside0.mk (HS12.out.below hb); clear hb; clear g00_ g01_ g02_ g03_ w00_ w01_ w02_ w03_; obtain ⟨x00_, x01_, x02_, x03_⟩ := four (HS13.out.get 3 rfl); obtain ⟨a0_, a1_, a2_, a3_⟩ := four (HS13.out.get 7 rfl))
      | fail)
    go_wp2
    refine wp_region_seq (fun w' => w'.cell? ⟨g8, 0, none⟩ = some (.slice A7 m.secs.length p7) ∧ w'.cell? ⟨g8, 1, none⟩ = some (.slice B7 m.cache.length q7) ∧ w'.cell? ⟨g8, 2, none⟩ = some (.bool m.failed) ∧ w'.cell? ⟨g8, 3, none⟩ = some (.slice C7 m.bad.length r7) ∧ w'.cell? ⟨w.heap.size, 0, none⟩ = some (s) ∧ w'.cell? ⟨w.heap.size, 1, none⟩ = some (c) ∧ w'.cell? ⟨w.heap.size, 2, none⟩ = some (.bool m.failed) ∧ w'.cell? ⟨w.heap.size, 3, none⟩ = some (b)) [] [(0, true), (1, true), (2, false), (3, false), (4, true)] (by kernel_rfl) (by kernel_rfl) ?_
    have hS : (fun w' : World => w'.cell? ⟨g8, 0, none⟩ = some (.slice A7 m.secs.length p7) ∧ w'.cell? ⟨g8, 1, none⟩ = some (.slice B7 m.cache.length q7) ∧ w'.cell? ⟨g8, 2, none⟩ = some (.bool m.failed) ∧ w'.cell? ⟨g8, 3, none⟩ = some (.slice C7 m.bad.length r7) ∧ w'.cell? ⟨w.heap.size, 0, none⟩ = some (s) ∧ w'.cell? ⟨w.heap.size, 1, none⟩ = some (c) ∧ w'.cell? ⟨w.heap.size, 2, none⟩ = some (.bool m.failed) ∧ w'.cell? ⟨w.heap.size, 3, none⟩ = some (b)) w13.drew := ⟨x00_, x01_, x02_, x03_, a0_, a1_, a2_, a3_⟩
    iterate 2 (refine seq_take hS rfl (fun _ _ _ h => h) (by rfl) (fun w_ hSw => by (try dsimp only at hSw); go_simp; first | done | with_reducible rfl) ?_; (try simp only [Act.put, List.setIfInBounds_toArray, List.set_cons_zero, List.set_cons_succ]))
    refine seq_step rfl (fun K hK => ?_)
    go_simp
    go_at_call 22; refine (c_toMem (MemR_below H.out HS13.out.drew.toBelow) HSm.out).mono ?_; rintro e w14 ⟨u14, F14, rfl, hu, hF, hb⟩
    have HS14 := Aside0.mk (HS13.out.drew.new (new_mem hu hF hb))
    clear hu hF hb hS
    clear x00_ x01_ x02_ x03_ a0_ a1_ a2_ a3_; obtain ⟨x00_, x01_, x02_, x03_⟩ := four (HS14.out.get 4 rfl); obtain ⟨a0_, a1_, a2_, a3_⟩ := four (HS14.out.get 8 rfl)
    have hS : (fun w' : World => w'.cell? ⟨g8, 0, none⟩ = some (.slice A7 m.secs.length p7) ∧ w'.cell? ⟨g8, 1, none⟩ = some (.slice B7 m.cache.length q7) ∧ w'.cell? ⟨g8, 2, none⟩ = some (.bool m.failed) ∧ w'.cell? ⟨g8, 3, none⟩ = some (.slice C7 m.bad.length r7) ∧ w'.cell? ⟨w.heap.size, 0, none⟩ = some (s) ∧ w'.cell? ⟨w.heap.size, 1, none⟩ = some (c) ∧ w'.cell? ⟨w.heap.size, 2, none⟩ = some (.bool m.failed) ∧ w'.cell? ⟨w.heap.size, 3, none⟩ = some (b)) w14 := ⟨x00_, x01_, x02_, x03_, a0_, a1_, a2_, a3_⟩
    refine hK.out _ _ ⟨fun _ => hS, ?_⟩; clear hK K; (try simp only [Act.put, List.setIfInBounds_toArray, List.set_cons_zero, List.set_cons_succ])
    refine seq_step rfl (fun K hK => ?_)
    go_simp
    go_at_call 17; refine (c_eqMem (MemO_R (HS14.out.get 5 rfl)) (MemO_R (HS14.out.get 0 rfl))).mono ?_; rw [decide_eq_true rfl]; rintro e w15 ⟨rfl, hb⟩
    have HS15 := Aside0.mk (HS14.out.below hb)
    clear hb hS
    clear x00_ x01_ x02_ x03_ a0_ a1_ a2_ a3_; obtain ⟨x00_, x01_, x02_, x03_⟩ := four (HS15.out.get 4 rfl); obtain ⟨a0_, a1_, a2_, a3_⟩ := four (HS15.out.get 8 rfl)
    have hS : (fun w' : World => w'.cell? ⟨g8, 0, none⟩ = some (.slice A7 m.secs.length p7) ∧ w'.cell? ⟨g8, 1, none⟩ = some (.slice B7 m.cache.length q7) ∧ w'.cell? ⟨g8, 2, none⟩ = some (.bool m.failed) ∧ w'.cell? ⟨g8, 3, none⟩ = some (.slice C7 m.bad.length r7) ∧ w'.cell? ⟨w.heap.size, 0, none⟩ = some (s) ∧ w'.cell? ⟨w.heap.size, 1, none⟩ = some (c) ∧ w'.cell? ⟨w.heap.size, 2, none⟩ = some (.bool m.failed) ∧ w'.cell? ⟨w.heap.size, 3, none⟩ = some (b)) w15 := ⟨x00_, x01_, x02_, x03_, a0_, a1_, a2_, a3_⟩
    refine hK.out _ _ ⟨fun _ => hS, ?_⟩; clear hK K; (try simp only [Act.put, List.setIfInBounds_toArray, List.set_cons_zero, List.set_cons_succ])
    iterate 1 (refine seq_take hS rfl (fun _ _ _ h => h) (by rfl) (fun w_ hSw => by (try dsimp only at hSw); go_simp; first | done | with_reducible rfl) ?_; (try simp only [Act.put, List.setIfInBounds_toArray, List.set_cons_zero, List.set_cons_succ]))
    clear hS
    refine seq_done ?_
    have hB := HS15.out.sel [1, 2, 3, 4, 5, 6, 7, 8] (by decide) (by simp)
    simp only [List.map_cons, List.map_nil, pick, List.getD_cons_succ, List.getD_cons_zero, List.set_cons_zero, List.set_cons_succ, List.eraseIdx_cons_zero, List.eraseIdx_cons_succ, List.setIfInBounds_toArray] at hB
    have HS16 := Aside0.mk hB
    clear hB
    clear x00_ x01_ x02_ x03_ a0_ a1_ a2_ a3_; obtain ⟨x00_, x01_, x02_, x03_⟩ := four (HS16.out.get 3 rfl)
    go_upto_region 15 with fail
    go_upto_region 18 with (first
      | (go_at_call 34; refine (c_toIntS (HS16.out.rk HX.out) hxl).mono ?_; rintro e w17 ⟨u17, F17, rfl, hu, hF, hb⟩; have HS17 := Aside0.mk (HS16.out.new (new_row hu hF hb)); clear hu hF hb)
      | (go_at_call 26; refine (c_eqIntS (O_RK (HS17.out.get 3 rfl)) (O_RK (HS17.out.get 0 rfl))).mono ?_; rw [decide_eq_true rfl]; rintro e w18 ⟨rfl, hb⟩; have HS18 := Aside0.mk (HS17.out.dr hb); clear hb; skip)
      | fail)
    have hB := HS18.out.sel [1, 2, 3, 4, 5, 6, 7, 8] (by decide) (by simp)
    simp only [List.map_cons, List.map_nil, pick, List.getD_cons_succ, List.getD_cons_zero, List.set_cons_zero, List.set_cons_succ, List.eraseIdx_cons_zero, List.eraseIdx_cons_succ, List.setIfInBounds_toArray] at hB
    have HS19 := Aside0.mk hB
    clear hB
    clear x00_ x01_ x02_ x03_; obtain ⟨x00_, x01_, x02_, x03_⟩ := four (HS19.out.get 3 rfl)
    go_upto_region 19 with (first
      | (go_at_call 18; refine (c_markMem (HS19.out.get 4 rfl) (HS19.out.fnd 4 rfl) (by omega) (by omega)).mono ?_; rintro e w20 ⟨rfl, ⟨F20, hu, hF, hs⟩, hc⟩; have hB := HS19.out.upd 4 rfl (upd_mark hu hF hs hc); simp only [List.map_cons, List.map_nil, pick, List.getD_cons_succ, List.getD_cons_zero, List.set_cons_zero, List.set_cons_succ, List.eraseIdx_cons_zero, List.eraseIdx_cons_succ, List.setIfInBounds_toArray] at hB; have HS20 := Aside0.mk hB; clear hB hu hF hs hc; clear x00_ x01_ x02_ x03_)
      | fail)
    go_upto_region 20 with (first
      | (go_at_call 27; refine (c_markIntS (HS20.out.get 2 rfl) (by omega) (by omega)).mono ?_; rintro e w21 ⟨rfl, hu, hc⟩; have hB := HS20.out.upd 2 rfl (upd_ints hu (HS20.out.fnd 2 rfl) hc); simp only [List.map_cons, List.map_nil, pick, List.getD_cons_succ, List.getD_cons_zero, List.set_cons_zero, List.set_cons_succ, List.eraseIdx_cons_zero, List.eraseIdx_cons_succ, List.setIfInBounds_toArray] at hB; have HS21 := Aside0.mk hB; clear hB hu hc; obtain ⟨g00_, g01_, g02_, g03_⟩ := four (HS21.out.get 0 rfl); obtain ⟨w00_, w01_, w02_, w03_⟩ := four (HS21.out.get 5 rfl))
      | fail)
    go_upto_region 23 with (first
      | (go_at_call 17; refine (c_eqMem (MemO_R (HS21.out.get 1 rfl)) (MemO_R (HS21.out.get 6 rfl))).mono ?_; rw [decide_eq_true rfl]; rintro e w22 ⟨rfl, hb⟩; have HS22 := Aside0.mk (HS21.out.below hb); clear hb; clear g00_ g01_ g02_ g03_ w00_ w01_ w02_ w03_; obtain ⟨g00_, g01_, g02_, g03_⟩ := four (HS22.out.get 0 rfl))
      | fail)
    go_upto_region 25 with (first
      | (go_at_call 18; refine (c_markMem (HS22.out.get 1 rfl) (HS22.out.fnd 1 rfl) (by omega) (by have := htot; omega)).mono ?_; rintro e w23 ⟨rfl, ⟨F23, hu, hF, hs⟩, hc⟩; have hB := HS22.out.upd 1 rfl (upd_mark hu hF hs hc); simp only [List.map_cons, List.map_nil, pick, List.getD_cons_succ, List.getD_cons_zero, List.set_cons_zero, List.set_cons_succ, List.eraseIdx_cons_zero, List.eraseIdx_cons_succ, List.setIfInBounds_toArray] at hB; have HS23 := Aside0.mk hB; clear hB hu hF hs hc; clear g00_ g01_ g02_ g03_; obtain ⟨g00_, g01_, g02_, g03_⟩ := four (HS23.out.get 0 rfl))
      | fail)
    go_upto_region 30 with (first
      | (go_at_call 19; refine (c_heldMem (MemO_R (HS23.out.get 1 rfl)) (by omega) (by have := htot; omega)).mono ?_; rintro e w24 ⟨rfl, hb⟩; have HS24 := Aside0.mk (HS23.out.below hb); clear hb; clear g00_ g01_ g02_ g03_; obtain ⟨a0_, a1_, a2_, a3_⟩ := four (HS24.out.get 7 rfl))
      | fail)
    go_upto_region 31 with (first
      | (go_at_call 22; refine (c_toMem (MemR_below H.out HS24.out.toBelow) HSm.out).mono ?_; rintro e w25 ⟨u25, F25, rfl, hu, hF, hb⟩; have HS25 := Aside0.mk (HS24.out.new (new_mem hu hF hb)); clear hu hF hb)
      | (go_at_call 34; refine (c_toIntS (HS25.out.rk HX.out) hxl).mono ?_; rintro e w26 ⟨u26, F26, rfl, hu, hF, hb⟩; have HS26 := Aside0.mk (HS25.out.new (new_row hu hF hb)); clear hu hF hb)
      | (go_at_call 35; refine (c_implWriteSec (MemO_R (HS26.out.get 1 rfl)) HSm.out (O_RK (HS26.out.get 0 rfl)) hxl).mono ?_; rintro e w27 ⟨u27, F27, rfl, hn⟩; have HS27 := Aside0.mk (HS26.out.new hn); clear hn; obtain ⟨A27, p27, B27, q27, C27, r27, rfl⟩ := me_form HS27.out)
      | fail)
    have hB := HS27.out.alloc (g := w27.heap.size) rfl #[.slice A27 (writeV m n xs).secs.length p27, .slice B27 (writeV m n xs).cache.length q27, .bool (writeV m n xs).failed, .slice C27 (writeV m n xs).bad.length r27] 26
    generalize hgg : w27.heap.size = g28 at *
    generalize hww : w27.alloc (.cells #[.slice A27 (writeV m n xs).secs.length p27, .slice B27 (writeV m n xs).cache.length q27, .bool (writeV m n xs).failed, .slice C27 (writeV m n xs).bad.length r27] 26 (0, 0)) = w28 at *
    have HS28 := Aside0.mk hB
    clear hB hgg hww
    have hB := HS28.out.sel [0, 1, 4, 5, 6, 7, 8, 9, 10, 11] (by decide) (by simp)
    simp only [List.map_cons, List.map_nil, pick, List.getD_cons_succ, List.getD_cons_zero, List.set_cons_zero, List.set_cons_succ, List.eraseIdx_cons_zero, List.eraseIdx_cons_succ, List.setIfInBounds_toArray] at hB
    have HS29 := Aside0.mk hB
    clear hB
    clear a0_ a1_ a2_ a3_; obtain ⟨h00_, h01_, h02_, h03_⟩ := four (HS29.out.get 0 rfl); obtain ⟨w00_, w01_, w02_, w03_⟩ := four (HS29.out.get 7 rfl)
    go_upto_region 34 with (first
      | (go_at_call 17; refine (c_eqMem (MemO_R (HS29.out.get 1 rfl)) (MemO_R (HS29.out.get 8 rfl))).mono ?_; rw [decide_eq_true rfl]; rintro e w30 ⟨rfl, hb⟩; have HS30 := Aside0.mk (HS29.out.below hb); clear hb; clear h00_ h01_ h02_ h03_ w00_ w01_ w02_ w03_; obtain ⟨g00_, g01_, g02_, g03_⟩ := four (HS30.out.get 2 rfl))
      | fail)
    go_wp2_with (first
      | (go_at_call 19; refine (c_heldMem (MemO_R (HS30.out.get 3 rfl)) (by omega) (by have := htot; omega)).mono ?_; rintro e w31 ⟨rfl, hb⟩; have HS31 := Aside0.mk (HS30.out.below hb); clear hb; clear g00_ g01_ g02_ g03_)
      | fail)
    go_ret
    exact ⟨rfl, HS31.out.toBelow⟩
end Go.Proofs.Ytbejlccfclkiiaa.LawWriteSec
