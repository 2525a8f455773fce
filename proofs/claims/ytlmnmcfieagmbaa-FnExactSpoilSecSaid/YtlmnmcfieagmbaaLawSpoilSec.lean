/- The law FnExactSpoilSec: it returns true. -/
import Derived.Test.YtlmnmcfieagmbaaLawLib
import Derived.Test.YtlmnmcfieagmbaaMSpoilS
import Derived.Test.YtlmnmcfieagmbaaMSpoil
import Derived.Deep.DrawnRows
namespace Go.Proofs.Ytlmnmcfieagmbaa.LawSpoilSec
open Go.RowKit Go.Proofs.Ytlmnmcfieagmbaa.RJ Go.Proofs.YtlmnmcfieagmbaaW.PrintWords Go.Proofs.Ytlmnmcfieagmbaa.Fp Go.Proofs.Ytlmnmcfieagmbaa.MInt Go.Proofs.Ytlmnmcfieagmbaa.MKinds Go.Proofs.Ytlmnmcfieagmbaa.MRead Go.Proofs.Ytlmnmcfieagmbaa.MMake Go.Proofs.Ytlmnmcfieagmbaa.MPut Go.Proofs.Ytlmnmcfieagmbaa.MHeld Go.Proofs.Ytlmnmcfieagmbaa.MMark Go.Proofs.Ytlmnmcfieagmbaa.MOk Go.Proofs.Ytlmnmcfieagmbaa.MVal Go.Proofs.Ytlmnmcfieagmbaa.Sep Go.Proofs.Ytlmnmcfieagmbaa.SepStep Go.Proofs.Ytlmnmcfieagmbaa.LawLib Go.Proofs.Ytlmnmcfieagmbaa.MSpoilS Go.Proofs.Ytlmnmcfieagmbaa.MSpoil
set_option linter.unusedVariables false
set_option linter.unusedSimpArgs false
attribute [local go_sem ↓] Go.wp_at_zero Go.wp_at_succ
set_option maxHeartbeats 8000000 in
set_option maxRecDepth 100000 in
theorem law_SpoilSec {w : World} {v : Value} {m : MemV} {n : Int} (h : MemR w v m) : Calls Try.prog 3 #[v, .int .i64 n] w fun e w' => e = .returned (.bool true) ∧ Below w.heap.size w w' := by
  have H := Aside0.mk h
  obtain ⟨s, c, b, rfl, r1, r2, r3⟩ := h
  clear r1 r2 r3
  by_cases hz : (1048576 : Int) - (szM m : Int) < 0
  · go_enter Try.func3, Try.ntmps3
    go_wp2_with (first
      | (go_at_call 11; refine (c_szMem (MemR_below H.out (below_alloc (Below.refl _ _) _)) (by omega) (by omega)).mono ?_; rw [sub0_neg (by omega)]; rintro e w1 ⟨rfl, hb⟩; have HS1 := Aside0.mk ((((Sep.start w []).alloc (g := w.heap.size) rfl #[s, c, .bool m.failed, b] 26)).below hb); clear hb)
      | fail)
    go_ret
    exact ⟨rfl, HS1.out.toBelow⟩
  · have hsz : totM m ≤ 1048576 := by have := totM_szM m; omega
    have hsm : Small m := small_of m (by omega)
    have HSm := Aside0.mk hsm
    clear hsm
    go_enter Try.func3, Try.ntmps3
    go_upto_region 5 with (first
      | (go_at_call 11; refine (c_szMem (MemR_below H.out (below_alloc (Below.refl _ _) _)) (by omega) (by omega)).mono ?_; rw [sub0_pos (by omega)]; rintro e w1 ⟨rfl, hb⟩; have HS1 := Aside0.mk ((((Sep.start w []).alloc (g := w.heap.size) rfl #[s, c, .bool m.failed, b] 26)).below hb); clear hb)
      | fail)
    obtain ⟨a0_, a1_, a2_, a3_⟩ := four (HS1.out.get 0 rfl)
    have htot : totM (spoilV m n) ≤ 4194304 := (by have := spoilV_tot m n; omega)
    go_upto_region 6 with (first
      | (go_at_call 13; refine (c_toMem (MemR_below H.out HS1.out.toBelow) HSm.out).mono ?_; rintro e w2 ⟨u2, F2, rfl, hu, hF, hb⟩; have HS2 := Aside0.mk (HS1.out.new (new_mem hu hF hb)); clear hu hF hb)
      | (go_at_call 12; refine (c_specSpoilSec (MemO_R (HS2.out.get 0 rfl)) HSm.out).mono ?_; rintro e w3 ⟨u3, F3, rfl, hn⟩; have HS3 := Aside0.mk (HS2.out.new hn); clear hn; obtain ⟨A3, p3, B3, q3, C3, r3, rfl⟩ := me_form HS3.out)
      | fail)
    have hB := HS3.out.alloc (g := w3.heap.size) rfl #[.slice A3 (spoilV m n).secs.length p3, .slice B3 (spoilV m n).cache.length q3, .bool (spoilV m n).failed, .slice C3 (spoilV m n).bad.length r3] 30
    generalize hgg : w3.heap.size = g4 at *
    generalize hww : w3.alloc (.cells #[.slice A3 (spoilV m n).secs.length p3, .slice B3 (spoilV m n).cache.length q3, .bool (spoilV m n).failed, .slice C3 (spoilV m n).bad.length r3] 30 (0, 0)) = w4 at *
    have HS4 := Aside0.mk hB
    clear hB hgg hww
    have hB := HS4.out.sel [0, 1, 3] (by decide) (by simp)
    simp only [List.map_cons, List.map_nil, pick, List.getD_cons_succ, List.getD_cons_zero, List.set_cons_zero, List.set_cons_succ, List.eraseIdx_cons_zero, List.eraseIdx_cons_succ, List.setIfInBounds_toArray] at hB
    have HS5 := Aside0.mk hB
    clear hB
    clear a0_ a1_ a2_ a3_; obtain ⟨a0_, a1_, a2_, a3_⟩ := four (HS5.out.get 2 rfl)
    go_upto_region 7 with (first
      | (go_at_call 13; refine (c_toMem (MemR_below H.out HS5.out.toBelow) HSm.out).mono ?_; rintro e w6 ⟨u6, F6, rfl, hu, hF, hb⟩; have HS6 := Aside0.mk (HS5.out.new (new_mem hu hF hb)); clear hu hF hb; obtain ⟨A6, p6, B6, q6, C6, r6, rfl⟩ := me_form HS6.out)
      | fail)
    have hB := HS6.out.alloc (g := w6.heap.size) rfl #[.slice A6 m.secs.length p6, .slice B6 m.cache.length q6, .bool m.failed, .slice C6 m.bad.length r6] 30
    generalize hgg : w6.heap.size = g7 at *
    generalize hww : w6.alloc (.cells #[.slice A6 m.secs.length p6, .slice B6 m.cache.length q6, .bool m.failed, .slice C6 m.bad.length r6] 30 (0, 0)) = w7 at *
    have HS7 := Aside0.mk hB
    clear hB hgg hww
    have hB := HS7.out.sel [0, 1, 2, 3, 4] (by decide) (by simp)
    simp only [List.map_cons, List.map_nil, pick, List.getD_cons_succ, List.getD_cons_zero, List.set_cons_zero, List.set_cons_succ, List.eraseIdx_cons_zero, List.eraseIdx_cons_succ, List.setIfInBounds_toArray] at hB
    have HS8 := Aside0.mk hB
    clear hB
    clear a0_ a1_ a2_ a3_; obtain ⟨x00_, x01_, x02_, x03_⟩ := four (HS8.out.get 0 rfl)
    go_upto_region 8 with (first
      | (go_at_call 14; refine (c_implSpoilSec (MemO_R (HS8.out.get 1 rfl)) HSm.out).mono ?_; rintro e w9 ⟨u9, F9, rfl, hn⟩; have HS9 := Aside0.mk (HS8.out.new hn); clear hn; obtain ⟨A9, p9, B9, q9, C9, r9, rfl⟩ := me_form HS9.out)
      | fail)
    have hB := HS9.out.alloc (g := w9.heap.size) rfl #[.slice A9 (spoilV m n).secs.length p9, .slice B9 (spoilV m n).cache.length q9, .bool (spoilV m n).failed, .slice C9 (spoilV m n).bad.length r9] 30
    generalize hgg : w9.heap.size = g10 at *
    generalize hww : w9.alloc (.cells #[.slice A9 (spoilV m n).secs.length p9, .slice B9 (spoilV m n).cache.length q9, .bool (spoilV m n).failed, .slice C9 (spoilV m n).bad.length r9] 30 (0, 0)) = w10 at *
    have HS10 := Aside0.mk hB
    clear hB hgg hww
    clear x00_ x01_ x02_ x03_; obtain ⟨g00_, g01_, g02_, g03_⟩ := four (HS10.out.get 0 rfl); obtain ⟨w00_, w01_, w02_, w03_⟩ := four (HS10.out.get 4 rfl)
    go_upto_region 10 with (first
      | (go_at_call 15; refine (c_eqMem (MemO_R (HS10.out.get 1 rfl)) (MemO_R (HS10.out.get 5 rfl))).mono ?_; rw [decide_eq_true rfl]; rintro e w11 ⟨rfl, hb⟩; have HS11 := Aside0.mk (HS10.out.below hb); clear hb; clear g00_ g01_ g02_ g03_ w00_ w01_ w02_ w03_; obtain ⟨x00_, x01_, x02_, x03_⟩ := four (HS11.out.get 2 rfl); obtain ⟨a0_, a1_, a2_, a3_⟩ := four (HS11.out.get 6 rfl))
      | fail)
    go_wp2
    refine wp_region_seq (fun w' => w'.cell? ⟨g7, 0, none⟩ = some (.slice A6 m.secs.length p6) ∧ w'.cell? ⟨g7, 1, none⟩ = some (.slice B6 m.cache.length q6) ∧ w'.cell? ⟨g7, 2, none⟩ = some (.bool m.failed) ∧ w'.cell? ⟨g7, 3, none⟩ = some (.slice C6 m.bad.length r6) ∧ w'.cell? ⟨w.heap.size, 0, none⟩ = some (s) ∧ w'.cell? ⟨w.heap.size, 1, none⟩ = some (c) ∧ w'.cell? ⟨w.heap.size, 2, none⟩ = some (.bool m.failed) ∧ w'.cell? ⟨w.heap.size, 3, none⟩ = some (b)) [] [(0, true), (1, true), (2, false), (3, false), (4, true)] (by kernel_rfl) (by kernel_rfl) ?_
    have hS : (fun w' : World => w'.cell? ⟨g7, 0, none⟩ = some (.slice A6 m.secs.length p6) ∧ w'.cell? ⟨g7, 1, none⟩ = some (.slice B6 m.cache.length q6) ∧ w'.cell? ⟨g7, 2, none⟩ = some (.bool m.failed) ∧ w'.cell? ⟨g7, 3, none⟩ = some (.slice C6 m.bad.length r6) ∧ w'.cell? ⟨w.heap.size, 0, none⟩ = some (s) ∧ w'.cell? ⟨w.heap.size, 1, none⟩ = some (c) ∧ w'.cell? ⟨w.heap.size, 2, none⟩ = some (.bool m.failed) ∧ w'.cell? ⟨w.heap.size, 3, none⟩ = some (b)) w11.drew := ⟨x00_, x01_, x02_, x03_, a0_, a1_, a2_, a3_⟩
    iterate 2 (refine seq_take hS rfl (fun _ _ _ h => h) (by rfl) (fun w_ hSw => by (try dsimp only at hSw); go_simp; first | done | with_reducible rfl) ?_; (try simp only [Act.put, List.setIfInBounds_toArray, List.set_cons_zero, List.set_cons_succ]))
    refine seq_step rfl (fun K hK => ?_)
    go_simp
    go_at_call 13; refine (c_toMem (MemR_below H.out HS11.out.drew.toBelow) HSm.out).mono ?_; rintro e w12 ⟨u12, F12, rfl, hu, hF, hb⟩
    have HS12 := Aside0.mk (HS11.out.drew.new (new_mem hu hF hb))
    clear hu hF hb hS
    clear x00_ x01_ x02_ x03_ a0_ a1_ a2_ a3_; obtain ⟨x00_, x01_, x02_, x03_⟩ := four (HS12.out.get 3 rfl); obtain ⟨a0_, a1_, a2_, a3_⟩ := four (HS12.out.get 7 rfl)
    have hS : (fun w' : World => w'.cell? ⟨g7, 0, none⟩ = some (.slice A6 m.secs.length p6) ∧ w'.cell? ⟨g7, 1, none⟩ = some (.slice B6 m.cache.length q6) ∧ w'.cell? ⟨g7, 2, none⟩ = some (.bool m.failed) ∧ w'.cell? ⟨g7, 3, none⟩ = some (.slice C6 m.bad.length r6) ∧ w'.cell? ⟨w.heap.size, 0, none⟩ = some (s) ∧ w'.cell? ⟨w.heap.size, 1, none⟩ = some (c) ∧ w'.cell? ⟨w.heap.size, 2, none⟩ = some (.bool m.failed) ∧ w'.cell? ⟨w.heap.size, 3, none⟩ = some (b)) w12 := ⟨x00_, x01_, x02_, x03_, a0_, a1_, a2_, a3_⟩
    refine hK.out _ _ ⟨fun _ => hS, ?_⟩; clear hK K; (try simp only [Act.put, List.setIfInBounds_toArray, List.set_cons_zero, List.set_cons_succ])
    refine seq_step rfl (fun K hK => ?_)
    go_simp
    go_at_call 15; refine (c_eqMem (MemO_R (HS12.out.get 4 rfl)) (MemO_R (HS12.out.get 0 rfl))).mono ?_; rw [decide_eq_true rfl]; rintro e w13 ⟨rfl, hb⟩
    have HS13 := Aside0.mk (HS12.out.below hb)
    clear hb hS
    clear x00_ x01_ x02_ x03_ a0_ a1_ a2_ a3_; obtain ⟨x00_, x01_, x02_, x03_⟩ := four (HS13.out.get 3 rfl); obtain ⟨a0_, a1_, a2_, a3_⟩ := four (HS13.out.get 7 rfl)
    have hS : (fun w' : World => w'.cell? ⟨g7, 0, none⟩ = some (.slice A6 m.secs.length p6) ∧ w'.cell? ⟨g7, 1, none⟩ = some (.slice B6 m.cache.length q6) ∧ w'.cell? ⟨g7, 2, none⟩ = some (.bool m.failed) ∧ w'.cell? ⟨g7, 3, none⟩ = some (.slice C6 m.bad.length r6) ∧ w'.cell? ⟨w.heap.size, 0, none⟩ = some (s) ∧ w'.cell? ⟨w.heap.size, 1, none⟩ = some (c) ∧ w'.cell? ⟨w.heap.size, 2, none⟩ = some (.bool m.failed) ∧ w'.cell? ⟨w.heap.size, 3, none⟩ = some (b)) w13 := ⟨x00_, x01_, x02_, x03_, a0_, a1_, a2_, a3_⟩
    refine hK.out _ _ ⟨fun _ => hS, ?_⟩; clear hK K; (try simp only [Act.put, List.setIfInBounds_toArray, List.set_cons_zero, List.set_cons_succ])
    iterate 1 (refine seq_take hS rfl (fun _ _ _ h => h) (by rfl) (fun w_ hSw => by (try dsimp only at hSw); go_simp; first | done | with_reducible rfl) ?_; (try simp only [Act.put, List.setIfInBounds_toArray, List.set_cons_zero, List.set_cons_succ]))
    clear hS
    refine seq_done ?_
    have hB := HS13.out.sel [1, 2, 3, 4, 5, 6, 7] (by decide) (by simp)
    simp only [List.map_cons, List.map_nil, pick, List.getD_cons_succ, List.getD_cons_zero, List.set_cons_zero, List.set_cons_succ, List.eraseIdx_cons_zero, List.eraseIdx_cons_succ, List.setIfInBounds_toArray] at hB
    have HS14 := Aside0.mk hB
    clear hB
    clear x00_ x01_ x02_ x03_ a0_ a1_ a2_ a3_; obtain ⟨x00_, x01_, x02_, x03_⟩ := four (HS14.out.get 2 rfl)
    go_upto_region 13 with fail
    go_upto_region 14 with (first
      | (go_at_call 16; refine (c_markMem (HS14.out.get 3 rfl) (HS14.out.fnd 3 rfl) (by omega) (by omega)).mono ?_; rintro e w15 ⟨rfl, ⟨F15, hu, hF, hs⟩, hc⟩; have hB := HS14.out.upd 3 rfl (upd_mark hu hF hs hc); simp only [List.map_cons, List.map_nil, pick, List.getD_cons_succ, List.getD_cons_zero, List.set_cons_zero, List.set_cons_succ, List.eraseIdx_cons_zero, List.eraseIdx_cons_succ, List.setIfInBounds_toArray] at hB; have HS15 := Aside0.mk hB; clear hB hu hF hs hc; clear x00_ x01_ x02_ x03_; obtain ⟨g00_, g01_, g02_, g03_⟩ := four (HS15.out.get 0 rfl); obtain ⟨w00_, w01_, w02_, w03_⟩ := four (HS15.out.get 4 rfl))
      | fail)
    go_upto_region 17 with (first
      | (go_at_call 15; refine (c_eqMem (MemO_R (HS15.out.get 1 rfl)) (MemO_R (HS15.out.get 5 rfl))).mono ?_; rw [decide_eq_true rfl]; rintro e w16 ⟨rfl, hb⟩; have HS16 := Aside0.mk (HS15.out.below hb); clear hb; clear g00_ g01_ g02_ g03_ w00_ w01_ w02_ w03_; obtain ⟨g00_, g01_, g02_, g03_⟩ := four (HS16.out.get 0 rfl))
      | fail)
    go_upto_region 19 with (first
      | (go_at_call 16; refine (c_markMem (HS16.out.get 1 rfl) (HS16.out.fnd 1 rfl) (by omega) (by have := htot; omega)).mono ?_; rintro e w17 ⟨rfl, ⟨F17, hu, hF, hs⟩, hc⟩; have hB := HS16.out.upd 1 rfl (upd_mark hu hF hs hc); simp only [List.map_cons, List.map_nil, pick, List.getD_cons_succ, List.getD_cons_zero, List.set_cons_zero, List.set_cons_succ, List.eraseIdx_cons_zero, List.eraseIdx_cons_succ, List.setIfInBounds_toArray] at hB; have HS17 := Aside0.mk hB; clear hB hu hF hs hc; clear g00_ g01_ g02_ g03_; obtain ⟨g00_, g01_, g02_, g03_⟩ := four (HS17.out.get 0 rfl))
      | fail)
    go_upto_region 24 with (first
      | (go_at_call 17; refine (c_heldMem (MemO_R (HS17.out.get 1 rfl)) (by omega) (by have := htot; omega)).mono ?_; rintro e w18 ⟨rfl, hb⟩; have HS18 := Aside0.mk (HS17.out.below hb); clear hb; clear g00_ g01_ g02_ g03_; obtain ⟨a0_, a1_, a2_, a3_⟩ := four (HS18.out.get 6 rfl))
      | fail)
    go_upto_region 25 with (first
      | (go_at_call 13; refine (c_toMem (MemR_below H.out HS18.out.toBelow) HSm.out).mono ?_; rintro e w19 ⟨u19, F19, rfl, hu, hF, hb⟩; have HS19 := Aside0.mk (HS18.out.new (new_mem hu hF hb)); clear hu hF hb)
      | (go_at_call 14; refine (c_implSpoilSec (MemO_R (HS19.out.get 0 rfl)) HSm.out).mono ?_; rintro e w20 ⟨u20, F20, rfl, hn⟩; have HS20 := Aside0.mk (HS19.out.new hn); clear hn; obtain ⟨A20, p20, B20, q20, C20, r20, rfl⟩ := me_form HS20.out)
      | fail)
    have hB := HS20.out.alloc (g := w20.heap.size) rfl #[.slice A20 (spoilV m n).secs.length p20, .slice B20 (spoilV m n).cache.length q20, .bool (spoilV m n).failed, .slice C20 (spoilV m n).bad.length r20] 30
    generalize hgg : w20.heap.size = g21 at *
    generalize hww : w20.alloc (.cells #[.slice A20 (spoilV m n).secs.length p20, .slice B20 (spoilV m n).cache.length q20, .bool (spoilV m n).failed, .slice C20 (spoilV m n).bad.length r20] 30 (0, 0)) = w21 at *
    have HS21 := Aside0.mk hB
    clear hB hgg hww
    have hB := HS21.out.sel [0, 1, 3, 4, 5, 6, 7, 8, 9] (by decide) (by simp)
    simp only [List.map_cons, List.map_nil, pick, List.getD_cons_succ, List.getD_cons_zero, List.set_cons_zero, List.set_cons_succ, List.eraseIdx_cons_zero, List.eraseIdx_cons_succ, List.setIfInBounds_toArray] at hB
    have HS22 := Aside0.mk hB
    clear hB
    clear a0_ a1_ a2_ a3_; obtain ⟨h00_, h01_, h02_, h03_⟩ := four (HS22.out.get 0 rfl); obtain ⟨w00_, w01_, w02_, w03_⟩ := four (HS22.out.get 6 rfl)
    go_upto_region 28 with (first
      | (go_at_call 15; refine (c_eqMem (MemO_R (HS22.out.get 1 rfl)) (MemO_R (HS22.out.get 7 rfl))).mono ?_; rw [decide_eq_true rfl]; rintro e w23 ⟨rfl, hb⟩; have HS23 := Aside0.mk (HS22.out.below hb); clear hb; clear h00_ h01_ h02_ h03_ w00_ w01_ w02_ w03_; obtain ⟨g00_, g01_, g02_, g03_⟩ := four (HS23.out.get 2 rfl))
      | fail)
    go_wp2_with (first
      | (go_at_call 17; refine (c_heldMem (MemO_R (HS23.out.get 3 rfl)) (by omega) (by have := htot; omega)).mono ?_; rintro e w24 ⟨rfl, hb⟩; have HS24 := Aside0.mk (HS23.out.below hb); clear hb; clear g00_ g01_ g02_ g03_)
      | fail)
    go_ret
    exact ⟨rfl, HS24.out.toBelow⟩
end Go.Proofs.Ytlmnmcfieagmbaa.LawSpoilSec
