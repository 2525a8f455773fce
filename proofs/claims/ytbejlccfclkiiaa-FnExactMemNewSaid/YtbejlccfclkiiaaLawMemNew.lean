/- The law FnExactMemNew: it returns true. -/
import Derived.Test.YtbejlccfclkiiaaLawLib
import Derived.Test.YtbejlccfclkiiaaMFail
import Derived.Deep.DrawnRows
namespace Go.Proofs.Ytbejlccfclkiiaa.LawMemNew
open Go.RowKit Go.Proofs.Ytbejlccfclkiiaa.RJ Go.Proofs.YtbejlccfclkiiaaW.PrintWords Go.Proofs.Ytbejlccfclkiiaa.Fp Go.Proofs.Ytbejlccfclkiiaa.MInt Go.Proofs.Ytbejlccfclkiiaa.MKinds Go.Proofs.Ytbejlccfclkiiaa.MRead Go.Proofs.Ytbejlccfclkiiaa.MMake Go.Proofs.Ytbejlccfclkiiaa.MPut Go.Proofs.Ytbejlccfclkiiaa.MHeld Go.Proofs.Ytbejlccfclkiiaa.MMark Go.Proofs.Ytbejlccfclkiiaa.MOk Go.Proofs.Ytbejlccfclkiiaa.MVal Go.Proofs.Ytbejlccfclkiiaa.Sep Go.Proofs.Ytbejlccfclkiiaa.SepStep Go.Proofs.Ytbejlccfclkiiaa.LawLib Go.Proofs.Ytbejlccfclkiiaa.MFail
set_option linter.unusedVariables false
set_option linter.unusedSimpArgs false
attribute [local go_sem ↓] Go.wp_at_zero Go.wp_at_succ
set_option maxHeartbeats 8000000 in
set_option maxRecDepth 100000 in
theorem law_MemNew {w : World} {n : Int} : Calls Try.prog 3 #[.int .i64 n] w fun e w' => e = .returned (.bool true) ∧ Below w.heap.size w w' := by
  go_enter Try.func3, Try.ntmps3
  have HS0 := Aside0.mk (Sep.start w [])
  have htot : totM (newV n) ≤ 4194304 := newV_tot n
  go_upto_region 2 with (first
    | (go_at_call 15; refine (c_specMemNew n _).mono ?_; rintro e w1 ⟨u1, F1, rfl, hn⟩; have HS1 := Aside0.mk (HS0.out.new hn); clear hn; obtain ⟨A1, p1, B1, q1, C1, r1, rfl⟩ := me_form HS1.out)
    | fail)
  have hB := HS1.out.alloc (g := w1.heap.size) rfl #[.slice A1 (newV n).secs.length p1, .slice B1 (newV n).cache.length q1, .bool (newV n).failed, .slice C1 (newV n).bad.length r1] 26
  generalize hgg : w1.heap.size = g2 at *
  generalize hww : w1.alloc (.cells #[.slice A1 (newV n).secs.length p1, .slice B1 (newV n).cache.length q1, .bool (newV n).failed, .slice C1 (newV n).bad.length r1] 26 (0, 0)) = w2 at *
  have HS2 := Aside0.mk hB
  clear hB hgg hww
  skip
  go_upto_region 3 with (first
    | (go_at_call 16; refine (c_implMemNew n _).mono ?_; rintro e w3 ⟨u3, F3, rfl, hn⟩; have HS3 := Aside0.mk (HS2.out.new hn); clear hn; obtain ⟨A3, p3, B3, q3, C3, r3, rfl⟩ := me_form HS3.out)
    | fail)
  have hB := HS3.out.alloc (g := w3.heap.size) rfl #[.slice A3 (newV n).secs.length p3, .slice B3 (newV n).cache.length q3, .bool (newV n).failed, .slice C3 (newV n).bad.length r3] 26
  generalize hgg : w3.heap.size = g4 at *
  generalize hww : w3.alloc (.cells #[.slice A3 (newV n).secs.length p3, .slice B3 (newV n).cache.length q3, .bool (newV n).failed, .slice C3 (newV n).bad.length r3] 26 (0, 0)) = w4 at *
  have HS4 := Aside0.mk hB
  clear hB hgg hww
  obtain ⟨g00_, g01_, g02_, g03_⟩ := four (HS4.out.get 0 rfl); obtain ⟨w00_, w01_, w02_, w03_⟩ := four (HS4.out.get 2 rfl)
  go_upto_region 6 with (first
    | (go_at_call 17; refine (c_eqMem (MemO_R (HS4.out.get 1 rfl)) (MemO_R (HS4.out.get 3 rfl))).mono ?_; rw [decide_eq_true rfl]; rintro e w5 ⟨rfl, hb⟩; have HS5 := Aside0.mk (HS4.out.below hb); clear hb; clear g00_ g01_ g02_ g03_ w00_ w01_ w02_ w03_; obtain ⟨g00_, g01_, g02_, g03_⟩ := four (HS5.out.get 0 rfl))
    | fail)
  go_upto_region 8 with (first
    | (go_at_call 18; refine (c_markMem (HS5.out.get 1 rfl) (HS5.out.fnd 1 rfl) (by omega) (by have := htot; omega)).mono ?_; rintro e w6 ⟨rfl, ⟨F6, hu, hF, hs⟩, hc⟩; have hB := HS5.out.upd 1 rfl (upd_mark hu hF hs hc); simp only [List.map_cons, List.map_nil, pick, List.getD_cons_succ, List.getD_cons_zero, List.set_cons_zero, List.set_cons_succ, List.eraseIdx_cons_zero, List.eraseIdx_cons_succ, List.setIfInBounds_toArray] at hB; have HS6 := Aside0.mk hB; clear hB hu hF hs hc; clear g00_ g01_ g02_ g03_; obtain ⟨g00_, g01_, g02_, g03_⟩ := four (HS6.out.get 0 rfl))
    | fail)
  go_upto_region 13 with (first
    | (go_at_call 19; refine (c_heldMem (MemO_R (HS6.out.get 1 rfl)) (by omega) (by have := htot; omega)).mono ?_; rintro e w7 ⟨rfl, hb⟩; have HS7 := Aside0.mk (HS6.out.below hb); clear hb; clear g00_ g01_ g02_ g03_)
    | fail)
  go_upto_region 14 with (first
    | (go_at_call 16; refine (c_implMemNew n _).mono ?_; rintro e w8 ⟨u8, F8, rfl, hn⟩; have HS8 := Aside0.mk (HS7.out.new hn); clear hn; obtain ⟨A8, p8, B8, q8, C8, r8, rfl⟩ := me_form HS8.out)
    | fail)
  have hB := HS8.out.alloc (g := w8.heap.size) rfl #[.slice A8 (newV n).secs.length p8, .slice B8 (newV n).cache.length q8, .bool (newV n).failed, .slice C8 (newV n).bad.length r8] 26
  generalize hgg : w8.heap.size = g9 at *
  generalize hww : w8.alloc (.cells #[.slice A8 (newV n).secs.length p8, .slice B8 (newV n).cache.length q8, .bool (newV n).failed, .slice C8 (newV n).bad.length r8] 26 (0, 0)) = w9 at *
  have HS9 := Aside0.mk hB
  clear hB hgg hww
  obtain ⟨h00_, h01_, h02_, h03_⟩ := four (HS9.out.get 0 rfl); obtain ⟨w00_, w01_, w02_, w03_⟩ := four (HS9.out.get 4 rfl)
  go_upto_region 17 with (first
    | (go_at_call 17; refine (c_eqMem (MemO_R (HS9.out.get 1 rfl)) (MemO_R (HS9.out.get 5 rfl))).mono ?_; rw [decide_eq_true rfl]; rintro e w10 ⟨rfl, hb⟩; have HS10 := Aside0.mk (HS9.out.below hb); clear hb; clear h00_ h01_ h02_ h03_ w00_ w01_ w02_ w03_; obtain ⟨g00_, g01_, g02_, g03_⟩ := four (HS10.out.get 2 rfl))
    | fail)
  go_wp2_with (first
    | (go_at_call 19; refine (c_heldMem (MemO_R (HS10.out.get 3 rfl)) (by omega) (by have := htot; omega)).mono ?_; rintro e w11 ⟨rfl, hb⟩; have HS11 := Aside0.mk (HS10.out.below hb); clear hb; clear g00_ g01_ g02_ g03_)
    | fail)
  go_ret
  exact ⟨rfl, HS11.out.toBelow⟩
end Go.Proofs.Ytbejlccfclkiiaa.LawMemNew
