/- The law FnExactMemOk: it returns true. -/
import Derived.Test.YtmhhehklcfkapabMPut
import Derived.Test.YtmhhehklcfkapabMHeld
import Derived.Test.YtmhhehklcfkapabMOk
import Derived.Deep.RegionHeld3
namespace Go.Proofs.Ytmhhehklcfkapab.LawMemOk
open Go.RowKit Go.Proofs.YtmhhehklcfkapabW.PrintWords Go.Proofs.Ytmhhehklcfkapab.Fp Go.Proofs.Ytmhhehklcfkapab.MInt Go.Proofs.Ytmhhehklcfkapab.MKinds Go.Proofs.Ytmhhehklcfkapab.MRead Go.Proofs.Ytmhhehklcfkapab.MMake Go.Proofs.Ytmhhehklcfkapab.MPut Go.Proofs.Ytmhhehklcfkapab.MHeld Go.Proofs.Ytmhhehklcfkapab.MOk
set_option linter.unusedVariables false
set_option linter.unusedSimpArgs false
theorem tot_mem {l : List (List Int)} {x : List Int} (h : x ∈ l) : x.length ≤ tot l := by
  induction l with
  | nil => cases h
  | cons y l ih =>
    simp only [tot]
    rcases List.mem_cons.1 h with rfl | h
    · omega
    · have := ih h; omega
theorem totW_mem {l : List (Int × List Int)} {x : Int × List Int} (h : x ∈ l) : x.2.length ≤ totW l := by
  induction l with
  | nil => cases h
  | cons y l ih =>
    simp only [totW]
    rcases List.mem_cons.1 h with rfl | h
    · omega
    · have := ih h; omega
theorem MemO_form {w : World} {F : List Nat} {v : Value} {m : MemV} (h : MemO w F v m) : ∃ A1 q1 A2 q2 A3 q3, v = .agg #[.slice A1 m.secs.length q1, .slice A2 m.cache.length q2, .bool m.failed, .slice A3 m.bad.length q3] := by
  obtain ⟨s, c, b, F1, F2, F3, rfl, rfl, h1, h2, h3⟩ := h
  obtain ⟨A1, q1, rfl, _⟩ := O_RK h1
  obtain ⟨A2, q2, rfl, _⟩ := O_RK h2
  obtain ⟨A3, q3, rfl, _⟩ := O_RK h3
  exact ⟨A1, q1, A2, q2, A3, q3, rfl⟩
theorem small_of (m : MemV) (h : (szM m : Int) ≤ 1048576) : Small m := by
  have h1 := totW_sum m.cache
  unfold szM szSS at h
  exact ⟨by omega, fun x hx => by have := tot_mem hx; omega, by omega, fun x hx => by have := totW_mem hx; omega, by omega⟩
set_option maxHeartbeats 2000000 in
theorem law_MemOk {w : World} {v : Value} {m : MemV} (h : MemR w v m) : Calls Try.prog 12 #[v] w fun e w' => e = .returned (.bool true) ∧ Below w.heap.size w w' := by
  have H := Aside0.mk h
  obtain ⟨s, c, b, rfl, r1, r2, r3⟩ := h
  clear r1 r2 r3
  by_cases hz : (1048576 : Int) - (szM m : Int) < 0
  · go_enter Try.func12, Try.ntmps12
    go_wp2_with (first
      | (go_at_call 83; refine (c_szMem (MemR_below H.out (below_alloc (Below.refl _ _) _)) (by omega) (by omega)).mono ?_; rw [sub0_neg (by omega)]; rintro e w1 ⟨rfl, hb⟩; obtain ⟨g1, hb1⟩ := box1 hb; have HB := Aside0.mk hb1; clear hb hb1 g1)
      | fail)
    go_ret
    exact ⟨rfl, HB.out⟩
  · have hsm : Small m := small_of m (by omega)
    have HS := Aside0.mk hsm
    clear hsm
    go_enter Try.func12, Try.ntmps12
    go_wp2_with (first
      | (go_at_call 83; refine (c_szMem (MemR_below H.out (below_alloc (Below.refl _ _) _)) (by omega) (by omega)).mono ?_; rw [sub0_pos (by omega)]; rintro e w1 ⟨rfl, hb⟩; obtain ⟨g1, hb1⟩ := box1 hb; have HB := Aside0.mk hb1; have G := Aside0.mk g1; clear hb hb1 g1; obtain ⟨k1, k2, k3, k4⟩ := four G.out)
      | (go_at_call 85; refine (c_toMem (MemR_below H.out HB3.out) HS.out).mono ?_; rintro e w4 ⟨u, F, rfl, hu, hF, hb⟩; have HB4 := Aside0.mk (below_next HB3.out hb); have G4 := Aside0.mk (blk_below G3.out hb); obtain ⟨A1, q1, A2, q2, A3, q3, rfl⟩ := MemO_form hu; have HU4 := Aside0.mk hu; clear hu hF hb k1 k2 k3 k4; obtain ⟨k1, k2, k3, k4⟩ := four G4.out)
      | (go_at_call 85; refine (c_toMem (MemR_below H.out HB.out) HS.out).mono ?_; rintro e w2 ⟨u, F, rfl, hu, hF, hb⟩; have HB2 := Aside0.mk (below_next HB.out hb); have G2 := Aside0.mk (blk_below G.out hb); have HU := Aside0.mk hu; clear hu hF hb k1 k2 k3 k4; obtain ⟨k1, k2, k3, k4⟩ := four G2.out)
      | (go_at_call 84; refine (c_specMemOk (MemO_R HU.out)).mono ?_; rintro e w3 ⟨rfl, hb⟩; have HB3 := Aside0.mk (below_next HB2.out hb); have G3 := Aside0.mk (blk_below G2.out hb); clear hb k1 k2 k3 k4; obtain ⟨k1, k2, k3, k4⟩ := four G3.out)
      | (go_at_call 86; refine (c_implMemOk (MemR_below (MemO_R HU4.out) (below_alloc (Below.refl _ _) _))).mono ?_; rintro e w5 ⟨rfl, hb⟩; obtain ⟨gx, hb1⟩ := box1 hb; have GX := Aside0.mk gx; have HB5 := Aside0.mk (below_next HB4.out hb1); have G5 := Aside0.mk (blk_below G4.out hb1); have HU5 := Aside0.mk (MemO_below HU4.out hb1); clear hb hb1 gx k1 k2 k3 k4; obtain ⟨k1, k2, k3, k4⟩ := four G5.out; obtain ⟨x1, x2, x3, x4⟩ := four GX.out)
      | fail)
    go_region_held3 (fun w' => w'.cell? ⟨w4.heap.size, 0, none⟩ = some (.slice A1 m.secs.length q1) ∧ w'.cell? ⟨w4.heap.size, 1, none⟩ = some (.slice A2 m.cache.length q2) ∧ w'.cell? ⟨w4.heap.size, 2, none⟩ = some (.bool m.failed) ∧ w'.cell? ⟨w4.heap.size, 3, none⟩ = some (.slice A3 m.bad.length q3) ∧ w'.cell? ⟨w.heap.size, 0, none⟩ = some s ∧ w'.cell? ⟨w.heap.size, 1, none⟩ = some c ∧ w'.cell? ⟨w.heap.size, 2, none⟩ = some (.bool m.failed) ∧ w'.cell? ⟨w.heap.size, 3, none⟩ = some b)
      (first
        | go_keep
        | exact ⟨(hb6.cell (lt_of_cell x1)).trans x1, (hb6.cell (lt_of_cell x2)).trans x2, (hb6.cell (lt_of_cell x3)).trans x3, (hb6.cell (lt_of_cell x4)).trans x4, (hb6.cell (lt_of_cell k1)).trans k1, (hb6.cell (lt_of_cell k2)).trans k2, (hb6.cell (lt_of_cell k3)).trans k3, (hb6.cell (lt_of_cell k4)).trans k4⟩
        | exact ⟨(hb67.cell (lt_of_cell x1)).trans x1, (hb67.cell (lt_of_cell x2)).trans x2, (hb67.cell (lt_of_cell x3)).trans x3, (hb67.cell (lt_of_cell x4)).trans x4, (hb67.cell (lt_of_cell k1)).trans k1, (hb67.cell (lt_of_cell k2)).trans k2, (hb67.cell (lt_of_cell k3)).trans k3, (hb67.cell (lt_of_cell k4)).trans k4⟩)
      (first
        | (go_at_call 85; refine (c_toMem (MemR_below H.out (below_drew HB5.out)) HS.out).mono ?_; rintro e w6 ⟨u6, F6, rfl, hu6, hF6, hb6_⟩; have hb6 : Below w5.heap.size w5 w6 := (below_drew (Below.refl _ _)).trans hb6_)
        | (go_at_call 87; refine (c_eqMem (MemR_below (MemO_R HU5.out) hb6) (MemO_R hu6)).mono ?_; rw [decide_eq_true rfl]; rintro e w7 ⟨rfl, hb7⟩; have hb67 := hb6.trans (hb7.mono hb6.size))
        | fail)
    go_wp2
    go_ret
    exact ⟨rfl, HB5.out.trans (hb67.mono HB5.out.size)⟩
end Go.Proofs.Ytmhhehklcfkapab.LawMemOk
