/- An array in the laws: counted, compared, made. -/
import Derived.Test.YtggmifnblcjdfaaAMake
import Derived.Test.YtggmifnblcjdfaaAEnt
namespace Go.Proofs.Ytggmifnblcjdfaa.ALaw
open Go.RowKit Go.Proofs.Ytggmifnblcjdfaa.RJ Go.Proofs.Ytggmifnblcjdfaa.RP Go.Proofs.YtggmifnblcjdfaaW.PrintWords Go.Proofs.Ytggmifnblcjdfaa.Fp Go.Proofs.Ytggmifnblcjdfaa.FpStep Go.Proofs.Ytggmifnblcjdfaa.MInt Go.Proofs.Ytggmifnblcjdfaa.MKinds Go.Proofs.Ytggmifnblcjdfaa.MRead Go.Proofs.Ytggmifnblcjdfaa.MMake Go.Proofs.Ytggmifnblcjdfaa.MPut Go.Proofs.Ytggmifnblcjdfaa.MHeld Go.Proofs.Ytggmifnblcjdfaa.Sep Go.Proofs.Ytggmifnblcjdfaa.SepStep Go.Proofs.Ytggmifnblcjdfaa.AKinds Go.Proofs.Ytggmifnblcjdfaa.AMake Go.Proofs.Ytggmifnblcjdfaa.AEnt
set_option linter.unusedVariables false
set_option linter.unusedSimpArgs false
def szA (a : ArrV) : Nat := szMS a.mems + totW a.dirty
set_option maxHeartbeats 2000000 in
theorem c_szArr {w : World} {v : Value} {a : ArrV} {left : Int} (h : ArrR w v a) (h0 : 0 ≤ left) (h1 : left ≤ 9223372036854775807) :
    Calls Try.prog 11 #[v, .int .i64 left] w fun e w' => e = .returned (.int .i64 (sub0 left (szA a))) ∧ Below w.heap.size w w' := by
  obtain ⟨vm, vd, rfl, r1, r2⟩ := h
  have R1 := Aside0.mk r1
  have R2 := Aside0.mk r2
  clear r1 r2
  have H0 := Aside0.mk ((Sep.start w []).alloc (g := w.heap.size) rfl (arrC a vm vd) 27)
  obtain ⟨id, gn, gs, mems, lost, built, seq, tail, gen, dirty, fuse, down, broken⟩ := a
  simp only [arrC, szA] at *
  by_cases hx : left - (szMS mems : Int) < 0
  · go_enter Try.func11, Try.ntmps11
    go_wp2_with (first
      | (go_at_call 36; refine (c_szMemS (H0.out.rk R1.out) h0 h1).mono ?_; rw [sub0_neg hx]; rintro e w1 ⟨rfl, hb⟩; have HS1 := Aside0.mk (H0.out.below hb); clear hb)
      | fail)
    go_ret
    exact ⟨ret_int (by rw [sub0_neg]; omega), HS1.out.toBelow⟩
  · by_cases hy : left - (szMS mems : Int) - (totW dirty : Int) < 0
    · go_enter Try.func11, Try.ntmps11
      go_wp2_with (first
        | (go_at_call 37; refine (c_szEntS (HS1.out.rk R2.out) (by omega) (by omega)).mono ?_; rw [sub0_neg hy]; rintro e w2 ⟨rfl, hb⟩; have HS2 := Aside0.mk (HS1.out.below hb); clear hb)
        | (go_at_call 36; refine (c_szMemS (H0.out.rk R1.out) h0 h1).mono ?_; rw [sub0_pos (by omega)]; rintro e w1 ⟨rfl, hb⟩; have HS1 := Aside0.mk (H0.out.below hb); clear hb; obtain ⟨k0, k1, k2, k3, k4, k5, k6, k7, k8, k9, k10, k11, k12⟩ := thirteen (HS1.out.get 0 rfl))
        | fail)
      go_ret
      exact ⟨ret_int (by rw [sub0_neg]; omega), HS2.out.toBelow⟩
    · go_enter Try.func11, Try.ntmps11
      go_wp2_with (first
        | (go_at_call 37; refine (c_szEntS (HS1.out.rk R2.out) (by omega) (by omega)).mono ?_; rw [sub0_pos (by omega)]; rintro e w2 ⟨rfl, hb⟩; have HS2 := Aside0.mk (HS1.out.below hb); clear hb)
        | (go_at_call 36; refine (c_szMemS (H0.out.rk R1.out) h0 h1).mono ?_; rw [sub0_pos (by omega)]; rintro e w1 ⟨rfl, hb⟩; have HS1 := Aside0.mk (H0.out.below hb); clear hb; obtain ⟨k0, k1, k2, k3, k4, k5, k6, k7, k8, k9, k10, k11, k12⟩ := thirteen (HS1.out.get 0 rfl))
        | fail)
      go_ret
      exact ⟨ret_int (by rw [sub0_pos] <;> omega), HS2.out.toBelow⟩
set_option maxHeartbeats 2000000 in
theorem c_eqGeo {w : World} (n s : Int) :
    Calls Try.prog 42 #[.agg #[.int .i64 n, .int .i64 s], .agg #[.int .i64 n, .int .i64 s]] w fun e w' => e = .returned (.bool true) ∧ Below w.heap.size w w' := by
  go_enter Try.func42, Try.ntmps42
  go_wp2
  go_ret
  exact ⟨rfl, below_alloc (below_alloc (Below.refl _ _) _) _⟩
set_option maxHeartbeats 4000000 in
/-- .. of two that are the same. -/
theorem c_eqArr {w : World} {v u : Value} {a : ArrV} (h : ArrR w v a) (k : ArrR w u a) :
    Calls Try.prog 15 #[v, u] w fun e w' => e = .returned (.bool true) ∧ Below w.heap.size w w' := by
  obtain ⟨vm, vd, rfl, r1, r2⟩ := h
  obtain ⟨um, ud, rfl, q1, q2⟩ := k
  have R1 := Aside0.mk r1
  have R2 := Aside0.mk r2
  have Q1 := Aside0.mk q1
  have Q2 := Aside0.mk q2
  clear r1 r2 q1 q2
  have H0 := Aside0.mk (((Sep.start w []).alloc (g := w.heap.size) rfl (arrC a vm vd) 34).alloc (g := w.heap.size + 1) (by simp) (arrC a um ud) 34)
  obtain ⟨id, gn, gs, mems, lost, built, seq, tail, gen, dirty, fuse, down, broken⟩ := a
  simp only [arrC] at *
  go_enter Try.func15, Try.ntmps15
  go_wp2_with (first
    | (go_at_call 44; refine (c_eqEntS (HS2.out.rk R2.out) (HS2.out.rk Q2.out)).mono ?_; rw [decide_eq_true rfl]; rintro e w3 ⟨rfl, hb⟩; have HS3 := Aside0.mk (HS2.out.below hb); clear hb k0 k1 k2 k3 k4 k5 k6 k7 k8 k9 k10 k11 k12 l0 l1 l2 l3 l4 l5 l6 l7 l8 l9 l10 l11 l12; obtain ⟨k0, k1, k2, k3, k4, k5, k6, k7, k8, k9, k10, k11, k12⟩ := thirteen (HS3.out.get 0 rfl); obtain ⟨l0, l1, l2, l3, l4, l5, l6, l7, l8, l9, l10, l11, l12⟩ := thirteen (HS3.out.get 1 rfl))
    | (go_at_call 43; refine (c_eqMemS (HS1.out.rk R1.out) (HS1.out.rk Q1.out)).mono ?_; rw [decide_eq_true rfl]; rintro e w2 ⟨rfl, hb⟩; have HS2 := Aside0.mk (HS1.out.below hb); clear hb k0 k1 k2 k3 k4 k5 k6 k7 k8 k9 k10 k11 k12 l0 l1 l2 l3 l4 l5 l6 l7 l8 l9 l10 l11 l12; obtain ⟨k0, k1, k2, k3, k4, k5, k6, k7, k8, k9, k10, k11, k12⟩ := thirteen (HS2.out.get 0 rfl); obtain ⟨l0, l1, l2, l3, l4, l5, l6, l7, l8, l9, l10, l11, l12⟩ := thirteen (HS2.out.get 1 rfl))
    | (go_at_call 42; refine (c_eqGeo _ _).mono ?_; rintro e w1 ⟨rfl, hb⟩; have HS1 := Aside0.mk (H0.out.below hb); clear hb; obtain ⟨k0, k1, k2, k3, k4, k5, k6, k7, k8, k9, k10, k11, k12⟩ := thirteen (HS1.out.get 0 rfl); obtain ⟨l0, l1, l2, l3, l4, l5, l6, l7, l8, l9, l10, l11, l12⟩ := thirteen (HS1.out.get 1 rfl))
    | fail)
  go_ret
  exact ⟨rfl, HS3.out.toBelow⟩
theorem c_toGeo {w : World} (n s : Int) :
    Calls Try.prog 19 #[.agg #[.int .i64 n, .int .i64 s]] w fun e w' => e = .returned (.agg #[.int .i64 n, .int .i64 s]) ∧ Below w.heap.size w w' := by
  go_enter Try.func19, Try.ntmps19
  go_wp2
  have HE : Sep w [] _ _ := (((Sep.start w []).alloc (g := w.heap.size) rfl #[.int .i64 n, .int .i64 s] 23).alloc (g := w.heap.size + 1) (by simp) #[.int .i64 n, .int .i64 s] 30).alloc (g := w.heap.size + 1 + 1) (by simp) #[.int .i64 n, .int .i64 s] 30
  refine bodyPost_ret (results_cell_row rfl _ _ (w.heap.size + 1) 30 #[.int .i64 n, .int .i64 s] (0, 0) _ rfl (HE.get 1 rfl) Try.underlying30 rfl (by kernel_rfl)) rfl ?_
  exact ⟨rfl, HE.toBelow⟩
end Go.Proofs.Ytggmifnblcjdfaa.ALaw
