/- LiveAt, of both. -/
import Derived.Test.YtggmifnblcjdfaaAKinds
import Derived.Test.YtggmifnblcjdfaaMInt
namespace Go.Proofs.Ytggmifnblcjdfaa.ALive
open Go.RowKit Go.Proofs.YtggmifnblcjdfaaW.PrintWords Go.Proofs.Ytggmifnblcjdfaa.Fp Go.Proofs.Ytggmifnblcjdfaa.MInt Go.Proofs.Ytggmifnblcjdfaa.MKinds Go.Proofs.Ytggmifnblcjdfaa.MRead Go.Proofs.Ytggmifnblcjdfaa.MMake Go.Proofs.Ytggmifnblcjdfaa.MPut Go.Proofs.Ytggmifnblcjdfaa.MHeld Go.Proofs.Ytggmifnblcjdfaa.Sep Go.Proofs.Ytggmifnblcjdfaa.AKinds
set_option linter.unusedVariables false
set_option linter.unusedSimpArgs false
def noMem : MemV := ⟨[], [], false, []⟩
def liveB (a : ArrV) (m s : Int) : Bool := inR m 0 ((a.mems.length : Int) - 1) && (!(a.mems.getD m.toNat noMem).failed && (!(a.lost == m) || decide (s < a.built)))
set_option maxHeartbeats 4000000 in
theorem c_implLiveAt {w : World} {v : Value} {a : ArrV} {m s : Int} (h : ArrR w v a) :
    Calls Try.prog 14 #[v, .int .i64 m, .int .i64 s] w fun e w' => e = .returned (.bool (liveB a m s)) ∧ Below w.heap.size w w' := by
  obtain ⟨vm, vd, rfl, r1, r2⟩ := h
  obtain ⟨A1, c1, rfl, hl1, _⟩ := id r1
  have lm := RK_len r1
  have R1 := Aside0.mk r1
  clear r1 r2 hl1
  have H0 := Aside0.mk ((Sep.start w []).alloc (g := w.heap.size) rfl (arrC a (.slice A1 a.mems.length c1) vd) 34)
  obtain ⟨id, gn, gs, mems, lost, built, seq, tail, gen, dirty, fuse, down, broken⟩ := a
  simp only [arrC] at *
  by_cases hin : inR m 0 ((mems.length : Int) - 1) = true
  case neg =>
    simp only [Bool.not_eq_true] at hin
    have hv : liveB ⟨id, gn, gs, mems, lost, built, seq, tail, gen, dirty, fuse, down, broken⟩ m s = false := by unfold liveB; simp only; rw [hin]; rfl
    have HV := Aside0.mk hv
    clear hv
    go_enter Try.func14, Try.ntmps14
    go_wp2_with (first | (go_at_call 41; refine (c_within _ _ _ _).mono ?_; rw [hin]; rintro e w1 ⟨rfl, hb⟩; have HS1 := Aside0.mk (H0.out.dr hb); clear hb) | fail)
    go_ret
    exact ⟨ret_bool HV.out.symm, HS1.out.toBelow⟩
  have hm : 0 ≤ m ∧ m < (mems.length : Int) := by simp [inR] at hin; omega
  obtain ⟨q, rfl⟩ : ∃ q : Nat, m = (q : Int) := ⟨m.toNat, by omega⟩
  have hq : q < mems.length := by omega
  obtain ⟨x, hx⟩ : ∃ x, mems[q]? = some x := ⟨_, List.getElem?_eq_getElem hq⟩
  have hv : liveB ⟨id, gn, gs, mems, lost, built, seq, tail, gen, dirty, fuse, down, broken⟩ (q : Int) s = (!x.failed && (!(lost == (q : Int)) || decide (s < built))) := by
    unfold liveB
    simp only
    rw [hin]
    simp [hx]
  have HV := Aside0.mk hv
  obtain ⟨ad, cap, hA, hc⟩ := RK_mems R1.out (by omega)
  obtain rfl := (Value.slice.inj hA).1
  obtain ⟨B1, d1, B2, d2, B3, d3, x0, x1, x2, x3, hM⟩ := hc q x hx
  have X2 := Aside0.mk x2
  have q0 : (0 : Int) ≤ (q : Int) := by omega
  have ql : (q : Int) < (mems.length : Int) := by omega
  clear hv hA hc hM x0 x1 x2 x3 hx hm
  generalize x.failed = xf at *
  go_enter Try.func14, Try.ntmps14
  cases xf
  · by_cases hlq : lost = (q : Int)
    · subst hlq
      by_cases hsb : s < built
      · have hsb2 : decide (s < built) = true := by simpa using hsb
        go_wp2_with (first | (go_at_call 41; refine (c_within _ _ _ _).mono ?_; rw [hin]; rintro e w1 ⟨rfl, hb⟩; have HS1 := Aside0.mk (H0.out.dr hb); clear hb; have x2 := HS1.out.old X2.out; obtain ⟨k0, k1, k2, k3, k4, k5, k6, k7, k8, k9, k10, k11, k12⟩ := thirteen (HS1.out.get 0 rfl)) | fail)
        go_ret
        exact ⟨ret_bool (by rw [HV.out]; simp [hsb]), HS1.out.toBelow⟩
      · have hsb2 : decide (s < built) = false := by simpa using hsb
        go_wp2_with (first | (go_at_call 41; refine (c_within _ _ _ _).mono ?_; rw [hin]; rintro e w1 ⟨rfl, hb⟩; have HS1 := Aside0.mk (H0.out.dr hb); clear hb; have x2 := HS1.out.old X2.out; obtain ⟨k0, k1, k2, k3, k4, k5, k6, k7, k8, k9, k10, k11, k12⟩ := thirteen (HS1.out.get 0 rfl)) | fail)
        go_ret
        exact ⟨ret_bool (by rw [HV.out]; simp [hsb]), HS1.out.toBelow⟩
    · have hql : ¬ (q : Int) = lost := fun e => hlq e.symm
      go_wp2_with (first | (go_at_call 41; refine (c_within _ _ _ _).mono ?_; rw [hin]; rintro e w1 ⟨rfl, hb⟩; have HS1 := Aside0.mk (H0.out.dr hb); clear hb; have x2 := HS1.out.old X2.out; obtain ⟨k0, k1, k2, k3, k4, k5, k6, k7, k8, k9, k10, k11, k12⟩ := thirteen (HS1.out.get 0 rfl)) | fail)
      go_ret
      exact ⟨ret_bool (by rw [HV.out]; simp [hlq]), HS1.out.toBelow⟩
  · go_wp2_with (first | (go_at_call 41; refine (c_within _ _ _ _).mono ?_; rw [hin]; rintro e w1 ⟨rfl, hb⟩; have HS1 := Aside0.mk (H0.out.dr hb); clear hb; have x2 := HS1.out.old X2.out; obtain ⟨k0, k1, k2, k3, k4, k5, k6, k7, k8, k9, k10, k11, k12⟩ := thirteen (HS1.out.get 0 rfl)) | fail)
    go_ret
    exact ⟨ret_bool (by rw [HV.out]; rfl), HS1.out.toBelow⟩
set_option maxHeartbeats 4000000 in
theorem c_specLiveAt {w : World} {v : Value} {a : ArrV} {m s : Int} (h : ArrR w v a) :
    Calls Try.prog 12 #[v, .int .i64 m, .int .i64 s] w fun e w' => e = .returned (.bool (liveB a m s)) ∧ Below w.heap.size w w' := by
  obtain ⟨vm, vd, rfl, r1, r2⟩ := h
  obtain ⟨A1, c1, rfl, hl1, _⟩ := id r1
  have lm := RK_len r1
  have R1 := Aside0.mk r1
  clear r1 r2 hl1
  have H0 := Aside0.mk ((Sep.start w []).alloc (g := w.heap.size) rfl (arrC a (.slice A1 a.mems.length c1) vd) 34)
  obtain ⟨id, gn, gs, mems, lost, built, seq, tail, gen, dirty, fuse, down, broken⟩ := a
  simp only [arrC] at *
  by_cases hin : inR m 0 ((mems.length : Int) - 1) = true
  case neg =>
    simp only [Bool.not_eq_true] at hin
    have hv : liveB ⟨id, gn, gs, mems, lost, built, seq, tail, gen, dirty, fuse, down, broken⟩ m s = false := by unfold liveB; simp only; rw [hin]; rfl
    have HV := Aside0.mk hv
    clear hv
    go_enter Try.func12, Try.ntmps12
    go_wp2_with (first | (go_at_call 38; refine (c_l1In _ _ _ _).mono ?_; rw [hin]; rintro e w1 ⟨rfl, hb⟩; have HS1 := Aside0.mk (H0.out.dr hb); clear hb) | fail)
    go_ret
    exact ⟨ret_bool HV.out.symm, HS1.out.toBelow⟩
  have hm : 0 ≤ m ∧ m < (mems.length : Int) := by simp [inR] at hin; omega
  obtain ⟨q, rfl⟩ : ∃ q : Nat, m = (q : Int) := ⟨m.toNat, by omega⟩
  have hq : q < mems.length := by omega
  obtain ⟨x, hx⟩ : ∃ x, mems[q]? = some x := ⟨_, List.getElem?_eq_getElem hq⟩
  have hv : liveB ⟨id, gn, gs, mems, lost, built, seq, tail, gen, dirty, fuse, down, broken⟩ (q : Int) s = (!x.failed && (!(lost == (q : Int)) || decide (s < built))) := by
    unfold liveB
    simp only
    rw [hin]
    simp [hx]
  have HV := Aside0.mk hv
  obtain ⟨ad, cap, hA, hc⟩ := RK_mems R1.out (by omega)
  obtain rfl := (Value.slice.inj hA).1
  obtain ⟨B1, d1, B2, d2, B3, d3, x0, x1, x2, x3, hM⟩ := hc q x hx
  have X2 := Aside0.mk x2
  have q0 : (0 : Int) ≤ (q : Int) := by omega
  have ql : (q : Int) < (mems.length : Int) := by omega
  clear hv hA hc hM x0 x1 x2 x3 hx hm
  generalize x.failed = xf at *
  go_enter Try.func12, Try.ntmps12
  cases xf
  · by_cases hlq : lost = (q : Int)
    · subst hlq
      by_cases hsb : s < built
      · have hsb2 : decide (s < built) = true := by simpa using hsb
        go_wp2_with (first | (go_at_call 38; refine (c_l1In _ _ _ _).mono ?_; rw [hin]; rintro e w1 ⟨rfl, hb⟩; have HS1 := Aside0.mk (H0.out.dr hb); clear hb; have x2 := HS1.out.old X2.out; obtain ⟨k0, k1, k2, k3, k4, k5, k6, k7, k8, k9, k10, k11, k12⟩ := thirteen (HS1.out.get 0 rfl)) | fail)
        go_ret
        exact ⟨ret_bool (by rw [HV.out]; simp [hsb]), HS1.out.toBelow⟩
      · have hsb2 : decide (s < built) = false := by simpa using hsb
        go_wp2_with (first | (go_at_call 38; refine (c_l1In _ _ _ _).mono ?_; rw [hin]; rintro e w1 ⟨rfl, hb⟩; have HS1 := Aside0.mk (H0.out.dr hb); clear hb; have x2 := HS1.out.old X2.out; obtain ⟨k0, k1, k2, k3, k4, k5, k6, k7, k8, k9, k10, k11, k12⟩ := thirteen (HS1.out.get 0 rfl)) | fail)
        go_ret
        exact ⟨ret_bool (by rw [HV.out]; simp [hsb]), HS1.out.toBelow⟩
    · have hql : ¬ (q : Int) = lost := fun e => hlq e.symm
      go_wp2_with (first | (go_at_call 38; refine (c_l1In _ _ _ _).mono ?_; rw [hin]; rintro e w1 ⟨rfl, hb⟩; have HS1 := Aside0.mk (H0.out.dr hb); clear hb; have x2 := HS1.out.old X2.out; obtain ⟨k0, k1, k2, k3, k4, k5, k6, k7, k8, k9, k10, k11, k12⟩ := thirteen (HS1.out.get 0 rfl)) | fail)
      go_ret
      exact ⟨ret_bool (by rw [HV.out]; simp [hlq]), HS1.out.toBelow⟩
  · go_wp2_with (first | (go_at_call 38; refine (c_l1In _ _ _ _).mono ?_; rw [hin]; rintro e w1 ⟨rfl, hb⟩; have HS1 := Aside0.mk (H0.out.dr hb); clear hb; have x2 := HS1.out.old X2.out; obtain ⟨k0, k1, k2, k3, k4, k5, k6, k7, k8, k9, k10, k11, k12⟩ := thirteen (HS1.out.get 0 rfl)) | fail)
    go_ret
    exact ⟨ret_bool (by rw [HV.out]; rfl), HS1.out.toBelow⟩
end Go.Proofs.Ytggmifnblcjdfaa.ALive
