/- Own text: ALive AXor AGeo MRec AStrV. -/
import Derived.Test.YtggmifnblcjdfaaGreatXB3
import Derived.Test.YtggmifnblcjdfaaGreatXB2
import Derived.Test.YtggmifnblcjdfaaGreatXAOkI
import Derived.Test.YtggmifnblcjdfaaGreatXB5
import Derived.Deep.DrawnRows
import Derived.Test.YtggmifnblcjdfaaGreatXABun4
set_option linter.unusedVariables false
set_option linter.unusedSimpArgs false
namespace Go.Proofs.YtggmifnblcjdfaaGreat
namespace ALive
open Go.RowKit Go.Proofs.YtggmifnblcjdfaaGreatW.PrintWords Fp MInt MKinds MRead MMake MPut MHeld Go.Proofs.YtggmifnblcjdfaaGreat.Sep AKinds
def noMem : MemV := ⟨[], [], false, []⟩
def liveB (a : ArrV) (m s : Int) : Bool := inR m 0 ((a.mems.length : Int) - 1) && (!(a.mems.getD m.toNat noMem).failed && (!(a.lost == m) || decide (s < a.built)))
set_option maxHeartbeats 4000000 in
theorem c_implLiveAt {w : World} {v : Value} {a : ArrV} {m s : Int} (h : ArrR w v a) :
  Calls Tryz.prog 134 #[v, .int .i64 m, .int .i64 s] w fun e w' => e = .returned (.bool (liveB a m s)) ∧ Below w.heap.size w w' := by
 obtain ⟨vm, vd, rfl, r1, r2⟩ := h
 obtain ⟨A1, c1, rfl, hl1, _⟩ := id r1
 have lm := RK_len r1
 have R1 := Aside0.mk r1
 clear r1 r2 hl1
 have H0 := Aside0.mk ((Sep.start w []).alloc (g := w.heap.size) rfl (arrC a (.slice A1 a.mems.length c1) vd) 34)
 obtain ⟨id, gn, gs, mems, lost, built, seq, tail, gen, dirty, fuse, down, broken⟩ := a
 simp only [arrC] at *
 by_cases hin : inR m 0 ((mems.length : Int) - 1) = true
 case neg =>
  simp only [Bool.not_eq_true] at hin
  have hv : liveB ⟨id, gn, gs, mems, lost, built, seq, tail, gen, dirty, fuse, down, broken⟩ m s = false := by unfold liveB; simp only; rw [hin]; rfl
  have HV := Aside0.mk hv
  clear hv
  go_enter Tryz.func134, Tryz.ntmps134
  go_wp2_with (first | (go_at_call 78; refine (c_within _ _ _ _).mono ?_; rw [hin]; rintro e w1 ⟨rfl, hb⟩; have HS1 := Aside0.mk (H0.out.dr hb); clear hb) | fail)
  go_ret
  exact ⟨ret_bool HV.out.symm, HS1.out.toBelow⟩
 have hm : 0 ≤ m ∧ m < (mems.length : Int) := by simp [inR] at hin; omega
 obtain ⟨q, rfl⟩ : ∃ q : Nat, m = (q : Int) := ⟨m.toNat, by omega⟩
 have hq : q < mems.length := by omega
 obtain ⟨x, hx⟩ : ∃ x, mems[q]? = some x := ⟨_, List.getElem?_eq_getElem hq⟩
 have hv : liveB ⟨id, gn, gs, mems, lost, built, seq, tail, gen, dirty, fuse, down, broken⟩ (q : Int) s = (!x.failed && (!(lost == (q : Int)) || decide (s < built))) := by
  unfold liveB
  simp only
  rw [hin]
  simp [hx]
 have HV := Aside0.mk hv
 obtain ⟨ad, cap, hA, hc⟩ := RK_mems R1.out (by omega)
 obtain rfl := (Value.slice.inj hA).1
 obtain ⟨B1, d1, B2, d2, B3, d3, x0, x1, x2, x3, hM⟩ := hc q x hx
 have X2 := Aside0.mk x2
 have q0 : (0 : Int) ≤ (q : Int) := by omega
 have ql : (q : Int) < (mems.length : Int) := by omega
 clear hv hA hc hM x0 x1 x2 x3 hx hm
 generalize x.failed = xf at *
 go_enter Tryz.func134, Tryz.ntmps134
 cases xf
 ·by_cases hlq : lost = (q : Int)
  ·subst hlq
   by_cases hsb : s < built
   ·have hsb2 : decide (s < built) = true := by simpa using hsb
    go_wp2_with (first | (go_at_call 78; refine (c_within _ _ _ _).mono ?_; rw [hin]; rintro e w1 ⟨rfl, hb⟩; have HS1 := Aside0.mk (H0.out.dr hb); clear hb; have x2 := HS1.out.old X2.out; obtain ⟨k0, k1, k2, k3, k4, k5, k6, k7, k8, k9, k10, k11, k12⟩ := thirteen (HS1.out.get 0 rfl)) | fail)
    go_ret
    exact ⟨ret_bool (by rw [HV.out]; simp [hsb]), HS1.out.toBelow⟩
   ·have hsb2 : decide (s < built) = false := by simpa using hsb
    go_wp2_with (first | (go_at_call 78; refine (c_within _ _ _ _).mono ?_; rw [hin]; rintro e w1 ⟨rfl, hb⟩; have HS1 := Aside0.mk (H0.out.dr hb); clear hb; have x2 := HS1.out.old X2.out; obtain ⟨k0, k1, k2, k3, k4, k5, k6, k7, k8, k9, k10, k11, k12⟩ := thirteen (HS1.out.get 0 rfl)) | fail)
    go_ret
    exact ⟨ret_bool (by rw [HV.out]; simp [hsb]), HS1.out.toBelow⟩
  ·have hql : ¬ (q : Int) = lost := fun e => hlq e.symm
   go_wp2_with (first | (go_at_call 78; refine (c_within _ _ _ _).mono ?_; rw [hin]; rintro e w1 ⟨rfl, hb⟩; have HS1 := Aside0.mk (H0.out.dr hb); clear hb; have x2 := HS1.out.old X2.out; obtain ⟨k0, k1, k2, k3, k4, k5, k6, k7, k8, k9, k10, k11, k12⟩ := thirteen (HS1.out.get 0 rfl)) | fail)
   go_ret
   exact ⟨ret_bool (by rw [HV.out]; simp [hlq]), HS1.out.toBelow⟩
 ·go_wp2_with (first | (go_at_call 78; refine (c_within _ _ _ _).mono ?_; rw [hin]; rintro e w1 ⟨rfl, hb⟩; have HS1 := Aside0.mk (H0.out.dr hb); clear hb; have x2 := HS1.out.old X2.out; obtain ⟨k0, k1, k2, k3, k4, k5, k6, k7, k8, k9, k10, k11, k12⟩ := thirteen (HS1.out.get 0 rfl)) | fail)
  go_ret
  exact ⟨ret_bool (by rw [HV.out]; rfl), HS1.out.toBelow⟩
set_option maxHeartbeats 4000000 in
theorem c_specLiveAt {w : World} {v : Value} {a : ArrV} {m s : Int} (h : ArrR w v a) :
  Calls Tryz.prog 122 #[v, .int .i64 m, .int .i64 s] w fun e w' => e = .returned (.bool (liveB a m s)) ∧ Below w.heap.size w w' := by
 obtain ⟨vm, vd, rfl, r1, r2⟩ := h
 obtain ⟨A1, c1, rfl, hl1, _⟩ := id r1
 have lm := RK_len r1
 have R1 := Aside0.mk r1
 clear r1 r2 hl1
 have H0 := Aside0.mk ((Sep.start w []).alloc (g := w.heap.size) rfl (arrC a (.slice A1 a.mems.length c1) vd) 34)
 obtain ⟨id, gn, gs, mems, lost, built, seq, tail, gen, dirty, fuse, down, broken⟩ := a
 simp only [arrC] at *
 by_cases hin : inR m 0 ((mems.length : Int) - 1) = true
 case neg =>
  simp only [Bool.not_eq_true] at hin
  have hv : liveB ⟨id, gn, gs, mems, lost, built, seq, tail, gen, dirty, fuse, down, broken⟩ m s = false := by unfold liveB; simp only; rw [hin]; rfl
  have HV := Aside0.mk hv
  clear hv
  go_enter Tryz.func122, Tryz.ntmps122
  go_wp2_with (first | (go_at_call 70; refine (c_l1In _ _ _ _).mono ?_; rw [hin]; rintro e w1 ⟨rfl, hb⟩; have HS1 := Aside0.mk (H0.out.dr hb); clear hb) | fail)
  go_ret
  exact ⟨ret_bool HV.out.symm, HS1.out.toBelow⟩
 have hm : 0 ≤ m ∧ m < (mems.length : Int) := by simp [inR] at hin; omega
 obtain ⟨q, rfl⟩ : ∃ q : Nat, m = (q : Int) := ⟨m.toNat, by omega⟩
 have hq : q < mems.length := by omega
 obtain ⟨x, hx⟩ : ∃ x, mems[q]? = some x := ⟨_, List.getElem?_eq_getElem hq⟩
 have hv : liveB ⟨id, gn, gs, mems, lost, built, seq, tail, gen, dirty, fuse, down, broken⟩ (q : Int) s = (!x.failed && (!(lost == (q : Int)) || decide (s < built))) := by
  unfold liveB
  simp only
  rw [hin]
  simp [hx]
 have HV := Aside0.mk hv
 obtain ⟨ad, cap, hA, hc⟩ := RK_mems R1.out (by omega)
 obtain rfl := (Value.slice.inj hA).1
 obtain ⟨B1, d1, B2, d2, B3, d3, x0, x1, x2, x3, hM⟩ := hc q x hx
 have X2 := Aside0.mk x2
 have q0 : (0 : Int) ≤ (q : Int) := by omega
 have ql : (q : Int) < (mems.length : Int) := by omega
 clear hv hA hc hM x0 x1 x2 x3 hx hm
 generalize x.failed = xf at *
 go_enter Tryz.func122, Tryz.ntmps122
 cases xf
 ·by_cases hlq : lost = (q : Int)
  ·subst hlq
   by_cases hsb : s < built
   ·have hsb2 : decide (s < built) = true := by simpa using hsb
    go_wp2_with (first | (go_at_call 70; refine (c_l1In _ _ _ _).mono ?_; rw [hin]; rintro e w1 ⟨rfl, hb⟩; have HS1 := Aside0.mk (H0.out.dr hb); clear hb; have x2 := HS1.out.old X2.out; obtain ⟨k0, k1, k2, k3, k4, k5, k6, k7, k8, k9, k10, k11, k12⟩ := thirteen (HS1.out.get 0 rfl)) | fail)
    go_ret
    exact ⟨ret_bool (by rw [HV.out]; simp [hsb]), HS1.out.toBelow⟩
   ·have hsb2 : decide (s < built) = false := by simpa using hsb
    go_wp2_with (first | (go_at_call 70; refine (c_l1In _ _ _ _).mono ?_; rw [hin]; rintro e w1 ⟨rfl, hb⟩; have HS1 := Aside0.mk (H0.out.dr hb); clear hb; have x2 := HS1.out.old X2.out; obtain ⟨k0, k1, k2, k3, k4, k5, k6, k7, k8, k9, k10, k11, k12⟩ := thirteen (HS1.out.get 0 rfl)) | fail)
    go_ret
    exact ⟨ret_bool (by rw [HV.out]; simp [hsb]), HS1.out.toBelow⟩
  ·have hql : ¬ (q : Int) = lost := fun e => hlq e.symm
   go_wp2_with (first | (go_at_call 70; refine (c_l1In _ _ _ _).mono ?_; rw [hin]; rintro e w1 ⟨rfl, hb⟩; have HS1 := Aside0.mk (H0.out.dr hb); clear hb; have x2 := HS1.out.old X2.out; obtain ⟨k0, k1, k2, k3, k4, k5, k6, k7, k8, k9, k10, k11, k12⟩ := thirteen (HS1.out.get 0 rfl)) | fail)
   go_ret
   exact ⟨ret_bool (by rw [HV.out]; simp [hlq]), HS1.out.toBelow⟩
 ·go_wp2_with (first | (go_at_call 70; refine (c_l1In _ _ _ _).mono ?_; rw [hin]; rintro e w1 ⟨rfl, hb⟩; have HS1 := Aside0.mk (H0.out.dr hb); clear hb; have x2 := HS1.out.old X2.out; obtain ⟨k0, k1, k2, k3, k4, k5, k6, k7, k8, k9, k10, k11, k12⟩ := thirteen (HS1.out.get 0 rfl)) | fail)
  go_ret
  exact ⟨ret_bool (by rw [HV.out]; rfl), HS1.out.toBelow⟩
end ALive
namespace AXor
open Go.RowKit Go.Proofs.YtggmifnblcjdfaaGreatW.PrintWords Fp MInt MKinds MRead MMake MPut MHeld Go.Proofs.YtggmifnblcjdfaaGreat.Sep AKinds
def xorL (a : Int) (l : List Int) : Int := l.foldl (fun x n => Go.bits .xor .i64 x n) a
def skipL : Int → List Int → Nat → Int → Int
 | a, [], _, _ => a
 | a, n :: l, i, k => if (i : Int) = k then skipL a l (i + 1) k else skipL (Go.bits .xor .i64 a n) l (i + 1) k
theorem xorL_append (a : Int) (l m : List Int) : xorL a (l ++ m) = xorL (xorL a l) m := by simp [xorL]
theorem skipL_snoc : ∀ (l : List Int) (a : Int) (i : Nat) (k x : Int), skipL a (l ++ [x]) i k = if ((i + l.length : Nat) : Int) = k then skipL a l i k else Go.bits .xor .i64 (skipL a l i k) x
 | [], a, i, k, x => by simp [skipL]
 | n :: l, a, i, k, x => by
  rw [List.cons_append, skipL, skipL]
  split
  ·rw [skipL_snoc l a (i + 1) k x, List.length_cons, show i + 1 + l.length = i + (l.length + 1) by omega]
  ·rw [skipL_snoc l _ (i + 1) k x, List.length_cons, show i + 1 + l.length = i + (l.length + 1) by omega]
def missV (l : List Int) (k : Int) : Int := skipL 0 l 0 k
def dataV (n : Int) : Int := if inR n 0 1099511627776 then n + 6 else -1
theorem snoc_take {l : List Int} {i : Nat} {x : Int} (h : l[i]? = some x) : l.take (i + 1) = l.take i ++ [x] := by
 obtain ⟨h4, h5⟩ := List.getElem?_eq_some_iff.1 h
 rw [List.take_succ_eq_append_getElem h4, h5]
set_option maxHeartbeats 1000000 in
set_option maxRecDepth 100000 in
theorem c_implXorOf {w : World} {v : Value} {xs : List Int} (h : RK kInt w v xs) :
  Calls Tryz.prog 157 #[v] w fun e w' => e = .returned (.int .i64 (xorL 0 xs)) ∧ ∃ n, w' = w.drewN n := by
 have lx := RK_len h
 by_cases hn : 0 < xs.length
 ·obtain ⟨ad, cap, rfl, hc⟩ := ints_at h hn
  have Hc := Aside0.mk hc
  clear h hc
  go_enter Tryz.func157, Tryz.ntmps157
  go_wp2
  go_loopw [3, 8] (fun va vi wr => ∃ i : Nat, i ≤ xs.length ∧ vi = .int .i64 i ∧ va = .int .i64 (xorL 0 (xs.take i)) ∧ wr = w) (fun _ vi _ => xs.length - (intOf vi).toNat)
  case atStart => exact ⟨0, by omega, rfl, rfl, rfl⟩
  case round =>
   obtain ⟨i, hi, rfl, rfl, rfl⟩ := hrel
   by_cases hlt : i < xs.length
   ·obtain ⟨x, hxi⟩ : ∃ x, xs[i]? = some x := ⟨_, List.getElem?_eq_getElem hlt⟩
    have ca := Hc.out i x hxi
    have Hs := Aside0.mk (snoc_take hxi)
    clear hxi
    go_wp2
    go_roundw
    case rel => exact ⟨i + 1, by omega, by go_num, by rw [Hs.out, xorL_append]; rfl, by first | rfl | trivial⟩
    case measure => simp [intOf]; omega
   ·obtain rfl : i = xs.length := by omega
    rw [List.take_length]
    go_wp2
    go_ret
    first | exact ⟨rfl, 0, rfl⟩ | exact ⟨0, rfl⟩
 ·have h2 : xs = [] := List.eq_nil_of_length_eq_zero (by omega)
  subst h2
  obtain ⟨A, ca, rfl, _, _⟩ := h
  go_enter Tryz.func157, Tryz.ntmps157
  go_wp2
  refine wp_loop_rounds 1 ?_
  rw [rounds_succ]
  go_wp2
  go_ret
  first | exact ⟨rfl, 0, rfl⟩ | exact ⟨0, rfl⟩
set_option maxHeartbeats 1000000 in
set_option maxRecDepth 100000 in
theorem c_specXorOf {w : World} {v : Value} {xs : List Int} (h : RK kInt w v xs) :
  Calls Tryz.prog 154 #[v] w fun e w' => e = .returned (.int .i64 (xorL 0 xs)) ∧ ∃ n, w' = w.drewN n := by
 have lx := RK_len h
 by_cases hn : 0 < xs.length
 ·obtain ⟨ad, cap, rfl, hc⟩ := ints_at h hn
  have Hc := Aside0.mk hc
  clear h hc
  go_enter Tryz.func154, Tryz.ntmps154
  go_wp2
  first
   | go_loopw [2, 3] (fun va vi wr => ∃ i : Nat, i ≤ xs.length ∧ vi = .int .i64 i ∧ va = .int .i64 (xorL 0 (xs.take i)) ∧ wr = w) (fun _ vi _ => xs.length - (intOf vi).toNat)
   | go_loopw [3, 4] (fun va vi wr => ∃ i : Nat, i ≤ xs.length ∧ vi = .int .i64 i ∧ va = .int .i64 (xorL 0 (xs.take i)) ∧ wr = w) (fun _ vi _ => xs.length - (intOf vi).toNat)
  case atStart => exact ⟨0, by omega, rfl, rfl, rfl⟩
  case round =>
   obtain ⟨i, hi, rfl, rfl, rfl⟩ := hrel
   by_cases hlt : i < xs.length
   ·obtain ⟨x, hxi⟩ : ∃ x, xs[i]? = some x := ⟨_, List.getElem?_eq_getElem hlt⟩
    have ca := Hc.out i x hxi
    have Hs := Aside0.mk (snoc_take hxi)
    clear hxi
    go_wp2
    go_roundw
    case rel => exact ⟨i + 1, by omega, by go_num, by rw [Hs.out, xorL_append]; rfl, by first | rfl | trivial⟩
    case measure => simp [intOf]; omega
   ·obtain rfl : i = xs.length := by omega
    rw [List.take_length]
    go_wp2
    go_ret
    first | exact ⟨rfl, 0, rfl⟩ | exact ⟨0, rfl⟩
 ·have h2 : xs = [] := List.eq_nil_of_length_eq_zero (by omega)
  subst h2
  obtain ⟨A, ca, rfl, _, _⟩ := h
  go_enter Tryz.func154, Tryz.ntmps154
  go_wp2
  refine wp_loop_rounds 1 ?_
  rw [rounds_succ]
  go_wp2
  go_ret
  first | exact ⟨rfl, 0, rfl⟩ | exact ⟨0, rfl⟩
set_option maxHeartbeats 1000000 in
set_option maxRecDepth 100000 in
theorem c_specMissing {w : World} {v : Value} {xs : List Int} {k : Int} (h : RK kInt w v xs) :
  Calls Tryz.prog 182 #[v, .int .i64 k] w fun e w' => e = .returned (.int .i64 (missV xs k)) ∧ ∃ n, w' = w.drewN n := by
 have lx := RK_len h
 by_cases hn : 0 < xs.length
 ·obtain ⟨ad, cap, rfl, hc⟩ := ints_at h hn
  have Hc := Aside0.mk hc
  clear h hc
  go_enter Tryz.func182, Tryz.ntmps182
  go_wp2
  go_loopw [5, 6] (fun va vi wr => ∃ i : Nat, i ≤ xs.length ∧ vi = .int .i64 i ∧ va = .int .i64 (skipL 0 (xs.take i) 0 k) ∧ wr = w) (fun _ vi _ => xs.length - (intOf vi).toNat)
  case atStart => exact ⟨0, by omega, rfl, rfl, rfl⟩
  case round =>
   obtain ⟨i, hi, rfl, rfl, rfl⟩ := hrel
   by_cases hlt : i < xs.length
   ·obtain ⟨x, hxi⟩ : ∃ x, xs[i]? = some x := ⟨_, List.getElem?_eq_getElem hlt⟩
    have ca := Hc.out i x hxi
    have Hs := Aside0.mk (snoc_take hxi)
    clear hxi
    by_cases hk : (i : Int) = k
    ·subst hk
     have hl : (xs.take i).length = i := by simp; omega
     have HV := Aside0.mk (show skipL 0 (xs.take (i + 1)) 0 (i : Int) = skipL 0 (xs.take i) 0 (i : Int) by rw [Hs.out, skipL_snoc, if_pos (by omega)])
     clear hl
     go_wp2
     go_roundw
     case rel => exact ⟨i + 1, by omega, by go_num, by rw [HV.out], by first | rfl | trivial⟩
     case measure => simp [intOf]; omega
    ·have hl : (xs.take i).length = i := by simp; omega
     have HV := Aside0.mk (show skipL 0 (xs.take (i + 1)) 0 k = Go.bits .xor .i64 (skipL 0 (xs.take i) 0 k) x by rw [Hs.out, skipL_snoc, if_neg (by omega)])
     clear hl
     go_wp2
     go_roundw
     case rel => exact ⟨i + 1, by omega, by go_num, by rw [HV.out], by first | rfl | trivial⟩
     case measure => simp [intOf]; omega
   ·obtain rfl : i = xs.length := by omega
    rw [List.take_length]
    go_wp2
    go_ret
    first | exact ⟨rfl, 0, rfl⟩ | exact ⟨0, rfl⟩
 ·have h2 : xs = [] := List.eq_nil_of_length_eq_zero (by omega)
  subst h2
  obtain ⟨A, ca, rfl, _, _⟩ := h
  go_enter Tryz.func182, Tryz.ntmps182
  go_wp2
  refine wp_loop_rounds 1 ?_
  rw [rounds_succ]
  go_wp2
  go_ret
  first | exact ⟨rfl, 0, rfl⟩ | exact ⟨0, rfl⟩
theorem c_implDataAt (n : Int) (w : World) : Calls Tryz.prog 135 #[.int .i64 n] w fun e w' => e = .returned (.int .i64 (dataV n)) ∧ ∃ n, w' = w.drewN n := by
 by_cases hk : inR n 0 1099511627776 = true
 ·have hk2 : 0 ≤ n ∧ n ≤ 1099511627776 := by simp [inR] at hk; omega
  have HV := Aside0.mk (show dataV n = n + 2 + 4 by unfold dataV; rw [if_pos hk]; omega)
  go_enter Tryz.func135, Tryz.ntmps135
  go_wp2_with (first | (go_at_call 78; refine (c_within _ _ _ _).mono ?_; rw [hk]; rintro e w2 ⟨rfl, n2, rfl⟩) | fail)
  go_ret
  exact ⟨ret_int HV.out.symm, _, rfl⟩
 ·simp only [Bool.not_eq_true] at hk
  have HV := Aside0.mk (show dataV n = -1 by unfold dataV; rw [hk]; rfl)
  go_enter Tryz.func135, Tryz.ntmps135
  go_wp2_with (first | (go_at_call 78; refine (c_within _ _ _ _).mono ?_; rw [hk]; rintro e w2 ⟨rfl, n2, rfl⟩) | fail)
  go_ret
  exact ⟨ret_int HV.out.symm, _, rfl⟩
theorem c_specDataAt (n : Int) (w : World) : Calls Tryz.prog 97 #[.int .i64 n] w fun e w' => e = .returned (.int .i64 (dataV n)) ∧ ∃ n, w' = w.drewN n := by
 by_cases hk : inR n 0 1099511627776 = true
 ·have hk2 : 0 ≤ n ∧ n ≤ 1099511627776 := by simp [inR] at hk; omega
  have HV := Aside0.mk (show dataV n = n + 2 + 4 by unfold dataV; rw [if_pos hk]; omega)
  go_enter Tryz.func97, Tryz.ntmps97
  go_wp2_with (first | (go_at_call 70; refine (c_l1In _ _ _ _).mono ?_; rw [hk]; rintro e w2 ⟨rfl, n2, rfl⟩) | fail)
  go_ret
  exact ⟨ret_int HV.out.symm, _, rfl⟩
 ·simp only [Bool.not_eq_true] at hk
  have HV := Aside0.mk (show dataV n = -1 by unfold dataV; rw [hk]; rfl)
  go_enter Tryz.func97, Tryz.ntmps97
  go_wp2_with (first | (go_at_call 70; refine (c_l1In _ _ _ _).mono ?_; rw [hk]; rintro e w2 ⟨rfl, n2, rfl⟩) | fail)
  go_ret
  exact ⟨ret_int HV.out.symm, _, rfl⟩
end AXor
namespace AGeo
open Go.RowKit RJ RP Go.Proofs.YtggmifnblcjdfaaGreatW.PrintWords Fp FpStep MInt MKinds MRead MMake MPut MHeld MOk MSuper Go.Proofs.YtggmifnblcjdfaaGreat.Sep SepStep AKinds AMake AEnt ALaw AArr AOk AOkD AOkI
def parN (n st : Int) : Int := n - 1 - st % n
def diskN (n st i : Int) : Int := (parN n st + 1 + i) % n
theorem parN_in {n st : Int} (hn : 3 ≤ n ∧ n ≤ 5) : 0 ≤ parN n st ∧ parN n st < n := by
 have h1 := Int.emod_nonneg st (b := n) (by omega)
 have h2 := Int.emod_lt_of_pos st (b := n) (by omega)
 unfold parN; omega
theorem diskN_in {n st i : Int} (hn : 3 ≤ n ∧ n ≤ 5) : 0 ≤ diskN n st i ∧ diskN n st i < n := ⟨Int.emod_nonneg _ (by omega), Int.emod_lt_of_pos _ (by omega)⟩
theorem c_l3Stripe (n s st : Int) (w : World) (hg : geoB n s = true) :
  Calls Tryz.prog 153 #[.agg #[.int .i64 n, .int .i64 s], .int .i64 st] w fun e w' => e = .returned (.bool (inR st 0 (s - 1))) ∧ Below w.heap.size w w' := by
 have hs : 1 ≤ s ∧ s ≤ 8 := by simp [geoB, inR] at hg; omega
 have ws : IntKind.i64.wrap (s - 1) = s - 1 := IntWalk.i64_in _ (by omega)
 have HG := Aside0.mk hg
 clear hs hg
 have H0 := Aside0.mk ((Sep.start w []).alloc (g := w.heap.size) rfl #[.int .i64 n, .int .i64 s] 30)
 go_enter Tryz.func153, Tryz.ntmps153
 go_wp2_with (first
  | (go_at_call 70; refine (c_l1In _ _ _ _).mono ?_; rintro e w2 ⟨rfl, hb⟩; have HS2 := Aside0.mk (HS1.out.dr hb); clear hb)
  | (go_at_call 104; refine (c_specGeoOk _ _ _).mono ?_; rw [HG.out]; rintro e w1 ⟨rfl, hb⟩; have HS1 := Aside0.mk (H0.out.below hb); clear hb; obtain ⟨k0, k1⟩ := two_cells (HS1.out.get 0 rfl))
  | fail)
 go_ret
 exact ⟨rfl, HS2.out.toBelow⟩
set_option maxHeartbeats 1000000 in
theorem c_implParityOf (n s st : Int) (w : World) (hg : geoB n s = true) (hi : inR st 0 (s - 1) = true) :
  Calls Tryz.prog 132 #[.agg #[.int .i64 n, .int .i64 s], .int .i64 st] w fun e w' => e = .returned (.int .i64 (parN n st)) ∧ Below w.heap.size w w' := by
 have hgn : 3 ≤ n ∧ n ≤ 5 := by simp [geoB, inR] at hg; omega
 have hst : 0 ≤ st := by simp [inR] at hi; omega
 have HG := Aside0.mk hg
 have HI := Aside0.mk hi
 have HS := Aside0.mk ((Sep.start w []).alloc (g := w.heap.size) rfl #[.int .i64 n, .int .i64 s] 30)
 obtain ⟨k0, k1⟩ := two_cells (HS.out.get 0 rfl)
 have hn0 : (n == 0) = false := by simp; omega
 have hnz : ¬ n = 0 := by omega
 have hm0 := Int.emod_nonneg st (b := n) (by omega)
 have hm1 := Int.emod_lt_of_pos st (b := n) (by omega)
 clear hg hi
 go_enter Tryz.func132, Tryz.ntmps132
 go_upto_region 3 with (first
  | (go_at_call 38; refine (c_hasStripe _ _ _ _ HG.out).mono ?_; rw [HI.out]; rintro e w1 ⟨rfl, hb⟩; have hs1 := HS.out.below hb; clear hb HS k0 k1; have HS := Aside0.mk hs1; clear hs1; obtain ⟨k0, k1⟩ := two_cells (HS.out.get 0 rfl))
  | fail)
 go_quiet (fail)
 go_wp2
 go_ret
 exact ⟨ret_int (by unfold parN; omega), (HS.out.drewN _).toBelow⟩
set_option maxHeartbeats 1000000 in
theorem c_implDiskOf (n s st i : Int) (w : World) (hg : geoB n s = true) (hi : inR st 0 (s - 1) = true) (hj : inR i 0 (n - 2) = true) :
  Calls Tryz.prog 133 #[.agg #[.int .i64 n, .int .i64 s], .int .i64 st, .int .i64 i] w fun e w' => e = .returned (.int .i64 (diskN n st i)) ∧ Below w.heap.size w w' := by
 have hgn : 3 ≤ n ∧ n ≤ 5 := by simp [geoB, inR] at hg; omega
 have hst : 0 ≤ st := by simp [inR] at hi; omega
 have HG := Aside0.mk hg
 have HI := Aside0.mk hi
 have HS := Aside0.mk ((Sep.start w []).alloc (g := w.heap.size) rfl #[.int .i64 n, .int .i64 s] 30)
 obtain ⟨k0, k1⟩ := two_cells (HS.out.get 0 rfl)
 have hn0 : (n == 0) = false := by simp; omega
 have hnz : ¬ n = 0 := by omega
 have hp := parN_in (st := st) hgn
 have hj2 : 0 ≤ i ∧ i ≤ n - 2 := by simp [inR] at hj; omega
 have HJ := Aside0.mk hj
 have wn : IntKind.i64.wrap (n - 2) = n - 2 := IntWalk.i64_in _ (by omega)
 have wn1 : IntKind.i64.wrap (parN n st + 1) = parN n st + 1 := IntWalk.i64_in _ (by omega)
 have wn2 : IntKind.i64.wrap (parN n st + 1 + i) = parN n st + 1 + i := IntWalk.i64_in _ (by omega)
 have hq : 0 ≤ parN n st + 1 + i := by omega
 clear hg hi hj
 go_enter Tryz.func133, Tryz.ntmps133
 go_upto_region 3 with (first
  | (go_at_call 38; refine (c_hasStripe _ _ _ _ HG.out).mono ?_; rw [HI.out]; rintro e w1 ⟨rfl, hb⟩; have hs1 := HS.out.below hb; clear hb HS k0 k1; have HS := Aside0.mk hs1; clear hs1; obtain ⟨k0, k1⟩ := two_cells (HS.out.get 0 rfl))
  | (go_at_call 78; refine (c_within _ _ _ _).mono ?_; rw [HJ.out]; rintro e w2 ⟨rfl, hb⟩; have hs1 := HS.out.dr hb; clear hb HS k0 k1; have HS := Aside0.mk hs1; clear hs1; obtain ⟨k0, k1⟩ := two_cells (HS.out.get 0 rfl))
  | fail)
 have HALL : ∀ w' : World, Below w2.heap.size w2 w' → (w'.cell? ⟨w.heap.size, 0, none⟩ = some (.int .i64 n) ∧ w'.cell? ⟨w.heap.size, 1, none⟩ = some (.int .i64 s)) := fun w' hb => ⟨(hb.cell (lt_of_cell k0)).trans k0, (hb.cell (lt_of_cell k1)).trans k1⟩
 replace HALL := Aside0.mk HALL
 clear k0 k1
 refine wp_region_seqp (fun w' => Below w2.heap.size w2 w') [] [(1, 2), (4, 2), (6, 2), (0, 1), (7, 1), (2, 0), (3, 2), (5, 2), (8, 2), (9, 0)] (by kernel_rfl) (by kernel_rfl) ?_
 have hS : Below w2.heap.size w2 w2.drew := Below.drew (Below.refl _ _)
 repeat ((first | (refine seqp_pure rfl (fun _ _ _ h => h) (by rfl) (fun w_ => by go_simp; first | done | with_reducible rfl) ?_) | (refine seqp_take hS rfl (fun _ _ _ h => h) (by rfl) (fun w_ hSw => by have hSc := HALL.out w_ hSw; clear hSw; go_simp; first | done | with_reducible rfl) ?_) | (refine seqp_skip2 rfl (fun _ _ _ h => h) (by rfl) ?_) | (refine seqp_skip1 hS rfl (fun _ _ _ h => h) (by rfl) ?_) | (refine seqp_skip0 rfl (by rfl) ?_)); (try simp only [Act.put, qqP]))
 refine seqp_step rfl (fun K hK => ?_)
 go_simp
 go_at_call 132; refine (c_implParityOf _ _ _ _ HG.out HI.out).mono ?_; rintro e w3 ⟨rfl, hb⟩
 replace hS := hS.trans (hb.mono hS.size); clear hb; refine hK.out _ _ ⟨fun _ _ => hS, ?_⟩; clear hK K; (try simp only [Act.put, qqP])
 repeat ((first | (refine seqp_pure rfl (fun _ _ _ h => h) (by rfl) (fun w_ => by go_simp; first | done | with_reducible rfl) ?_) | (refine seqp_take hS rfl (fun _ _ _ h => h) (by rfl) (fun w_ hSw => by have hSc := HALL.out w_ hSw; clear hSw; go_simp; first | done | with_reducible rfl) ?_) | (refine seqp_skip2 rfl (fun _ _ _ h => h) (by rfl) ?_) | (refine seqp_skip1 hS rfl (fun _ _ _ h => h) (by rfl) ?_) | (refine seqp_skip0 rfl (by rfl) ?_)); (try simp only [Act.put, qqP]))
 refine seqp_step rfl (fun K hK => ?_)
 go_simp
 refine hK.out _ _ ⟨fun _ _ => hS, ?_⟩; clear hK K; (try simp only [Act.put, qqP])
 refine seqp_done ?_
 go_wp2
 go_ret
 exact ⟨ret_int (by unfold diskN; first | rfl | exact (Int.tmod_eq_emod_of_nonneg hq)), (HS.out.below hS).toBelow⟩
set_option maxHeartbeats 1000000 in
theorem c_specParityOf (n s st : Int) (w : World) (hg : geoB n s = true) (hi : inR st 0 (s - 1) = true) :
  Calls Tryz.prog 120 #[.agg #[.int .i64 n, .int .i64 s], .int .i64 st] w fun e w' => e = .returned (.int .i64 (parN n st)) ∧ Below w.heap.size w w' := by
 have hgn : 3 ≤ n ∧ n ≤ 5 := by simp [geoB, inR] at hg; omega
 have hst : 0 ≤ st := by simp [inR] at hi; omega
 have HG := Aside0.mk hg
 have HI := Aside0.mk hi
 have HS := Aside0.mk ((Sep.start w []).alloc (g := w.heap.size) rfl #[.int .i64 n, .int .i64 s] 30)
 obtain ⟨k0, k1⟩ := two_cells (HS.out.get 0 rfl)
 have hn0 : (n == 0) = false := by simp; omega
 have hnz : ¬ n = 0 := by omega
 have hm0 := Int.emod_nonneg st (b := n) (by omega)
 have hm1 := Int.emod_lt_of_pos st (b := n) (by omega)
 clear hg hi
 go_enter Tryz.func120, Tryz.ntmps120
 go_upto_region 3 with (first
  | (go_at_call 153; refine (c_l3Stripe _ _ _ _ HG.out).mono ?_; rw [HI.out]; rintro e w1 ⟨rfl, hb⟩; have hs1 := HS.out.below hb; clear hb HS k0 k1; have HS := Aside0.mk hs1; clear hs1; obtain ⟨k0, k1⟩ := two_cells (HS.out.get 0 rfl))
  | fail)
 go_quiet (fail)
 go_wp2
 go_ret
 exact ⟨ret_int (by unfold parN; omega), (HS.out.drewN _).toBelow⟩
set_option maxHeartbeats 1000000 in
theorem c_specDiskOf (n s st i : Int) (w : World) (hg : geoB n s = true) (hi : inR st 0 (s - 1) = true) (hj : inR i 0 (n - 2) = true) :
  Calls Tryz.prog 183 #[.agg #[.int .i64 n, .int .i64 s], .int .i64 st, .int .i64 i] w fun e w' => e = .returned (.int .i64 (diskN n st i)) ∧ Below w.heap.size w w' := by
 have hgn : 3 ≤ n ∧ n ≤ 5 := by simp [geoB, inR] at hg; omega
 have hst : 0 ≤ st := by simp [inR] at hi; omega
 have HG := Aside0.mk hg
 have HI := Aside0.mk hi
 have HS := Aside0.mk ((Sep.start w []).alloc (g := w.heap.size) rfl #[.int .i64 n, .int .i64 s] 30)
 obtain ⟨k0, k1⟩ := two_cells (HS.out.get 0 rfl)
 have hn0 : (n == 0) = false := by simp; omega
 have hnz : ¬ n = 0 := by omega
 have hp := parN_in (st := st) hgn
 have hj2 : 0 ≤ i ∧ i ≤ n - 2 := by simp [inR] at hj; omega
 have HJ := Aside0.mk hj
 have wn : IntKind.i64.wrap (n - 2) = n - 2 := IntWalk.i64_in _ (by omega)
 have wn1 : IntKind.i64.wrap (parN n st + 1) = parN n st + 1 := IntWalk.i64_in _ (by omega)
 have wn2 : IntKind.i64.wrap (parN n st + 1 + i) = parN n st + 1 + i := IntWalk.i64_in _ (by omega)
 have hq : 0 ≤ parN n st + 1 + i := by omega
 clear hg hi hj
 go_enter Tryz.func183, Tryz.ntmps183
 go_upto_region 3 with (first
  | (go_at_call 153; refine (c_l3Stripe _ _ _ _ HG.out).mono ?_; rw [HI.out]; rintro e w1 ⟨rfl, hb⟩; have hs1 := HS.out.below hb; clear hb HS k0 k1; have HS := Aside0.mk hs1; clear hs1; obtain ⟨k0, k1⟩ := two_cells (HS.out.get 0 rfl))
  | (go_at_call 70; refine (c_l1In _ _ _ _).mono ?_; rw [HJ.out]; rintro e w2 ⟨rfl, hb⟩; have hs1 := HS.out.dr hb; clear hb HS k0 k1; have HS := Aside0.mk hs1; clear hs1; obtain ⟨k0, k1⟩ := two_cells (HS.out.get 0 rfl))
  | fail)
 have HALL : ∀ w' : World, Below w2.heap.size w2 w' → (w'.cell? ⟨w.heap.size, 0, none⟩ = some (.int .i64 n) ∧ w'.cell? ⟨w.heap.size, 1, none⟩ = some (.int .i64 s)) := fun w' hb => ⟨(hb.cell (lt_of_cell k0)).trans k0, (hb.cell (lt_of_cell k1)).trans k1⟩
 replace HALL := Aside0.mk HALL
 clear k0 k1
 refine wp_region_seqp (fun w' => Below w2.heap.size w2 w') [] [(1, 2), (4, 2), (6, 2), (0, 1), (7, 1), (2, 0), (3, 2), (5, 2), (8, 2), (9, 0)] (by kernel_rfl) (by kernel_rfl) ?_
 have hS : Below w2.heap.size w2 w2.drew := Below.drew (Below.refl _ _)
 repeat ((first | (refine seqp_pure rfl (fun _ _ _ h => h) (by rfl) (fun w_ => by go_simp; first | done | with_reducible rfl) ?_) | (refine seqp_take hS rfl (fun _ _ _ h => h) (by rfl) (fun w_ hSw => by have hSc := HALL.out w_ hSw; clear hSw; go_simp; first | done | with_reducible rfl) ?_) | (refine seqp_skip2 rfl (fun _ _ _ h => h) (by rfl) ?_) | (refine seqp_skip1 hS rfl (fun _ _ _ h => h) (by rfl) ?_) | (refine seqp_skip0 rfl (by rfl) ?_)); (try simp only [Act.put, qqP]))
 refine seqp_step rfl (fun K hK => ?_)
 go_simp
 go_at_call 120; refine (c_specParityOf _ _ _ _ HG.out HI.out).mono ?_; rintro e w3 ⟨rfl, hb⟩
 replace hS := hS.trans (hb.mono hS.size); clear hb; refine hK.out _ _ ⟨fun _ _ => hS, ?_⟩; clear hK K; (try simp only [Act.put, qqP])
 repeat ((first | (refine seqp_pure rfl (fun _ _ _ h => h) (by rfl) (fun w_ => by go_simp; first | done | with_reducible rfl) ?_) | (refine seqp_take hS rfl (fun _ _ _ h => h) (by rfl) (fun w_ hSw => by have hSc := HALL.out w_ hSw; clear hSw; go_simp; first | done | with_reducible rfl) ?_) | (refine seqp_skip2 rfl (fun _ _ _ h => h) (by rfl) ?_) | (refine seqp_skip1 hS rfl (fun _ _ _ h => h) (by rfl) ?_) | (refine seqp_skip0 rfl (by rfl) ?_)); (try simp only [Act.put, qqP]))
 refine seqp_step rfl (fun K hK => ?_)
 go_simp
 refine hK.out _ _ ⟨fun _ _ => hS, ?_⟩; clear hK K; (try simp only [Act.put, qqP])
 refine seqp_done ?_
 go_wp2
 go_ret
 exact ⟨ret_int (by unfold diskN; first | rfl | exact (Int.tmod_eq_emod_of_nonneg hq)), (HS.out.below hS).toBelow⟩
end AGeo
namespace MRec
open Go.RowKit RJ Go.Proofs.YtggmifnblcjdfaaGreatW.PrintWords Fp FpStep MInt MKinds MRead MMake MPut MHeld MVal Go.Proofs.YtggmifnblcjdfaaGreat.Sep SepStep MReadS MSuper LawLib
attribute [local go_sem ↓] Go.wp_at_zero Go.wp_at_succ
def recB (q t : Int) (xs : List Int) : Bool := inR q 0 60000 && inR t 0 7 && inR (xs.length : Int) 2 4 && xs.all isW
def putR (q t : Int) (xs : List Int) : List Int := if recB q t xs then [21322, q, t, (xs.length : Int)] ++ xs else []
theorem three {w : World} {g : Nat} {a0 a1 a2 : Value} {t : TypeId} (h : w.heap[g]? = some (.cells #[a0, a1, a2] t (0, 0))) :
  w.cell? ⟨g, 0, none⟩ = some a0 ∧ w.cell? ⟨g, 1, none⟩ = some a1 ∧ w.cell? ⟨g, 2, none⟩ = some a2 := by
 refine ⟨?_, ?_, ?_⟩ <;> simp [World.cell?, h]
theorem putR_len (q t : Int) (xs : List Int) : (putR q t xs).length ≤ xs.length + 4 := by
 unfold putR; split <;> simp
set_option maxHeartbeats 2000000 in
theorem c_implRecOk {w : World} {q t : Int} {v : Value} {xs : List Int} (h : RK kInt w v xs) :
  Calls Tryz.prog 156 #[.agg #[.int .i64 q, .int .i64 t, v]] w fun e w' => e = .returned (.bool (recB q t xs)) ∧ Below w.heap.size w w' := by
 have H := Aside0.mk h
 have lx := RK_len h
 obtain ⟨A, ca, rfl, _, _⟩ := h
 have HS := Aside0.mk ((Sep.start w []).alloc (g := w.heap.size) rfl #[.int .i64 q, .int .i64 t, .slice A xs.length ca] 96)
 by_cases h1 : inR q 0 60000 = true
 ·by_cases h2 : inR t 0 7 = true
  ·by_cases h3 : inR (xs.length : Int) 2 4 = true
   ·go_enter Tryz.func156, Tryz.ntmps156
    go_wp2_with (first
     | (go_at_call 83; refine (c_wordsOk (HS.out.rk H.out)).mono ?_; rintro e w1 ⟨rfl, hb⟩; have HX := Aside0.mk (HS.out.dr hb); clear hb HS; have HS := HX; clear HX)
     | (go_at_call 78; refine (c_within _ _ _ _).mono ?_; (first | rw [h1] | rw [h2] | rw [h3]); rintro e w1 ⟨rfl, hb⟩; have HX := Aside0.mk (HS.out.dr hb); clear hb HS; have HS := HX; clear HX; obtain ⟨k0, k1, k2⟩ := three (HS.out.get 0 rfl))
     | fail)
    go_ret
    exact ⟨ret_bool (by simp [recB, h1, h2, h3]), HS.out.toBelow⟩
   ·simp only [Bool.not_eq_true] at h3
    go_enter Tryz.func156, Tryz.ntmps156
    go_wp2_with (first
     | (go_at_call 78; refine (c_within _ _ _ _).mono ?_; (first | rw [h1] | rw [h2] | rw [h3]); rintro e w1 ⟨rfl, hb⟩; have HX := Aside0.mk (HS.out.dr hb); clear hb HS; have HS := HX; clear HX; obtain ⟨k0, k1, k2⟩ := three (HS.out.get 0 rfl))
     | fail)
    go_ret
    exact ⟨ret_bool (by simp [recB, h1, h2, h3]), HS.out.toBelow⟩
  ·simp only [Bool.not_eq_true] at h2
   go_enter Tryz.func156, Tryz.ntmps156
   go_wp2_with (first
    | (go_at_call 78; refine (c_within _ _ _ _).mono ?_; (first | rw [h1] | rw [h2]); rintro e w1 ⟨rfl, hb⟩; have HX := Aside0.mk (HS.out.dr hb); clear hb HS; have HS := HX; clear HX; obtain ⟨k0, k1, k2⟩ := three (HS.out.get 0 rfl))
    | fail)
   go_ret
   exact ⟨ret_bool (by simp [recB, h1, h2]), HS.out.toBelow⟩
 ·simp only [Bool.not_eq_true] at h1
  go_enter Tryz.func156, Tryz.ntmps156
  go_wp2_with (first
   | (go_at_call 78; refine (c_within _ _ _ _).mono ?_; rw [h1]; rintro e w1 ⟨rfl, hb⟩; have HX := Aside0.mk (HS.out.dr hb); clear hb HS; have HS := HX; clear HX)
   | fail)
  go_ret
  exact ⟨ret_bool (by simp [recB, h1]), HS.out.toBelow⟩
set_option maxHeartbeats 2000000 in
theorem c_implPutRec {w : World} {q t : Int} {v : Value} {xs : List Int} (h : RK kInt w v xs) (hl : xs.length ≤ 16777216) :
  Calls Tryz.prog 130 #[.agg #[.int .i64 q, .int .i64 t, v]] w fun e w' => ∃ A c F, e = .returned (.slice A (putR q t xs).length c) ∧ New w w' (rw_ oInt 3 F (.slice A (putR q t xs).length c) (putR q t xs)) := by
 have H := Aside0.mk h
 have lx := RK_len h
 obtain ⟨A, ca, rfl, _, _⟩ := h
 have HS := Aside0.mk ((Sep.start w []).alloc (g := w.heap.size) rfl #[.int .i64 q, .int .i64 t, .slice A xs.length ca] 96)
 by_cases h1 : recB q t xs = true
 ·have hp : putR q t xs = [21322, q, t, (xs.length : Int)] ++ xs := by unfold putR; rw [if_pos h1]
  have Hp := Aside0.mk hp
  have hpl : (putR q t xs).length = 4 + xs.length := by rw [hp]; simp; omega
  have Hpl := Aside0.mk hpl
  clear hp hpl
  go_enter Tryz.func130, Tryz.ntmps130
  go_wp2_with (first
   | (go_at_call 156; refine (c_implRecOk (HS.out.rk H.out)).mono ?_; rw [h1]; rintro e w1 ⟨rfl, hb⟩; have HS1 := Aside0.mk (HS.out.below hb); clear hb HS; obtain ⟨k0, k1, k2⟩ := three (HS1.out.get 0 rfl); obtain ⟨j0, j1, j2⟩ := three ((HS1.out.alloc (g := w1.heap.size) rfl #[.int .i64 21322, .int .i64 q, .int .i64 t, .int .i64 xs.length] 3).get 1 rfl))
   | (at_builtin; refine app_ints .i64 (xs := [21322, q, t, (xs.length : Int)]) (new_lit HS1.out rfl 3 _ (l := [21322, q, t, (xs.length : Int)]) (n := 4) rfl rfl (by decide)) rfl _ _ 28 8 (by rfl) Tryz.underlying28 (by kernel_rfl) (by decide) _ xs (by rfl) (by rfl) ((new_lit HS1.out rfl 3 _ (l := [21322, q, t, (xs.length : Int)]) (n := 4) rfl rfl (by decide)).rk H.out) (by simp only [List.length_cons, List.length_nil]; omega) ?_; intro A2 c2 w2 F2 hE; have HE := Aside0.mk hE; clear hE)
   | fail)
  go_ret
  refine ⟨A2, c2, F2, ?_, ?_⟩
  ·rw [Hpl.out]; rfl
  ·rw [Hpl.out, Hp.out]; exact HE.out.toNew 0 rfl
 ·simp only [Bool.not_eq_true] at h1
  have hp : putR q t xs = [] := by unfold putR; rw [h1]; rfl
  rw [hp]
  go_enter Tryz.func130, Tryz.ntmps130
  go_wp2_with (first
   | (go_at_call 156; refine (c_implRecOk (HS.out.rk H.out)).mono ?_; rw [h1]; rintro e w1 ⟨rfl, hb⟩; have HS1 := Aside0.mk (HS.out.below hb); clear hb HS)
   | fail)
  go_ret
  exact ⟨_, _, _, rfl, (HS1.out.nil oInt 3).toNew 0 rfl⟩
set_option maxHeartbeats 2000000 in
theorem c_specRecOk {w : World} {q t : Int} {v : Value} {xs : List Int} (h : RK kInt w v xs) :
  Calls Tryz.prog 152 #[.agg #[.int .i64 q, .int .i64 t, v]] w fun e w' => e = .returned (.bool (recB q t xs)) ∧ Below w.heap.size w w' := by
 have H := Aside0.mk h
 have lx := RK_len h
 obtain ⟨A, ca, rfl, _, _⟩ := h
 have HS := Aside0.mk ((Sep.start w []).alloc (g := w.heap.size) rfl #[.int .i64 q, .int .i64 t, .slice A xs.length ca] 96)
 by_cases h1 : inR q 0 60000 = true
 ·by_cases h2 : inR t 0 7 = true
  ·by_cases h3 : inR (xs.length : Int) 2 4 = true
   ·go_enter Tryz.func152, Tryz.ntmps152
    go_wp2_with (first
     | (go_at_call 69; refine (c_l1Words (HS.out.rk H.out)).mono ?_; rintro e w1 ⟨rfl, hb⟩; have HX := Aside0.mk (HS.out.dr hb); clear hb HS; have HS := HX; clear HX)
     | (go_at_call 70; refine (c_l1In _ _ _ _).mono ?_; (first | rw [h1] | rw [h2] | rw [h3]); rintro e w1 ⟨rfl, hb⟩; have HX := Aside0.mk (HS.out.dr hb); clear hb HS; have HS := HX; clear HX; obtain ⟨k0, k1, k2⟩ := three (HS.out.get 0 rfl))
     | fail)
    go_ret
    exact ⟨ret_bool (by simp [recB, h1, h2, h3]), HS.out.toBelow⟩
   ·simp only [Bool.not_eq_true] at h3
    go_enter Tryz.func152, Tryz.ntmps152
    go_wp2_with (first
     | (go_at_call 70; refine (c_l1In _ _ _ _).mono ?_; (first | rw [h1] | rw [h2] | rw [h3]); rintro e w1 ⟨rfl, hb⟩; have HX := Aside0.mk (HS.out.dr hb); clear hb HS; have HS := HX; clear HX; obtain ⟨k0, k1, k2⟩ := three (HS.out.get 0 rfl))
     | fail)
    go_ret
    exact ⟨ret_bool (by simp [recB, h1, h2, h3]), HS.out.toBelow⟩
  ·simp only [Bool.not_eq_true] at h2
   go_enter Tryz.func152, Tryz.ntmps152
   go_wp2_with (first
    | (go_at_call 70; refine (c_l1In _ _ _ _).mono ?_; (first | rw [h1] | rw [h2]); rintro e w1 ⟨rfl, hb⟩; have HX := Aside0.mk (HS.out.dr hb); clear hb HS; have HS := HX; clear HX; obtain ⟨k0, k1, k2⟩ := three (HS.out.get 0 rfl))
    | fail)
   go_ret
   exact ⟨ret_bool (by simp [recB, h1, h2]), HS.out.toBelow⟩
 ·simp only [Bool.not_eq_true] at h1
  go_enter Tryz.func152, Tryz.ntmps152
  go_wp2_with (first
   | (go_at_call 70; refine (c_l1In _ _ _ _).mono ?_; rw [h1]; rintro e w1 ⟨rfl, hb⟩; have HX := Aside0.mk (HS.out.dr hb); clear hb HS; have HS := HX; clear HX)
   | fail)
  go_ret
  exact ⟨ret_bool (by simp [recB, h1]), HS.out.toBelow⟩
set_option maxHeartbeats 2000000 in
theorem c_specPutRec {w : World} {q t : Int} {v : Value} {xs : List Int} (h : RK kInt w v xs) (hl : xs.length ≤ 16777216) :
  Calls Tryz.prog 119 #[.agg #[.int .i64 q, .int .i64 t, v]] w fun e w' => ∃ A c F, e = .returned (.slice A (putR q t xs).length c) ∧ New w w' (rw_ oInt 3 F (.slice A (putR q t xs).length c) (putR q t xs)) := by
 have H := Aside0.mk h
 have lx := RK_len h
 obtain ⟨A, ca, rfl, _, _⟩ := h
 have HS := Aside0.mk ((Sep.start w []).alloc (g := w.heap.size) rfl #[.int .i64 q, .int .i64 t, .slice A xs.length ca] 96)
 by_cases h1 : recB q t xs = true
 ·have hp : putR q t xs = [21322, q, t, (xs.length : Int)] ++ xs := by unfold putR; rw [if_pos h1]
  have Hp := Aside0.mk hp
  have hpl : (putR q t xs).length = 4 + xs.length := by rw [hp]; simp; omega
  have Hpl := Aside0.mk hpl
  clear hp hpl
  go_enter Tryz.func119, Tryz.ntmps119
  go_wp2_with (first
   | (go_at_call 152; refine (c_specRecOk (HS.out.rk H.out)).mono ?_; rw [h1]; rintro e w1 ⟨rfl, hb⟩; have HS1 := Aside0.mk (HS.out.below hb); clear hb HS; obtain ⟨k0, k1, k2⟩ := three (HS1.out.get 0 rfl); obtain ⟨j0, j1, j2⟩ := three ((HS1.out.alloc (g := w1.heap.size) rfl #[.int .i64 21322, .int .i64 q, .int .i64 t, .int .i64 xs.length] 3).get 1 rfl))
   | (at_builtin; refine app_ints .i64 (xs := [21322, q, t, (xs.length : Int)]) (new_lit HS1.out rfl 3 _ (l := [21322, q, t, (xs.length : Int)]) (n := 4) rfl rfl (by decide)) rfl _ _ 28 8 (by rfl) Tryz.underlying28 (by kernel_rfl) (by decide) _ xs (by rfl) (by rfl) ((new_lit HS1.out rfl 3 _ (l := [21322, q, t, (xs.length : Int)]) (n := 4) rfl rfl (by decide)).rk H.out) (by simp only [List.length_cons, List.length_nil]; omega) ?_; intro A2 c2 w2 F2 hE; have HE := Aside0.mk hE; clear hE)
   | fail)
  go_ret
  refine ⟨A2, c2, F2, ?_, ?_⟩
  ·rw [Hpl.out]; rfl
  ·rw [Hpl.out, Hp.out]; exact HE.out.toNew 0 rfl
 ·simp only [Bool.not_eq_true] at h1
  have hp : putR q t xs = [] := by unfold putR; rw [h1]; rfl
  rw [hp]
  go_enter Tryz.func119, Tryz.ntmps119
  go_wp2_with (first
   | (go_at_call 152; refine (c_specRecOk (HS.out.rk H.out)).mono ?_; rw [h1]; rintro e w1 ⟨rfl, hb⟩; have HS1 := Aside0.mk (HS.out.below hb); clear hb HS)
   | fail)
  go_ret
  exact ⟨_, _, _, rfl, (HS1.out.lit rfl oInt 3).toNew 0 rfl⟩
end MRec
namespace AStrV
open Go.RowKit MKinds MRead MPut MHeld MOk MInt MVal MSuper LawLib AKinds AMark AOpV ASyncF AMarkV ALive AXor AGeo MRec AMarkF AOkA
def slotV (q : Int) : Int := if q < 0 then -1 else 2 + q % 4
def putA (a : ArrV) (k : Int) (xs : List Int) : Nat → ArrV
 | 0 => a
 | i + 1 => putV (putA a k xs i) i k xs
def recV (a : ArrV) (k : Int) (xs : List Int) : ArrV := syncV (putA a k xs a.mems.length)
def wordW (n s : Int) (data : List Int) (m : Nat) : Int := if (m : Int) = parN n s then xorL 0 data else data.getD (((m : Int) - parN n s - 1 + n) % n).toNat 0
def datN (a : ArrV) (s : Int) (data : List Int) : Nat → ArrV
 | 0 => a
 | i + 1 => if liveB (datN a s data i) i s then putV (datN a s data i) i (dataV s) [wordW a.gn s data i] else datN a s data i
def datV (a : ArrV) (s : Int) (data : List Int) : ArrV := datN a s data a.mems.length
def seqV (a : ArrV) : ArrV := { a with seq := a.seq + 1 }
def strA (a : ArrV) : ArrV := if 4 ≤ a.seq - a.tail then checkV a else a
def strB (a : ArrV) (s : Int) (data : List Int) : ArrV := recV a (slotV a.seq) (putR a.seq s data)
def strV (a : ArrV) (s : Int) (data : List Int) : ArrV :=
 if (strA a).down then strA a else if (strB (strA a) s data).down then strB (strA a) s data else datV (seqV (strB (strA a) s data)) s data
def dobV (a : ArrV) (data : List Int) : Bool := decide ((data.length : Int) = a.gn - 1) && data.all isW
def codeV (a : ArrV) (s : Int) (data : List Int) : Int :=
 if !(arrB a && dobV a data) then 1 else if a.down then 6 else if !inR s 0 (a.gs - 1) then 2 else if a.broken then 5 else if (decide (a.seq = 60000) || decide (59990 ≤ a.gen)) then 7 else 0
def downC (a : ArrV) : Int := if a.down then 6 else 0
theorem downC_yes {a : ArrV} (h : a.down = true) : downC a = 6 := by unfold downC; rw [h]; rfl
theorem downC_no {a : ArrV} (h : a.down = false) : downC a = 0 := by unfold downC; rw [h]; rfl
def wrR (a : ArrV) (s : Int) (data : List Int) : ArrV × Int := if codeV a s data = 0 then (strV a s data, downC (strV a s data)) else (a, codeV a s data)
section
variable {a : ArrV} {k s : Int} {xs data : List Int}
theorem putA_same (a : ArrV) (k : Int) (xs : List Int) : ∀ i, Same a (putA a k xs i)
 | 0 => Same.refl a
 | i + 1 => (putA_same a k xs i).trans (turnV_same _ _ _)
theorem putA_stay {i : Nat} (h : (putA a k xs i).down = true) : ∀ d, putA a k xs (i + d) = putA a k xs i
 | 0 => rfl
 | d + 1 => by rw [← Nat.add_assoc, putA, putA_stay h d, putV, turnV_down h]
theorem recV_down {i : Nat} (h : (putA a k xs i).down = true) (hi : i ≤ a.mems.length) : recV a k xs = putA a k xs i := by
 have h1 := putA_stay h (a.mems.length - i)
 rw [show i + (a.mems.length - i) = a.mems.length by omega] at h1
 unfold recV
 rw [h1, syncV_of_down h]
theorem putV_small {i : Nat} (h : ∀ m ∈ a.mems, Small m) (hx : xs.length ≤ 16777216) : ∀ m ∈ (putV a i k xs).mems, Small m := turnV_all (P := Small) h (fun m hm => small_write hm hx)
theorem putA_small (h : ∀ m ∈ a.mems, Small m) (hx : xs.length ≤ 16777216) : ∀ i, ∀ m ∈ (putA a k xs i).mems, Small m
 | 0 => h
 | i + 1 => putV_small (putA_small h hx i) hx
theorem putA_fuse (h : a.fuse ≤ 1000) : ∀ i, (putA a k xs i).fuse ≤ 1000
 | 0 => h
 | i + 1 => turnV_fuse (putA_fuse h i)
theorem recV_same (a : ArrV) (k : Int) (xs : List Int) : Same a (recV a k xs) := (putA_same a k xs _).trans (syncN_same _ _)
theorem recV_fuse (h : a.fuse ≤ 1000) : (recV a k xs).fuse ≤ 1000 := syncV_fuse (putA_fuse h _)
theorem recV_small (h : ∀ m ∈ a.mems, Small m) (hx : xs.length ≤ 16777216) : ∀ m ∈ (recV a k xs).mems, Small m := syncV_small (putA_small h hx _)
theorem datN_same (a : ArrV) (s : Int) (data : List Int) : ∀ i, Same a (datN a s data i)
 | 0 => Same.refl a
 | i + 1 => by
  rw [datN]
  split
  ·exact (datN_same a s data i).trans (turnV_same _ _ _)
  ·exact datN_same a s data i
theorem datN_stay {i : Nat} (h : (datN a s data i).down = true) : ∀ d, datN a s data (i + d) = datN a s data i
 | 0 => rfl
 | d + 1 => by
  rw [← Nat.add_assoc, datN, datN_stay h d, putV, turnV_down h]
  split <;> rfl
theorem datV_down {i : Nat} (h : (datN a s data i).down = true) (hi : i ≤ a.mems.length) : datV a s data = datN a s data i := by
 have h1 := datN_stay h (a.mems.length - i)
 rw [show i + (a.mems.length - i) = a.mems.length by omega] at h1
 exact h1
theorem datN_small (h : ∀ m ∈ a.mems, Small m) : ∀ i, ∀ m ∈ (datN a s data i).mems, Small m
 | 0 => h
 | i + 1 => by
  rw [datN]
  split
  ·exact putV_small (datN_small h i) (by simp)
  ·exact datN_small h i
theorem datN_fuse (h : a.fuse ≤ 1000) : ∀ i, (datN a s data i).fuse ≤ 1000
 | 0 => h
 | i + 1 => by
  rw [datN]
  split
  ·exact turnV_fuse (datN_fuse h i)
  ·exact datN_fuse h i
theorem syncV_same (a : ArrV) : Same a (syncV a) := syncN_same a _
theorem markV_same (a : ArrV) : Same { a with gen := a.gen + 1 } (markV a) := (putN_same (genV a) _).trans (syncN_same _ _)
theorem checkV_small (h : ∀ m ∈ a.mems, Small m) : ∀ m ∈ (checkV a).mems, Small m := by
 unfold checkV
 split
 ·exact syncV_small h
 ·exact syncV_small (putN_small (a := genV (tailV (syncV a))) (syncV_small h) _)
theorem checkV_fuse (h : a.fuse ≤ 1000) : (checkV a).fuse ≤ 1000 := by
 unfold checkV
 split
 ·exact syncV_fuse h
 ·exact syncV_fuse (putN_fuse (a := genV (tailV (syncV a))) (syncV_fuse h) _)
structure Most (a b : ArrV) : Prop where
 gn : b.gn = a.gn
 gs : b.gs = a.gs
 lost : b.lost = a.lost
 built : b.built = a.built
 seq : b.seq = a.seq
 dirty : b.dirty = a.dirty
 len : b.mems.length = a.mems.length
theorem Most.refl (a : ArrV) : Most a a := ⟨rfl, rfl, rfl, rfl, rfl, rfl, rfl⟩
theorem _root_.Go.Proofs.YtggmifnblcjdfaaGreat.AMarkV.Same.most {a b : ArrV} (h : Same a b) : Most a b := ⟨h.gn, h.gs, h.lost, h.built, h.seq, h.dirty, h.len⟩
theorem Most.trans {a b c : ArrV} (h : Most a b) (g : Most b c) : Most a c := ⟨g.gn.trans h.gn, g.gs.trans h.gs, g.lost.trans h.lost, g.built.trans h.built, g.seq.trans h.seq, g.dirty.trans h.dirty, g.len.trans h.len⟩
theorem markV_most (a : ArrV) : Most a (markV a) := (show Most a (genV a) from ⟨rfl, rfl, rfl, rfl, rfl, rfl, rfl⟩).trans (markV_same a).most
theorem checkV_most (a : ArrV) : Most a (checkV a) := by
 unfold checkV
 split
 ·exact (syncV_same a).most
 ·exact (syncV_same a).most.trans ((show Most (syncV a) (tailV (syncV a)) from ⟨rfl, rfl, rfl, rfl, rfl, rfl, rfl⟩).trans (markV_most _))
theorem strA_most (a : ArrV) : Most a (strA a) := by unfold strA; split; exact checkV_most a; exact Most.refl a
theorem strV_most_seq (a : ArrV) (s : Int) (data : List Int) : (strV a s data).dirty = a.dirty ∧ (strV a s data).mems.length = a.mems.length := by
 have h1 := strA_most a
 have h2 := recV_same (strA a) (slotV (strA a).seq) (putR (strA a).seq s data)
 unfold strV
 split
 ·exact ⟨h1.dirty, h1.len⟩
 ·split
  ·exact ⟨h2.dirty.trans h1.dirty, h2.len.trans h1.len⟩
  ·have h3 := datN_same (seqV (strB (strA a) s data)) s data (seqV (strB (strA a) s data)).mems.length
   exact ⟨h3.dirty.trans (h2.dirty.trans h1.dirty), h3.len.trans (h2.len.trans h1.len)⟩
end
def wlist (n s x : Int) (data : List Int) : Nat → List Int
 | 0 => (List.replicate n.toNat 0).set (parN n s).toNat x
 | i + 1 => (wlist n s x data i).set (diskN n s (i : Int)).toNat (data.getD i 0)
theorem wlist_len (n s x : Int) (data : List Int) : ∀ i, (wlist n s x data i).length = n.toNat
 | 0 => by simp [wlist]
 | i + 1 => by rw [wlist, List.length_set, wlist_len]
theorem wlist_get {n s : Int} {data : List Int} (hn : 3 ≤ n ∧ n ≤ 5) (hd : (data.length : Int) = n - 1) {m : Nat} (hm : (m : Int) < n) :
  (wlist n s (xorL 0 data) data data.length)[m]? = some (wordW n s data m) := by
 obtain ⟨hp0, hp1⟩ := parN_in (st := s) hn
 unfold wordW
 generalize xorL 0 data = x
 have e0 : ∀ i : Int, diskN n s i = (parN n s + 1 + i) % n := fun i => rfl
 have hw : ∀ i, wlist n s x data i = (List.range i).foldl (fun l (j : Nat) => l.set ((parN n s + 1 + (j : Int)) % n).toNat (data.getD j 0)) ((List.replicate n.toNat 0).set (parN n s).toNat x) := by
  intro i
  induction i with
  | zero => rfl
  | succ i ih => rw [wlist, ih, List.range_succ, List.foldl_append, e0]; rfl
 rw [hw]
 generalize parN n s = p at *
 obtain rfl | rfl | rfl : n = 3 ∨ n = 4 ∨ n = 5 := by omega
 ·obtain ⟨d0, d1, rfl⟩ : ∃ d0 d1, data = [d0, d1] := by
   rcases data with _ | ⟨d0, _ | ⟨d1, _ | ⟨d2, l⟩⟩⟩ <;> simp at hd
   ·exact ⟨d0, d1, rfl⟩
   ·omega
  obtain rfl | rfl | rfl : p = 0 ∨ p = 1 ∨ p = 2 := by omega
  all_goals (obtain rfl | rfl | rfl : m = 0 ∨ m = 1 ∨ m = 2 := by omega) <;> first | rfl | (simp [List.range_succ, List.replicate_succ]; done) | (simp [List.range_succ, List.replicate_succ]; rfl)
 ·obtain ⟨d0, d1, d2, rfl⟩ : ∃ d0 d1 d2, data = [d0, d1, d2] := by
   rcases data with _ | ⟨d0, _ | ⟨d1, _ | ⟨d2, _ | ⟨d3, l⟩⟩⟩⟩ <;> simp at hd
   ·exact ⟨d0, d1, d2, rfl⟩
   ·omega
  obtain rfl | rfl | rfl | rfl : p = 0 ∨ p = 1 ∨ p = 2 ∨ p = 3 := by omega
  all_goals (obtain rfl | rfl | rfl | rfl : m = 0 ∨ m = 1 ∨ m = 2 ∨ m = 3 := by omega) <;> first | rfl | (simp [List.range_succ, List.replicate_succ]; done) | (simp [List.range_succ, List.replicate_succ]; rfl)
 ·obtain ⟨d0, d1, d2, d3, rfl⟩ : ∃ d0 d1 d2 d3, data = [d0, d1, d2, d3] := by
   rcases data with _ | ⟨d0, _ | ⟨d1, _ | ⟨d2, _ | ⟨d3, _ | ⟨d4, l⟩⟩⟩⟩⟩ <;> simp at hd
   ·exact ⟨d0, d1, d2, d3, rfl⟩
   ·omega
  obtain rfl | rfl | rfl | rfl | rfl : p = 0 ∨ p = 1 ∨ p = 2 ∨ p = 3 ∨ p = 4 := by omega
  all_goals (obtain rfl | rfl | rfl | rfl | rfl : m = 0 ∨ m = 1 ∨ m = 2 ∨ m = 3 ∨ m = 4 := by omega) <;> first | rfl | (simp [List.range_succ, List.replicate_succ]; done) | (simp [List.range_succ, List.replicate_succ]; rfl)
end AStrV
end Go.Proofs.YtggmifnblcjdfaaGreat
