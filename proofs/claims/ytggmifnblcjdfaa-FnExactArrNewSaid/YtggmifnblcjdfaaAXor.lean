/- Xor of words; where data lie. Printed by mkaxor.py. -/
import Derived.Test.YtggmifnblcjdfaaAKinds
import Derived.Test.YtggmifnblcjdfaaMInt
namespace Go.Proofs.Ytggmifnblcjdfaa.AXor
open Go.RowKit Go.Proofs.YtggmifnblcjdfaaW.PrintWords Go.Proofs.Ytggmifnblcjdfaa.Fp Go.Proofs.Ytggmifnblcjdfaa.MInt Go.Proofs.Ytggmifnblcjdfaa.MKinds Go.Proofs.Ytggmifnblcjdfaa.MRead Go.Proofs.Ytggmifnblcjdfaa.MMake Go.Proofs.Ytggmifnblcjdfaa.MPut Go.Proofs.Ytggmifnblcjdfaa.MHeld Go.Proofs.Ytggmifnblcjdfaa.Sep Go.Proofs.Ytggmifnblcjdfaa.AKinds
set_option linter.unusedVariables false
set_option linter.unusedSimpArgs false
/-! ### xor of 64-bit numbers -/
def W64 (x : Int) : Prop := -9223372036854775808 ≤ x ∧ x ≤ 9223372036854775807
theorem bx_eq (x y : Int) : Go.bits .xor .i64 x y = (BitVec.ofInt 64 x ^^^ BitVec.ofInt 64 y).toInt := by
  have h : Go.bits .xor .i64 x y = IntKind.i64.wrap ((BitVec.ofInt 64 x ^^^ BitVec.ofInt 64 y).toNat : Int) := rfl
  rw [h, IntKind.wrap_i64, BitVec.toInt_eq_toNat_cond]
  have := (BitVec.ofInt 64 x ^^^ BitVec.ofInt 64 y).isLt
  split <;> omega
theorem ofInt_bx (x y : Int) : BitVec.ofInt 64 (Go.bits .xor .i64 x y) = BitVec.ofInt 64 x ^^^ BitVec.ofInt 64 y := by
  rw [bx_eq, BitVec.ofInt_toInt]
theorem toInt_ofInt64 {x : Int} (h : W64 x) : (BitVec.ofInt 64 x).toInt = x := by
  rw [BitVec.toInt_ofInt]
  have := h.1; have := h.2
  rw [Int.bmod_def]
  omega
theorem W64_toInt (v : BitVec 64) : W64 v.toInt := by
  rw [BitVec.toInt_eq_toNat_cond]
  have := v.isLt
  unfold W64
  split <;> omega
theorem W64_bx (x y : Int) : W64 (Go.bits .xor .i64 x y) := by rw [bx_eq]; exact W64_toInt _
theorem W64_zero : W64 0 := by unfold W64; omega
def xorL (a : Int) (l : List Int) : Int := l.foldl (fun x n => Go.bits .xor .i64 x n) a
def xv (l : List Int) : BitVec 64 := l.foldr (fun n v => BitVec.ofInt 64 n ^^^ v) 0
theorem xorL_cons (a n : Int) (l : List Int) : xorL a (n :: l) = xorL (Go.bits .xor .i64 a n) l := rfl
theorem xorL_xv : ∀ (l : List Int) (a : Int), W64 a → xorL a l = (BitVec.ofInt 64 a ^^^ xv l).toInt
  | [], a, h => by show a = _; simp [xv, toInt_ofInt64 h]
  | n :: l, a, h => by
    rw [xorL_cons, xorL_xv l _ (W64_bx a n), ofInt_bx, BitVec.xor_assoc]; rfl
theorem W64_xorL {a : Int} (h : W64 a) (l : List Int) : W64 (xorL a l) := by rw [xorL_xv l a h]; exact W64_toInt _
theorem xor_back (a b : BitVec 64) : (a ^^^ b) ^^^ b = a := by rw [BitVec.xor_assoc, BitVec.xor_self, BitVec.xor_zero]
/-- All but the k-th (i: the place of the first). -/
def skipL : Int → List Int → Nat → Int → Int
  | a, [], _, _ => a
  | a, n :: l, i, k => if (i : Int) = k then skipL a l (i + 1) k else skipL (Go.bits .xor .i64 a n) l (i + 1) k
theorem skipL_out : ∀ (l : List Int) (a : Int) (i : Nat) (k : Int), (k < i ∨ (i : Int) + l.length ≤ k) → skipL a l i k = xorL a l
  | [], a, i, k, _ => rfl
  | n :: l, a, i, k, h => by
    rw [List.length_cons] at h
    rw [skipL, if_neg (by omega), skipL_out l _ (i + 1) k (by omega), xorL_cons]
theorem skip_alg (a n v : BitVec 64) : a ^^^ n ^^^ v ^^^ n = a ^^^ v := by
  rw [BitVec.xor_assoc a, BitVec.xor_comm n, ← BitVec.xor_assoc, xor_back]
theorem skipL_in (l : List Int) : ∀ (a : Int) (i : Nat) (k : Nat), W64 a → (h : k < l.length) → skipL a l i ((i + k : Nat) : Int) = Go.bits .xor .i64 (xorL a l) l[k] := by
  induction l with
  | nil => intro a i k _ h; simp at h
  | cons n l ih =>
    intro a i k w h
    cases k with
    | zero =>
      rw [skipL, if_pos (by omega), skipL_out l a (i + 1) _ (by omega), List.getElem_cons_zero, xorL_cons, bx_eq (xorL _ l), xorL_xv _ _ (W64_bx _ _), BitVec.ofInt_toInt, ofInt_bx, xorL_xv _ _ w, skip_alg]
    | succ k =>
      have h' : k < l.length := by simpa using h
      rw [skipL, if_neg (by omega), show ((i + (k + 1) : Nat) : Int) = ((i + 1 + k : Nat) : Int) by omega, ih _ (i + 1) k (W64_bx _ _) h', xorL_cons, List.getElem_cons_succ]
theorem bx_back {x : Int} (h : W64 x) (n : Int) : Go.bits .xor .i64 (Go.bits .xor .i64 x n) n = x := by
  rw [bx_eq (Go.bits .xor .i64 x n), ofInt_bx, xor_back, toInt_ofInt64 h]
theorem bx_zero {x : Int} (h : W64 x) : Go.bits .xor .i64 0 x = x := by
  rw [bx_eq, show BitVec.ofInt 64 0 = 0 from rfl]
  simp [toInt_ofInt64 h]
theorem xorL_append (a : Int) (l m : List Int) : xorL a (l ++ m) = xorL (xorL a l) m := by simp [xorL]

theorem skipL_snoc : ∀ (l : List Int) (a : Int) (i : Nat) (k x : Int), skipL a (l ++ [x]) i k = if ((i + l.length : Nat) : Int) = k then skipL a l i k else Go.bits .xor .i64 (skipL a l i k) x
  | [], a, i, k, x => by simp [skipL]
  | n :: l, a, i, k, x => by
    rw [List.cons_append, skipL, skipL]
    split
    · rw [skipL_snoc l a (i + 1) k x, List.length_cons, show i + 1 + l.length = i + (l.length + 1) by omega]
    · rw [skipL_snoc l _ (i + 1) k x, List.length_cons, show i + 1 + l.length = i + (l.length + 1) by omega]
def missV (l : List Int) (k : Int) : Int := skipL 0 l 0 k
def dataV (n : Int) : Int := if inR n 0 1099511627776 then n + 6 else -1
theorem snoc_take {l : List Int} {i : Nat} {x : Int} (h : l[i]? = some x) : l.take (i + 1) = l.take i ++ [x] := by
  obtain ⟨h4, h5⟩ := List.getElem?_eq_some_iff.1 h
  rw [List.take_succ_eq_append_getElem h4, h5]
set_option maxHeartbeats 1000000 in
set_option maxRecDepth 100000 in
theorem c_implXorOf {w : World} {v : Value} {xs : List Int} (h : RK kInt w v xs) :
    Calls Try.prog 107 #[v] w fun e w' => e = .returned (.int .i64 (xorL 0 xs)) ∧ ∃ n, w' = w.drewN n := by
  have lx := RK_len h
  by_cases hn : 0 < xs.length
  · obtain ⟨ad, cap, rfl, hc⟩ := ints_at h hn
    have Hc := Aside0.mk hc
    clear h hc
    go_enter Try.func107, Try.ntmps107
    go_wp2
    go_loopw [3, 8] (fun va vi wr => ∃ i : Nat, i ≤ xs.length ∧ vi = .int .i64 i ∧ va = .int .i64 (xorL 0 (xs.take i)) ∧ wr = w) (fun _ vi _ => xs.length - (intOf vi).toNat)
    case atStart => exact ⟨0, by omega, rfl, rfl, rfl⟩
    case round =>
      obtain ⟨i, hi, rfl, rfl, rfl⟩ := hrel
      by_cases hlt : i < xs.length
      · obtain ⟨x, hxi⟩ : ∃ x, xs[i]? = some x := ⟨_, List.getElem?_eq_getElem hlt⟩
        have ca := Hc.out i x hxi
        have Hs := Aside0.mk (snoc_take hxi)
        clear hxi
        go_wp2
        go_roundw
        case rel => exact ⟨i + 1, by omega, by go_num, by rw [Hs.out, xorL_append]; rfl, by first | rfl | trivial⟩
        case measure => simp [intOf]; omega
      · obtain rfl : i = xs.length := by omega
        rw [List.take_length]
        go_wp2
        go_ret
        first | exact ⟨rfl, 0, rfl⟩ | exact ⟨0, rfl⟩
  · have h2 : xs = [] := List.eq_nil_of_length_eq_zero (by omega)
    subst h2
    obtain ⟨A, ca, rfl, _, _⟩ := h
    go_enter Try.func107, Try.ntmps107
    go_wp2
    refine wp_loop_rounds 1 ?_
    rw [rounds_succ]
    go_wp2
    go_ret
    first | exact ⟨rfl, 0, rfl⟩ | exact ⟨0, rfl⟩
set_option maxHeartbeats 1000000 in
set_option maxRecDepth 100000 in
theorem c_specMissing {w : World} {v : Value} {xs : List Int} {k : Int} (h : RK kInt w v xs) :
    Calls Try.prog 105 #[v, .int .i64 k] w fun e w' => e = .returned (.int .i64 (missV xs k)) ∧ ∃ n, w' = w.drewN n := by
  have lx := RK_len h
  by_cases hn : 0 < xs.length
  · obtain ⟨ad, cap, rfl, hc⟩ := ints_at h hn
    have Hc := Aside0.mk hc
    clear h hc
    go_enter Try.func105, Try.ntmps105
    go_wp2
    go_loopw [5, 6] (fun va vi wr => ∃ i : Nat, i ≤ xs.length ∧ vi = .int .i64 i ∧ va = .int .i64 (skipL 0 (xs.take i) 0 k) ∧ wr = w) (fun _ vi _ => xs.length - (intOf vi).toNat)
    case atStart => exact ⟨0, by omega, rfl, rfl, rfl⟩
    case round =>
      obtain ⟨i, hi, rfl, rfl, rfl⟩ := hrel
      by_cases hlt : i < xs.length
      · obtain ⟨x, hxi⟩ : ∃ x, xs[i]? = some x := ⟨_, List.getElem?_eq_getElem hlt⟩
        have ca := Hc.out i x hxi
        have Hs := Aside0.mk (snoc_take hxi)
        clear hxi
        by_cases hk : (i : Int) = k
        · subst hk
          have hl : (xs.take i).length = i := by simp; omega
          have HV := Aside0.mk (show skipL 0 (xs.take (i + 1)) 0 (i : Int) = skipL 0 (xs.take i) 0 (i : Int) by rw [Hs.out, skipL_snoc, if_pos (by omega)])
          clear hl
          go_wp2
          go_roundw
          case rel => exact ⟨i + 1, by omega, by go_num, by rw [HV.out], by first | rfl | trivial⟩
          case measure => simp [intOf]; omega
        · have hl : (xs.take i).length = i := by simp; omega
          have HV := Aside0.mk (show skipL 0 (xs.take (i + 1)) 0 k = Go.bits .xor .i64 (skipL 0 (xs.take i) 0 k) x by rw [Hs.out, skipL_snoc, if_neg (by omega)])
          clear hl
          go_wp2
          go_roundw
          case rel => exact ⟨i + 1, by omega, by go_num, by rw [HV.out], by first | rfl | trivial⟩
          case measure => simp [intOf]; omega
      · obtain rfl : i = xs.length := by omega
        rw [List.take_length]
        go_wp2
        go_ret
        first | exact ⟨rfl, 0, rfl⟩ | exact ⟨0, rfl⟩
  · have h2 : xs = [] := List.eq_nil_of_length_eq_zero (by omega)
    subst h2
    obtain ⟨A, ca, rfl, _, _⟩ := h
    go_enter Try.func105, Try.ntmps105
    go_wp2
    refine wp_loop_rounds 1 ?_
    rw [rounds_succ]
    go_wp2
    go_ret
    first | exact ⟨rfl, 0, rfl⟩ | exact ⟨0, rfl⟩
set_option maxHeartbeats 1000000 in
theorem c_implMissing {w : World} {v : Value} {xs : List Int} {k : Int} (h : RK kInt w v xs) (hl : xs.length ≤ 16777216) :
    Calls Try.prog 70 #[v, .int .i64 k] w fun e w' => e = .returned (.int .i64 (missV xs k)) ∧ ∃ n, w' = w.drewN n := by
  have lx := RK_len h
  have wl : IntKind.i64.wrap ((xs.length : Int) - 1) = (xs.length : Int) - 1 := IntWalk.i64_in _ (by omega)
  by_cases hk : inR k 0 ((xs.length : Int) - 1) = true
  · have hk2 : 0 ≤ k ∧ k < (xs.length : Int) := by simp [inR] at hk; omega
    obtain ⟨q, rfl⟩ : ∃ q : Nat, k = (q : Int) := ⟨k.toNat, by omega⟩
    have hq : q < xs.length := by omega
    obtain ⟨ad, cap, rfl, hc⟩ := ints_at h (by omega)
    have hx : xs[q]? = some xs[q] := List.getElem?_eq_getElem hq
    have HV := Aside0.mk (show missV xs (q : Int) = Go.bits .xor .i64 (xorL 0 xs) xs[q] by unfold missV; have := skipL_in xs 0 0 q W64_zero hq; rwa [Nat.zero_add] at this)
    generalize xs[q] = x at *
    have ca := hc q x hx
    have CA := Aside0.mk ca
    have H := Aside0.mk h
    have q0 : (0 : Int) ≤ (q : Int) := by omega
    have ql : (q : Int) < (xs.length : Int) := by omega
    clear h hc hx ca hk2
    go_enter Try.func70, Try.ntmps70
    go_wp2_with (first
      | (go_at_call 107; refine (c_implXorOf H.out).mono ?_; rintro e w1 ⟨rfl, n1, rfl⟩)
      | (go_at_call 41; refine (c_within _ _ _ _).mono ?_; rw [hk]; rintro e w2 ⟨rfl, n2, rfl⟩; have ca := CA.out)
      | fail)
    go_ret
    exact ⟨ret_int HV.out.symm, _, by first | rfl | exact World.drewN_drewN _ _ _⟩
  · simp only [Bool.not_eq_true] at hk
    have HV := Aside0.mk (show missV xs k = xorL 0 xs by unfold missV; exact skipL_out xs 0 0 k (by simp [inR] at hk; omega))
    obtain ⟨A, ca, rfl, _, _⟩ := id h
    have H := Aside0.mk h
    clear h
    go_enter Try.func70, Try.ntmps70
    go_wp2_with (first
      | (go_at_call 107; refine (c_implXorOf H.out).mono ?_; rintro e w1 ⟨rfl, n1, rfl⟩)
      | (go_at_call 41; refine (c_within _ _ _ _).mono ?_; rw [hk]; rintro e w2 ⟨rfl, n2, rfl⟩)
      | fail)
    go_ret
    exact ⟨ret_int HV.out.symm, _, by first | rfl | exact World.drewN_drewN _ _ _⟩
theorem c_implDataAt (n : Int) (w : World) : Calls Try.prog 61 #[.int .i64 n] w fun e w' => e = .returned (.int .i64 (dataV n)) ∧ ∃ n, w' = w.drewN n := by
  by_cases hk : inR n 0 1099511627776 = true
  · have hk2 : 0 ≤ n ∧ n ≤ 1099511627776 := by simp [inR] at hk; omega
    have HV := Aside0.mk (show dataV n = n + 2 + 4 by unfold dataV; rw [if_pos hk]; omega)
    go_enter Try.func61, Try.ntmps61
    go_wp2_with (first | (go_at_call 41; refine (c_within _ _ _ _).mono ?_; rw [hk]; rintro e w2 ⟨rfl, n2, rfl⟩) | fail)
    go_ret
    exact ⟨ret_int HV.out.symm, _, rfl⟩
  · simp only [Bool.not_eq_true] at hk
    have HV := Aside0.mk (show dataV n = -1 by unfold dataV; rw [hk]; rfl)
    go_enter Try.func61, Try.ntmps61
    go_wp2_with (first | (go_at_call 41; refine (c_within _ _ _ _).mono ?_; rw [hk]; rintro e w2 ⟨rfl, n2, rfl⟩) | fail)
    go_ret
    exact ⟨ret_int HV.out.symm, _, rfl⟩
theorem c_specDataAt (n : Int) (w : World) : Calls Try.prog 56 #[.int .i64 n] w fun e w' => e = .returned (.int .i64 (dataV n)) ∧ ∃ n, w' = w.drewN n := by
  by_cases hk : inR n 0 1099511627776 = true
  · have hk2 : 0 ≤ n ∧ n ≤ 1099511627776 := by simp [inR] at hk; omega
    have HV := Aside0.mk (show dataV n = n + 2 + 4 by unfold dataV; rw [if_pos hk]; omega)
    go_enter Try.func56, Try.ntmps56
    go_wp2_with (first | (go_at_call 38; refine (c_l1In _ _ _ _).mono ?_; rw [hk]; rintro e w2 ⟨rfl, n2, rfl⟩) | fail)
    go_ret
    exact ⟨ret_int HV.out.symm, _, rfl⟩
  · simp only [Bool.not_eq_true] at hk
    have HV := Aside0.mk (show dataV n = -1 by unfold dataV; rw [hk]; rfl)
    go_enter Try.func56, Try.ntmps56
    go_wp2_with (first | (go_at_call 38; refine (c_l1In _ _ _ _).mono ?_; rw [hk]; rintro e w2 ⟨rfl, n2, rfl⟩) | fail)
    go_ret
    exact ⟨ret_int HV.out.symm, _, rfl⟩
end Go.Proofs.Ytggmifnblcjdfaa.AXor
