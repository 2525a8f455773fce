/- Texts in one: AXor, AWord, AWords, AGeo, AData. -/
import Derived.Test.YtggmifnblcjdfaaAKinds
import Derived.Test.YtggmifnblcjdfaaMInt
import Derived.Test.YtggmifnblcjdfaaAOk
import Derived.Test.YtggmifnblcjdfaaALive
import Derived.Test.YtggmifnblcjdfaaMReadS
import Derived.Test.YtggmifnblcjdfaaAOkA
import Derived.Test.YtggmifnblcjdfaaAOkI
/- Xor of words; where data lie. Printed by mkaxor.py. -/
namespace Go.Proofs.Ytggmifnblcjdfaa.AXor
open Go.RowKit Go.Proofs.YtggmifnblcjdfaaW.PrintWords Go.Proofs.Ytggmifnblcjdfaa.Fp Go.Proofs.Ytggmifnblcjdfaa.MInt Go.Proofs.Ytggmifnblcjdfaa.MKinds Go.Proofs.Ytggmifnblcjdfaa.MRead Go.Proofs.Ytggmifnblcjdfaa.MMake Go.Proofs.Ytggmifnblcjdfaa.MPut Go.Proofs.Ytggmifnblcjdfaa.MHeld Go.Proofs.Ytggmifnblcjdfaa.Sep Go.Proofs.Ytggmifnblcjdfaa.AKinds
set_option linter.unusedVariables false
set_option linter.unusedSimpArgs false
/-! ### xor of 64-bit numbers -/
def W64 (x : Int) : Prop := -9223372036854775808 ≤ x ∧ x ≤ 9223372036854775807
theorem bx_eq (x y : Int) : Go.bits .xor .i64 x y = (BitVec.ofInt 64 x ^^^ BitVec.ofInt 64 y).toInt := by
  have h : Go.bits .xor .i64 x y = IntKind.i64.wrap ((BitVec.ofInt 64 x ^^^ BitVec.ofInt 64 y).toNat : Int) := rfl
  rw [h, IntKind.wrap_i64, BitVec.toInt_eq_toNat_cond]
  have := (BitVec.ofInt 64 x ^^^ BitVec.ofInt 64 y).isLt
  split <;> omega
theorem ofInt_bx (x y : Int) : BitVec.ofInt 64 (Go.bits .xor .i64 x y) = BitVec.ofInt 64 x ^^^ BitVec.ofInt 64 y := by
  rw [bx_eq, BitVec.ofInt_toInt]
theorem toInt_ofInt64 {x : Int} (h : W64 x) : (BitVec.ofInt 64 x).toInt = x := by
  rw [BitVec.toInt_ofInt]
  have := h.1; have := h.2
  rw [Int.bmod_def]
  omega
theorem W64_toInt (v : BitVec 64) : W64 v.toInt := by
  rw [BitVec.toInt_eq_toNat_cond]
  have := v.isLt
  unfold W64
  split <;> omega
theorem W64_bx (x y : Int) : W64 (Go.bits .xor .i64 x y) := by rw [bx_eq]; exact W64_toInt _
theorem W64_zero : W64 0 := by unfold W64; omega
def xorL (a : Int) (l : List Int) : Int := l.foldl (fun x n => Go.bits .xor .i64 x n) a
def xv (l : List Int) : BitVec 64 := l.foldr (fun n v => BitVec.ofInt 64 n ^^^ v) 0
theorem xorL_cons (a n : Int) (l : List Int) : xorL a (n :: l) = xorL (Go.bits .xor .i64 a n) l := rfl
theorem xorL_xv : ∀ (l : List Int) (a : Int), W64 a → xorL a l = (BitVec.ofInt 64 a ^^^ xv l).toInt
  | [], a, h => by show a = _; simp [xv, toInt_ofInt64 h]
  | n :: l, a, h => by
    rw [xorL_cons, xorL_xv l _ (W64_bx a n), ofInt_bx, BitVec.xor_assoc]; rfl
theorem W64_xorL {a : Int} (h : W64 a) (l : List Int) : W64 (xorL a l) := by rw [xorL_xv l a h]; exact W64_toInt _
theorem xor_back (a b : BitVec 64) : (a ^^^ b) ^^^ b = a := by rw [BitVec.xor_assoc, BitVec.xor_self, BitVec.xor_zero]
/-- All but the k-th (i: the place of the first). -/
def skipL : Int → List Int → Nat → Int → Int
  | a, [], _, _ => a
  | a, n :: l, i, k => if (i : Int) = k then skipL a l (i + 1) k else skipL (Go.bits .xor .i64 a n) l (i + 1) k
theorem skipL_out : ∀ (l : List Int) (a : Int) (i : Nat) (k : Int), (k < i ∨ (i : Int) + l.length ≤ k) → skipL a l i k = xorL a l
  | [], a, i, k, _ => rfl
  | n :: l, a, i, k, h => by
    rw [List.length_cons] at h
    rw [skipL, if_neg (by omega), skipL_out l _ (i + 1) k (by omega), xorL_cons]
theorem skip_alg (a n v : BitVec 64) : a ^^^ n ^^^ v ^^^ n = a ^^^ v := by
  rw [BitVec.xor_assoc a, BitVec.xor_comm n, ← BitVec.xor_assoc, xor_back]
theorem skipL_in (l : List Int) : ∀ (a : Int) (i : Nat) (k : Nat), W64 a → (h : k < l.length) → skipL a l i ((i + k : Nat) : Int) = Go.bits .xor .i64 (xorL a l) l[k] := by
  induction l with
  | nil => intro a i k _ h; simp at h
  | cons n l ih =>
    intro a i k w h
    cases k with
    | zero =>
      rw [skipL, if_pos (by omega), skipL_out l a (i + 1) _ (by omega), List.getElem_cons_zero, xorL_cons, bx_eq (xorL _ l), xorL_xv _ _ (W64_bx _ _), BitVec.ofInt_toInt, ofInt_bx, xorL_xv _ _ w, skip_alg]
    | succ k =>
      have h' : k < l.length := by simpa using h
      rw [skipL, if_neg (by omega), show ((i + (k + 1) : Nat) : Int) = ((i + 1 + k : Nat) : Int) by omega, ih _ (i + 1) k (W64_bx _ _) h', xorL_cons, List.getElem_cons_succ]
theorem bx_back {x : Int} (h : W64 x) (n : Int) : Go.bits .xor .i64 (Go.bits .xor .i64 x n) n = x := by
  rw [bx_eq (Go.bits .xor .i64 x n), ofInt_bx, xor_back, toInt_ofInt64 h]
theorem bx_zero {x : Int} (h : W64 x) : Go.bits .xor .i64 0 x = x := by
  rw [bx_eq, show BitVec.ofInt 64 0 = 0 from rfl]
  simp [toInt_ofInt64 h]
theorem xorL_append (a : Int) (l m : List Int) : xorL a (l ++ m) = xorL (xorL a l) m := by simp [xorL]

theorem skipL_snoc : ∀ (l : List Int) (a : Int) (i : Nat) (k x : Int), skipL a (l ++ [x]) i k = if ((i + l.length : Nat) : Int) = k then skipL a l i k else Go.bits .xor .i64 (skipL a l i k) x
  | [], a, i, k, x => by simp [skipL]
  | n :: l, a, i, k, x => by
    rw [List.cons_append, skipL, skipL]
    split
    · rw [skipL_snoc l a (i + 1) k x, List.length_cons, show i + 1 + l.length = i + (l.length + 1) by omega]
    · rw [skipL_snoc l _ (i + 1) k x, List.length_cons, show i + 1 + l.length = i + (l.length + 1) by omega]
def missV (l : List Int) (k : Int) : Int := skipL 0 l 0 k
def dataV (n : Int) : Int := if inR n 0 1099511627776 then n + 6 else -1
theorem snoc_take {l : List Int} {i : Nat} {x : Int} (h : l[i]? = some x) : l.take (i + 1) = l.take i ++ [x] := by
  obtain ⟨h4, h5⟩ := List.getElem?_eq_some_iff.1 h
  rw [List.take_succ_eq_append_getElem h4, h5]
set_option maxHeartbeats 1000000 in
set_option maxRecDepth 100000 in
theorem c_implXorOf {w : World} {v : Value} {xs : List Int} (h : RK kInt w v xs) :
    Calls Try.prog 107 #[v] w fun e w' => e = .returned (.int .i64 (xorL 0 xs)) ∧ ∃ n, w' = w.drewN n := by
  have lx := RK_len h
  by_cases hn : 0 < xs.length
  · obtain ⟨ad, cap, rfl, hc⟩ := ints_at h hn
    have Hc := Aside0.mk hc
    clear h hc
    go_enter Try.func107, Try.ntmps107
    go_wp2
    go_loopw [3, 8] (fun va vi wr => ∃ i : Nat, i ≤ xs.length ∧ vi = .int .i64 i ∧ va = .int .i64 (xorL 0 (xs.take i)) ∧ wr = w) (fun _ vi _ => xs.length - (intOf vi).toNat)
    case atStart => exact ⟨0, by omega, rfl, rfl, rfl⟩
    case round =>
      obtain ⟨i, hi, rfl, rfl, rfl⟩ := hrel
      by_cases hlt : i < xs.length
      · obtain ⟨x, hxi⟩ : ∃ x, xs[i]? = some x := ⟨_, List.getElem?_eq_getElem hlt⟩
        have ca := Hc.out i x hxi
        have Hs := Aside0.mk (snoc_take hxi)
        clear hxi
        go_wp2
        go_roundw
        case rel => exact ⟨i + 1, by omega, by go_num, by rw [Hs.out, xorL_append]; rfl, by first | rfl | trivial⟩
        case measure => simp [intOf]; omega
      · obtain rfl : i = xs.length := by omega
        rw [List.take_length]
        go_wp2
        go_ret
        first | exact ⟨rfl, 0, rfl⟩ | exact ⟨0, rfl⟩
  · have h2 : xs = [] := List.eq_nil_of_length_eq_zero (by omega)
    subst h2
    obtain ⟨A, ca, rfl, _, _⟩ := h
    go_enter Try.func107, Try.ntmps107
    go_wp2
    refine wp_loop_rounds 1 ?_
    rw [rounds_succ]
    go_wp2
    go_ret
    first | exact ⟨rfl, 0, rfl⟩ | exact ⟨0, rfl⟩
set_option maxHeartbeats 1000000 in
set_option maxRecDepth 100000 in
theorem c_specMissing {w : World} {v : Value} {xs : List Int} {k : Int} (h : RK kInt w v xs) :
    Calls Try.prog 105 #[v, .int .i64 k] w fun e w' => e = .returned (.int .i64 (missV xs k)) ∧ ∃ n, w' = w.drewN n := by
  have lx := RK_len h
  by_cases hn : 0 < xs.length
  · obtain ⟨ad, cap, rfl, hc⟩ := ints_at h hn
    have Hc := Aside0.mk hc
    clear h hc
    go_enter Try.func105, Try.ntmps105
    go_wp2
    go_loopw [5, 6] (fun va vi wr => ∃ i : Nat, i ≤ xs.length ∧ vi = .int .i64 i ∧ va = .int .i64 (skipL 0 (xs.take i) 0 k) ∧ wr = w) (fun _ vi _ => xs.length - (intOf vi).toNat)
    case atStart => exact ⟨0, by omega, rfl, rfl, rfl⟩
    case round =>
      obtain ⟨i, hi, rfl, rfl, rfl⟩ := hrel
      by_cases hlt : i < xs.length
      · obtain ⟨x, hxi⟩ : ∃ x, xs[i]? = some x := ⟨_, List.getElem?_eq_getElem hlt⟩
        have ca := Hc.out i x hxi
        have Hs := Aside0.mk (snoc_take hxi)
        clear hxi
        by_cases hk : (i : Int) = k
        · subst hk
          have hl : (xs.take i).length = i := by simp; omega
          have HV := Aside0.mk (show skipL 0 (xs.take (i + 1)) 0 (i : Int) = skipL 0 (xs.take i) 0 (i : Int) by rw [Hs.out, skipL_snoc, if_pos (by omega)])
          clear hl
          go_wp2
          go_roundw
          case rel => exact ⟨i + 1, by omega, by go_num, by rw [HV.out], by first | rfl | trivial⟩
          case measure => simp [intOf]; omega
        · have hl : (xs.take i).length = i := by simp; omega
          have HV := Aside0.mk (show skipL 0 (xs.take (i + 1)) 0 k = Go.bits .xor .i64 (skipL 0 (xs.take i) 0 k) x by rw [Hs.out, skipL_snoc, if_neg (by omega)])
          clear hl
          go_wp2
          go_roundw
          case rel => exact ⟨i + 1, by omega, by go_num, by rw [HV.out], by first | rfl | trivial⟩
          case measure => simp [intOf]; omega
      · obtain rfl : i = xs.length := by omega
        rw [List.take_length]
        go_wp2
        go_ret
        first | exact ⟨rfl, 0, rfl⟩ | exact ⟨0, rfl⟩
  · have h2 : xs = [] := List.eq_nil_of_length_eq_zero (by omega)
    subst h2
    obtain ⟨A, ca, rfl, _, _⟩ := h
    go_enter Try.func105, Try.ntmps105
    go_wp2
    refine wp_loop_rounds 1 ?_
    rw [rounds_succ]
    go_wp2
    go_ret
    first | exact ⟨rfl, 0, rfl⟩ | exact ⟨0, rfl⟩
set_option maxHeartbeats 1000000 in
theorem c_implMissing {w : World} {v : Value} {xs : List Int} {k : Int} (h : RK kInt w v xs) (hl : xs.length ≤ 16777216) :
    Calls Try.prog 70 #[v, .int .i64 k] w fun e w' => e = .returned (.int .i64 (missV xs k)) ∧ ∃ n, w' = w.drewN n := by
  have lx := RK_len h
  have wl : IntKind.i64.wrap ((xs.length : Int) - 1) = (xs.length : Int) - 1 := IntWalk.i64_in _ (by omega)
  by_cases hk : inR k 0 ((xs.length : Int) - 1) = true
  · have hk2 : 0 ≤ k ∧ k < (xs.length : Int) := by simp [inR] at hk; omega
    obtain ⟨q, rfl⟩ : ∃ q : Nat, k = (q : Int) := ⟨k.toNat, by omega⟩
    have hq : q < xs.length := by omega
    obtain ⟨ad, cap, rfl, hc⟩ := ints_at h (by omega)
    have hx : xs[q]? = some xs[q] := List.getElem?_eq_getElem hq
    have HV := Aside0.mk (show missV xs (q : Int) = Go.bits .xor .i64 (xorL 0 xs) xs[q] by unfold missV; have := skipL_in xs 0 0 q W64_zero hq; rwa [Nat.zero_add] at this)
    generalize xs[q] = x at *
    have ca := hc q x hx
    have CA := Aside0.mk ca
    have H := Aside0.mk h
    have q0 : (0 : Int) ≤ (q : Int) := by omega
    have ql : (q : Int) < (xs.length : Int) := by omega
    clear h hc hx ca hk2
    go_enter Try.func70, Try.ntmps70
    go_wp2_with (first
      | (go_at_call 107; refine (c_implXorOf H.out).mono ?_; rintro e w1 ⟨rfl, n1, rfl⟩)
      | (go_at_call 41; refine (c_within _ _ _ _).mono ?_; rw [hk]; rintro e w2 ⟨rfl, n2, rfl⟩; have ca := CA.out)
      | fail)
    go_ret
    exact ⟨ret_int HV.out.symm, _, by first | rfl | exact World.drewN_drewN _ _ _⟩
  · simp only [Bool.not_eq_true] at hk
    have HV := Aside0.mk (show missV xs k = xorL 0 xs by unfold missV; exact skipL_out xs 0 0 k (by simp [inR] at hk; omega))
    obtain ⟨A, ca, rfl, _, _⟩ := id h
    have H := Aside0.mk h
    clear h
    go_enter Try.func70, Try.ntmps70
    go_wp2_with (first
      | (go_at_call 107; refine (c_implXorOf H.out).mono ?_; rintro e w1 ⟨rfl, n1, rfl⟩)
      | (go_at_call 41; refine (c_within _ _ _ _).mono ?_; rw [hk]; rintro e w2 ⟨rfl, n2, rfl⟩)
      | fail)
    go_ret
    exact ⟨ret_int HV.out.symm, _, by first | rfl | exact World.drewN_drewN _ _ _⟩
theorem c_implDataAt (n : Int) (w : World) : Calls Try.prog 61 #[.int .i64 n] w fun e w' => e = .returned (.int .i64 (dataV n)) ∧ ∃ n, w' = w.drewN n := by
  by_cases hk : inR n 0 1099511627776 = true
  · have hk2 : 0 ≤ n ∧ n ≤ 1099511627776 := by simp [inR] at hk; omega
    have HV := Aside0.mk (show dataV n = n + 2 + 4 by unfold dataV; rw [if_pos hk]; omega)
    go_enter Try.func61, Try.ntmps61
    go_wp2_with (first | (go_at_call 41; refine (c_within _ _ _ _).mono ?_; rw [hk]; rintro e w2 ⟨rfl, n2, rfl⟩) | fail)
    go_ret
    exact ⟨ret_int HV.out.symm, _, rfl⟩
  · simp only [Bool.not_eq_true] at hk
    have HV := Aside0.mk (show dataV n = -1 by unfold dataV; rw [hk]; rfl)
    go_enter Try.func61, Try.ntmps61
    go_wp2_with (first | (go_at_call 41; refine (c_within _ _ _ _).mono ?_; rw [hk]; rintro e w2 ⟨rfl, n2, rfl⟩) | fail)
    go_ret
    exact ⟨ret_int HV.out.symm, _, rfl⟩
theorem c_specDataAt (n : Int) (w : World) : Calls Try.prog 56 #[.int .i64 n] w fun e w' => e = .returned (.int .i64 (dataV n)) ∧ ∃ n, w' = w.drewN n := by
  by_cases hk : inR n 0 1099511627776 = true
  · have hk2 : 0 ≤ n ∧ n ≤ 1099511627776 := by simp [inR] at hk; omega
    have HV := Aside0.mk (show dataV n = n + 2 + 4 by unfold dataV; rw [if_pos hk]; omega)
    go_enter Try.func56, Try.ntmps56
    go_wp2_with (first | (go_at_call 38; refine (c_l1In _ _ _ _).mono ?_; rw [hk]; rintro e w2 ⟨rfl, n2, rfl⟩) | fail)
    go_ret
    exact ⟨ret_int HV.out.symm, _, rfl⟩
  · simp only [Bool.not_eq_true] at hk
    have HV := Aside0.mk (show dataV n = -1 by unfold dataV; rw [hk]; rfl)
    go_enter Try.func56, Try.ntmps56
    go_wp2_with (first | (go_at_call 38; refine (c_l1In _ _ _ _).mono ?_; rw [hk]; rintro e w2 ⟨rfl, n2, rfl⟩) | fail)
    go_ret
    exact ⟨ret_int HV.out.symm, _, rfl⟩
end Go.Proofs.Ytggmifnblcjdfaa.AXor

/- The word of a disk of a stripe, of both. Printed by mkaxor.py. -/
namespace Go.Proofs.Ytggmifnblcjdfaa.AWord
open Go.RowKit Go.Proofs.Ytggmifnblcjdfaa.RJ Go.Proofs.Ytggmifnblcjdfaa.RP Go.Proofs.YtggmifnblcjdfaaW.PrintWords Go.Proofs.Ytggmifnblcjdfaa.Fp Go.Proofs.Ytggmifnblcjdfaa.FpStep Go.Proofs.Ytggmifnblcjdfaa.MInt Go.Proofs.Ytggmifnblcjdfaa.MKinds Go.Proofs.Ytggmifnblcjdfaa.MRead Go.Proofs.Ytggmifnblcjdfaa.MMake Go.Proofs.Ytggmifnblcjdfaa.MPut Go.Proofs.Ytggmifnblcjdfaa.MHeld Go.Proofs.Ytggmifnblcjdfaa.MOk Go.Proofs.Ytggmifnblcjdfaa.MSuper Go.Proofs.Ytggmifnblcjdfaa.Sep Go.Proofs.Ytggmifnblcjdfaa.SepStep Go.Proofs.Ytggmifnblcjdfaa.AKinds Go.Proofs.Ytggmifnblcjdfaa.AMake Go.Proofs.Ytggmifnblcjdfaa.AEnt Go.Proofs.Ytggmifnblcjdfaa.ALaw Go.Proofs.Ytggmifnblcjdfaa.AArr Go.Proofs.Ytggmifnblcjdfaa.AOk Go.Proofs.Ytggmifnblcjdfaa.MVal Go.Proofs.Ytggmifnblcjdfaa.MReadS Go.Proofs.Ytggmifnblcjdfaa.ALive Go.Proofs.Ytggmifnblcjdfaa.AXor
set_option linter.unusedVariables false
set_option linter.unusedSimpArgs false
/-- What a disk holds of a stripe, and whether it is there. -/
def wordOk (a : ArrV) (q : Nat) (s : Int) : Bool := liveB a (q : Int) s && (canRead (a.mems.getD q noMem) (dataV s) && (readV (a.mems.getD q noMem) (dataV s)).length == 1)
def wordV (a : ArrV) (q : Nat) (s : Int) : Int × Bool := if wordOk a q s then ((readV (a.mems.getD q noMem) (dataV s)).getD 0 0, true) else (0, false)
theorem wordV_no {a : ArrV} {q : Nat} {s : Int} (h : wordOk a q s = false) : wordV a q s = (0, false) := by unfold wordV; rw [h]; rfl
theorem World_add0 (ad : Addr) : ad.add 0 = ad := by cases ad; rfl
set_option maxHeartbeats 4000000 in
set_option maxRecDepth 100000 in
theorem c_implWordAt {w : World} {v : Value} {a : ArrV} {q : Nat} {s : Int} (h : ArrR w v a) (hsm : SmallA a) (hq : q < a.mems.length) :
    Calls Try.prog 69 #[v, .int .i64 (q : Int), .int .i64 s] w fun e w' => e = .returned (.tuple #[.int .i64 (wordV a q s).1, .bool (wordV a q s).2]) ∧ Below w.heap.size w w' := by
  have H := Aside0.mk h
  have HSM := Aside0.mk hsm
  obtain ⟨vm, vd, rfl, r1, r2⟩ := h
  obtain ⟨ad, cap, rfl, hc⟩ := RK_mems r1 (by omega)
  obtain ⟨x, hx⟩ : ∃ x, a.mems[q]? = some x := ⟨_, List.getElem?_eq_getElem hq⟩
  obtain ⟨B1, d1, B2, d2, B3, d3, x0, x1, x2, x3, hM⟩ := hc q x hx
  have HX := Aside0.mk (show a.mems.getD q noMem = x by rw [List.getD_eq_getElem?_getD, hx]; rfl)
  have hxs := hsm.2.1 x (List.mem_of_getElem? hx)
  have HXS := Aside0.mk hxs
  have RM := Aside0.mk hM
  have lm := RK_len r1
  have i0 : (0 : Int) ≤ (q : Int) := by omega
  have il : (q : Int) < (a.mems.length : Int) := by omega
  have hs0 := (Sep.start w []).alloc (g := w.heap.size) rfl (arrC a (.slice (some ad) a.mems.length cap) vd) 34
  replace x0 := hs0.old x0
  replace x1 := hs0.old x1
  replace x2 := hs0.old x2
  replace x3 := hs0.old x3
  have H0 := Aside0.mk hs0
  clear hs0 hc hM r1 r2 hsm hxs hx
  generalize hxf : x.failed = xf at *
  have HXF := Aside0.mk hxf
  clear hxf
  generalize hlv : liveB a (q : Int) s = lv
  have HLV := Aside0.mk hlv
  clear hlv
  generalize hcr : canRead x (dataV s) = cr
  have HCR := Aside0.mk hcr
  clear hcr
  generalize hrd : readV x (dataV s) = rd
  have HRD := Aside0.mk hrd
  clear hrd
  have HNO : ∀ b, (lv && (cr && rd.length == 1)) = b → wordOk a q s = b := fun b hb => by unfold wordOk; rw [HX.out, HLV.out, HCR.out, HRD.out]; exact hb
  replace HNO := Aside0.mk HNO
  have HYES : wordOk a q s = true → wordV a q s = (rd.getD 0 0, true) := fun h => by unfold wordV; rw [if_pos h, HX.out, HRD.out]
  replace HYES := Aside0.mk HYES
  obtain ⟨id, gn, gs, mems, lost, built, seq, tail, gen, dirty, fuse, down, broken⟩ := a
  simp only [arrC] at *
  obtain ⟨k0, k1, k2, k3, k4, k5, k6, k7, k8, k9, k10, k11, k12⟩ := thirteen (H0.out.get 0 rfl)
  go_enter Try.func69, Try.ntmps69
  go_upto_region 1 with fail
  have HM := H0
  generalize hwm : w.alloc (.cells #[.int .i64 id, .int .i64 gn, .int .i64 gs, .slice (some ad) mems.length cap, .int .i64 lost, .int .i64 built, .int .i64 seq, .int .i64 tail, .int .i64 gen, vd, .int .i64 fuse, .bool down, .bool broken] 34 (0, 0)) = wm at *
  clear hwm
  have HALL : ∀ w' : World, Below wm.heap.size wm w' → (w'.cell? ⟨w.heap.size, 0, none⟩ = some (.int .i64 id) ∧ w'.cell? ⟨w.heap.size, 1, none⟩ = some (.int .i64 gn) ∧ w'.cell? ⟨w.heap.size, 2, none⟩ = some (.int .i64 gs) ∧ w'.cell? ⟨w.heap.size, 3, none⟩ = some (.slice (some ad) mems.length cap) ∧ w'.cell? ⟨w.heap.size, 4, none⟩ = some (.int .i64 lost) ∧ w'.cell? ⟨w.heap.size, 5, none⟩ = some (.int .i64 built) ∧ w'.cell? ⟨w.heap.size, 6, none⟩ = some (.int .i64 seq) ∧ w'.cell? ⟨w.heap.size, 7, none⟩ = some (.int .i64 tail) ∧ w'.cell? ⟨w.heap.size, 8, none⟩ = some (.int .i64 gen) ∧ w'.cell? ⟨w.heap.size, 9, none⟩ = some (vd) ∧ w'.cell? ⟨w.heap.size, 10, none⟩ = some (.int .i64 fuse) ∧ w'.cell? ⟨w.heap.size, 11, none⟩ = some (.bool down) ∧ w'.cell? ⟨w.heap.size, 12, none⟩ = some (.bool broken) ∧ w'.cell? (ad.add (q * 4)) = some (.slice B1 x.secs.length d1) ∧ w'.cell? ⟨(ad.add (q * 4)).block, (ad.add (q * 4)).off + 1, none⟩ = some (.slice B2 x.cache.length d2) ∧ w'.cell? ⟨(ad.add (q * 4)).block, (ad.add (q * 4)).off + 2, none⟩ = some (.bool xf) ∧ w'.cell? ⟨(ad.add (q * 4)).block, (ad.add (q * 4)).off + 3, none⟩ = some (.slice B3 x.bad.length d3)) := fun w' hb => ⟨(hb.cell (lt_of_cell k0)).trans k0, (hb.cell (lt_of_cell k1)).trans k1, (hb.cell (lt_of_cell k2)).trans k2, (hb.cell (lt_of_cell k3)).trans k3, (hb.cell (lt_of_cell k4)).trans k4, (hb.cell (lt_of_cell k5)).trans k5, (hb.cell (lt_of_cell k6)).trans k6, (hb.cell (lt_of_cell k7)).trans k7, (hb.cell (lt_of_cell k8)).trans k8, (hb.cell (lt_of_cell k9)).trans k9, (hb.cell (lt_of_cell k10)).trans k10, (hb.cell (lt_of_cell k11)).trans k11, (hb.cell (lt_of_cell k12)).trans k12, (hb.cell (lt_of_cell x0)).trans x0, (hb.cell (lt_of_cell x1)).trans x1, (hb.cell (lt_of_cell x2)).trans x2, (hb.cell (lt_of_cell x3)).trans x3⟩
  replace HALL := Aside0.mk HALL
  clear x0 x1 x2 x3 k0 k1 k2 k3 k4 k5 k6 k7 k8 k9 k10 k11 k12
  refine wp_region_seqp (fun w' => Below wm.heap.size wm w') [] [(0, 2), (2, 2), (5, 2), (1, 1), (3, 2), (4, 1), (6, 0), (7, 0), (8, 2), (9, 2), (10, 2), (11, 0), (12, 0)] (by kernel_rfl) (by kernel_rfl) ?_
  have hS : Below wm.heap.size wm wm.drew := Below.drew (Below.refl _ _)
  repeat (first | (refine seqp_pure rfl (fun _ _ _ h => h) (by rfl) (fun w_ => by go_simp; first | done | with_reducible rfl) ?_; (try simp only [Act.put, List.getElem_toArray, List.getElem_cons_succ, List.getElem_cons_zero, List.setIfInBounds_toArray, List.set_cons_zero, List.set_cons_succ])) | (refine seqp_take hS rfl (fun _ _ _ h => h) (by rfl) (fun w_ hSw => by have hSc := HALL.out w_ hSw; clear hSw; go_simp; first | done | with_reducible rfl) ?_; (try simp only [Act.put, List.getElem_toArray, List.getElem_cons_succ, List.getElem_cons_zero, List.setIfInBounds_toArray, List.set_cons_zero, List.set_cons_succ])) | (refine seqp_skip2 rfl (fun _ _ _ h => h) (by rfl) ?_; (try simp only [Act.put, List.getElem_toArray, List.getElem_cons_succ, List.getElem_cons_zero, List.setIfInBounds_toArray, List.set_cons_zero, List.set_cons_succ])) | (refine seqp_skip1 hS rfl (fun _ _ _ h => h) (by rfl) ?_; (try simp only [Act.put, List.getElem_toArray, List.getElem_cons_succ, List.getElem_cons_zero, List.setIfInBounds_toArray, List.set_cons_zero, List.set_cons_succ])) | (refine seqp_skip0 rfl (by rfl) ?_; (try simp only [Act.put, List.getElem_toArray, List.getElem_cons_succ, List.getElem_cons_zero, List.setIfInBounds_toArray, List.set_cons_zero, List.set_cons_succ])))
  refine seqp_step rfl (fun K hK => ?_)
  go_simp
  go_at_call 61; refine (c_implDataAt _ _).mono ?_; rintro e w3 ⟨rfl, hb⟩; replace hb := below_drawn hb
  replace hS := hS.trans (hb.mono hS.size); clear hb; refine hK.out _ _ ⟨fun _ _ => hS, ?_⟩; clear hK K; (try simp only [Act.put, List.getElem_toArray, List.getElem_cons_succ, List.getElem_cons_zero, List.setIfInBounds_toArray, List.set_cons_zero, List.set_cons_succ])
  repeat (first | (refine seqp_pure rfl (fun _ _ _ h => h) (by rfl) (fun w_ => by go_simp; first | done | with_reducible rfl) ?_; (try simp only [Act.put, List.getElem_toArray, List.getElem_cons_succ, List.getElem_cons_zero, List.setIfInBounds_toArray, List.set_cons_zero, List.set_cons_succ])) | (refine seqp_take hS rfl (fun _ _ _ h => h) (by rfl) (fun w_ hSw => by have hSc := HALL.out w_ hSw; clear hSw; go_simp; first | done | with_reducible rfl) ?_; (try simp only [Act.put, List.getElem_toArray, List.getElem_cons_succ, List.getElem_cons_zero, List.setIfInBounds_toArray, List.set_cons_zero, List.set_cons_succ])) | (refine seqp_skip2 rfl (fun _ _ _ h => h) (by rfl) ?_; (try simp only [Act.put, List.getElem_toArray, List.getElem_cons_succ, List.getElem_cons_zero, List.setIfInBounds_toArray, List.set_cons_zero, List.set_cons_succ])) | (refine seqp_skip1 hS rfl (fun _ _ _ h => h) (by rfl) ?_; (try simp only [Act.put, List.getElem_toArray, List.getElem_cons_succ, List.getElem_cons_zero, List.setIfInBounds_toArray, List.set_cons_zero, List.set_cons_succ])) | (refine seqp_skip0 rfl (by rfl) ?_; (try simp only [Act.put, List.getElem_toArray, List.getElem_cons_succ, List.getElem_cons_zero, List.setIfInBounds_toArray, List.set_cons_zero, List.set_cons_succ])))
  refine seqp_step rfl (fun K hK => ?_)
  go_simp
  go_at_call 106; refine (c_implReadSec (MemR_below (RM.out) (HM.out.below hS).toBelow) HXS.out).mono ?_; rw [HCR.out, HRD.out]; rintro e w4 ⟨u, F, rfl, hn⟩; have hs5 := (HM.out.below hS).new hn; have hb := hn.below; obtain ⟨U, uc, rfl, hul⟩ := O_RK (show oInt.O 3 w4 F u rd from hs5.get 0 rfl)
  replace hS := hS.trans (hb.mono hS.size); clear hb; refine hK.out _ _ ⟨fun _ _ => hS, ?_⟩; clear hK K; (try simp only [Act.put, List.getElem_toArray, List.getElem_cons_succ, List.getElem_cons_zero, List.setIfInBounds_toArray, List.set_cons_zero, List.set_cons_succ])
  repeat (first | (refine seqp_pure rfl (fun _ _ _ h => h) (by rfl) (fun w_ => by go_simp; first | done | with_reducible rfl) ?_; (try simp only [Act.put, List.getElem_toArray, List.getElem_cons_succ, List.getElem_cons_zero, List.setIfInBounds_toArray, List.set_cons_zero, List.set_cons_succ])) | (refine seqp_take hS rfl (fun _ _ _ h => h) (by rfl) (fun w_ hSw => by have hSc := HALL.out w_ hSw; clear hSw; go_simp; first | done | with_reducible rfl) ?_; (try simp only [Act.put, List.getElem_toArray, List.getElem_cons_succ, List.getElem_cons_zero, List.setIfInBounds_toArray, List.set_cons_zero, List.set_cons_succ])) | (refine seqp_skip2 rfl (fun _ _ _ h => h) (by rfl) ?_; (try simp only [Act.put, List.getElem_toArray, List.getElem_cons_succ, List.getElem_cons_zero, List.setIfInBounds_toArray, List.set_cons_zero, List.set_cons_succ])) | (refine seqp_skip1 hS rfl (fun _ _ _ h => h) (by rfl) ?_; (try simp only [Act.put, List.getElem_toArray, List.getElem_cons_succ, List.getElem_cons_zero, List.setIfInBounds_toArray, List.set_cons_zero, List.set_cons_succ])) | (refine seqp_skip0 rfl (by rfl) ?_; (try simp only [Act.put, List.getElem_toArray, List.getElem_cons_succ, List.getElem_cons_zero, List.setIfInBounds_toArray, List.set_cons_zero, List.set_cons_succ])))
  refine seqp_step rfl (fun K hK => ?_)
  go_simp
  refine hK.out _ _ ⟨fun _ _ => hS, ?_⟩; clear hK K; (try simp only [Act.put, List.getElem_toArray, List.getElem_cons_succ, List.getElem_cons_zero, List.setIfInBounds_toArray, List.set_cons_zero, List.set_cons_succ])
  refine seqp_step rfl (fun K hK => ?_)
  go_simp
  refine hK.out _ _ ⟨fun _ _ => hS, ?_⟩; clear hK K; (try simp only [Act.put, List.getElem_toArray, List.getElem_cons_succ, List.getElem_cons_zero, List.setIfInBounds_toArray, List.set_cons_zero, List.set_cons_succ])
  clear hS HALL
  have HS := Aside0.mk hs5
  clear hs5 hn hul
  refine seqp_done ?_
  obtain ⟨k0, k1, k2, k3, k4, k5, k6, k7, k8, k9, k10, k11, k12⟩ := thirteen (HS.out.get 1 rfl)
  cases lv
  · go_wp2_with (first
      | (go_at_call 14; refine (c_implLiveAt (ArrR_below H.out HS.out.toBelow)).mono ?_; rw [HLV.out]; rintro e wl ⟨rfl, hb⟩; have hs9 := HS.out.below hb; clear hb HS; have HS := Aside0.mk hs9; clear hs9 k0 k1 k2 k3 k4 k5 k6 k7 k8 k9 k10 k11 k12; obtain ⟨k0, k1, k2, k3, k4, k5, k6, k7, k8, k9, k10, k11, k12⟩ := thirteen (HS.out.get 1 rfl))
      | fail)
    go_ret2
    exact ⟨by (rw [wordV_no (HNO.out _ rfl)]) <;> rfl, HS.out.toBelow⟩
  · cases cr
    · go_wp2_with (first
        | (go_at_call 14; refine (c_implLiveAt (ArrR_below H.out HS.out.toBelow)).mono ?_; rw [HLV.out]; rintro e wl ⟨rfl, hb⟩; have hs9 := HS.out.below hb; clear hb HS; have HS := Aside0.mk hs9; clear hs9 k0 k1 k2 k3 k4 k5 k6 k7 k8 k9 k10 k11 k12; obtain ⟨k0, k1, k2, k3, k4, k5, k6, k7, k8, k9, k10, k11, k12⟩ := thirteen (HS.out.get 1 rfl))
        | fail)
      go_ret2
      exact ⟨by (rw [wordV_no (HNO.out _ rfl)]) <;> rfl, HS.out.toBelow⟩
    · by_cases hl1 : rd.length = 1
      · · obtain ⟨y, hy1⟩ : ∃ y, rd = [y] := List.length_eq_one_iff.1 hl1
          have hl2 : ((rd.length : Int) != 1) = false := by simp [hl1]
          have h0l : (0 : Int) < (rd.length : Int) := by omega
          obtain ⟨ad2, cap2, hA2, hc2⟩ := ints_at (O_RK (show oInt.O 3 w4 F _ rd from HS.out.get 0 rfl)) (by omega)
          obtain rfl := (Value.slice.inj hA2).1
          have hy := hc2 0 y (by rw [hy1]; rfl)
          rw [World_add0] at hy
          have HYV := Aside0.mk (show wordV (⟨id, gn, gs, mems, lost, built, seq, tail, gen, dirty, fuse, down, broken⟩ : ArrV) q s = (y, true) from by rw [HYES.out (HNO.out _ (by rw [hl1]; rfl)), hy1]; rfl)
          have HL1 := Aside0.mk hl1
          have HY := Aside0.mk hy
          clear hl1 hc2 hA2 hy1
          clear hy
          go_wp2_with (first
            | (go_at_call 14; refine (c_implLiveAt (ArrR_below H.out HS.out.toBelow)).mono ?_; rw [HLV.out]; rintro e wl ⟨rfl, hb⟩; have HBL := Aside0.mk hb; have hs9 := HS.out.below hb; clear hb HS; have HS := Aside0.mk hs9; clear hs9 k0 k1 k2 k3 k4 k5 k6 k7 k8 k9 k10 k11 k12; obtain ⟨k0, k1, k2, k3, k4, k5, k6, k7, k8, k9, k10, k11, k12⟩ := thirteen (HS.out.get 1 rfl); have hy := (HBL.out.cell (lt_of_cell HY.out)).trans HY.out)
            | fail)
          go_ret2
          exact ⟨by (rw [HYV.out]) <;> rfl, HS.out.toBelow⟩
      · have hl2 : ((rd.length : Int) != 1) = true := by simp; omega
        have hl3 : (rd.length == 1) = false := by simp [hl1]
        have HL3 := Aside0.mk hl3
        clear hl1 hl3
        go_wp2_with (first
          | (go_at_call 14; refine (c_implLiveAt (ArrR_below H.out HS.out.toBelow)).mono ?_; rw [HLV.out]; rintro e wl ⟨rfl, hb⟩; have hs9 := HS.out.below hb; clear hb HS; have HS := Aside0.mk hs9; clear hs9 k0 k1 k2 k3 k4 k5 k6 k7 k8 k9 k10 k11 k12; obtain ⟨k0, k1, k2, k3, k4, k5, k6, k7, k8, k9, k10, k11, k12⟩ := thirteen (HS.out.get 1 rfl))
          | fail)
        go_ret2
        exact ⟨by (rw [wordV_no (HNO.out _ (by rw [HL3.out]; rfl))]) <;> rfl, HS.out.toBelow⟩
set_option maxHeartbeats 4000000 in
set_option maxRecDepth 100000 in
theorem c_specWord {w : World} {v : Value} {a : ArrV} {q : Nat} {s : Int} (h : ArrR w v a) (hsm : SmallA a) (hq : q < a.mems.length) :
    Calls Try.prog 104 #[v, .int .i64 (q : Int), .int .i64 s] w fun e w' => e = .returned (.tuple #[.int .i64 (wordV a q s).1, .bool (wordV a q s).2]) ∧ Below w.heap.size w w' := by
  have H := Aside0.mk h
  have HSM := Aside0.mk hsm
  obtain ⟨vm, vd, rfl, r1, r2⟩ := h
  obtain ⟨ad, cap, rfl, hc⟩ := RK_mems r1 (by omega)
  obtain ⟨x, hx⟩ : ∃ x, a.mems[q]? = some x := ⟨_, List.getElem?_eq_getElem hq⟩
  obtain ⟨B1, d1, B2, d2, B3, d3, x0, x1, x2, x3, hM⟩ := hc q x hx
  have HX := Aside0.mk (show a.mems.getD q noMem = x by rw [List.getD_eq_getElem?_getD, hx]; rfl)
  have hxs := hsm.2.1 x (List.mem_of_getElem? hx)
  have HXS := Aside0.mk hxs
  have RM := Aside0.mk hM
  have lm := RK_len r1
  have i0 : (0 : Int) ≤ (q : Int) := by omega
  have il : (q : Int) < (a.mems.length : Int) := by omega
  have hs0 := (Sep.start w []).alloc (g := w.heap.size) rfl (arrC a (.slice (some ad) a.mems.length cap) vd) 34
  replace x0 := hs0.old x0
  replace x1 := hs0.old x1
  replace x2 := hs0.old x2
  replace x3 := hs0.old x3
  have H0 := Aside0.mk hs0
  clear hs0 hc hM r1 r2 hsm hxs hx
  generalize hxf : x.failed = xf at *
  have HXF := Aside0.mk hxf
  clear hxf
  generalize hlv : liveB a (q : Int) s = lv
  have HLV := Aside0.mk hlv
  clear hlv
  generalize hcr : canRead x (dataV s) = cr
  have HCR := Aside0.mk hcr
  clear hcr
  generalize hrd : readV x (dataV s) = rd
  have HRD := Aside0.mk hrd
  clear hrd
  have HNO : ∀ b, (lv && (cr && rd.length == 1)) = b → wordOk a q s = b := fun b hb => by unfold wordOk; rw [HX.out, HLV.out, HCR.out, HRD.out]; exact hb
  replace HNO := Aside0.mk HNO
  have HYES : wordOk a q s = true → wordV a q s = (rd.getD 0 0, true) := fun h => by unfold wordV; rw [if_pos h, HX.out, HRD.out]
  replace HYES := Aside0.mk HYES
  obtain ⟨id, gn, gs, mems, lost, built, seq, tail, gen, dirty, fuse, down, broken⟩ := a
  simp only [arrC] at *
  have X0 := Aside0.mk (And.intro x0 (And.intro x1 (And.intro x2 x3)))
  clear x0 x1 x2 x3
  have HS := H0
  obtain ⟨k0, k1, k2, k3, k4, k5, k6, k7, k8, k9, k10, k11, k12⟩ := thirteen (HS.out.get 0 rfl)
  cases lv
  · go_enter Try.func104, Try.ntmps104
    go_wp2_with (first
      | (go_at_call 12; refine (c_specLiveAt (ArrR_below H.out HS.out.toBelow)).mono ?_; rw [HLV.out]; rintro e wl ⟨rfl, hb⟩; have hs9 := HS.out.below hb; clear hb HS; have HS := Aside0.mk hs9; clear hs9 k0 k1 k2 k3 k4 k5 k6 k7 k8 k9 k10 k11 k12; obtain ⟨k0, k1, k2, k3, k4, k5, k6, k7, k8, k9, k10, k11, k12⟩ := thirteen (HS.out.get 0 rfl))
      | fail)
    go_ret2
    exact ⟨by (rw [wordV_no (HNO.out _ rfl)]) <;> rfl, HS.out.toBelow⟩
  · go_enter Try.func104, Try.ntmps104
    go_upto_region 3 with (first
      | (go_at_call 12; refine (c_specLiveAt (ArrR_below H.out HS.out.toBelow)).mono ?_; rw [HLV.out]; rintro e wl ⟨rfl, hb⟩; have HBL := Aside0.mk hb; have hs9 := HS.out.below hb; clear hb HS; have HS := Aside0.mk hs9; clear hs9 k0 k1 k2 k3 k4 k5 k6 k7 k8 k9 k10 k11 k12; obtain ⟨k0, k1, k2, k3, k4, k5, k6, k7, k8, k9, k10, k11, k12⟩ := thirteen (HS.out.get 0 rfl))
      | fail)
    have HM := HS
    obtain ⟨x0, x1, x2, x3⟩ := X0.out
    have hbw : Below (w.alloc (.cells #[.int .i64 id, .int .i64 gn, .int .i64 gs, .slice (some ad) mems.length cap, .int .i64 lost, .int .i64 built, .int .i64 seq, .int .i64 tail, .int .i64 gen, vd, .int .i64 fuse, .bool down, .bool broken] 34 (0, 0))).heap.size (w.alloc (.cells #[.int .i64 id, .int .i64 gn, .int .i64 gs, .slice (some ad) mems.length cap, .int .i64 lost, .int .i64 built, .int .i64 seq, .int .i64 tail, .int .i64 gen, vd, .int .i64 fuse, .bool down, .bool broken] 34 (0, 0))) wl := HBL.out
    replace x0 := (hbw.cell (lt_of_cell x0)).trans x0
    replace x1 := (hbw.cell (lt_of_cell x1)).trans x1
    replace x2 := (hbw.cell (lt_of_cell x2)).trans x2
    replace x3 := (hbw.cell (lt_of_cell x3)).trans x3
    clear hbw HS HBL
    generalize wl = wm at *
    have HALL : ∀ w' : World, Below wm.heap.size wm w' → (w'.cell? ⟨w.heap.size, 0, none⟩ = some (.int .i64 id) ∧ w'.cell? ⟨w.heap.size, 1, none⟩ = some (.int .i64 gn) ∧ w'.cell? ⟨w.heap.size, 2, none⟩ = some (.int .i64 gs) ∧ w'.cell? ⟨w.heap.size, 3, none⟩ = some (.slice (some ad) mems.length cap) ∧ w'.cell? ⟨w.heap.size, 4, none⟩ = some (.int .i64 lost) ∧ w'.cell? ⟨w.heap.size, 5, none⟩ = some (.int .i64 built) ∧ w'.cell? ⟨w.heap.size, 6, none⟩ = some (.int .i64 seq) ∧ w'.cell? ⟨w.heap.size, 7, none⟩ = some (.int .i64 tail) ∧ w'.cell? ⟨w.heap.size, 8, none⟩ = some (.int .i64 gen) ∧ w'.cell? ⟨w.heap.size, 9, none⟩ = some (vd) ∧ w'.cell? ⟨w.heap.size, 10, none⟩ = some (.int .i64 fuse) ∧ w'.cell? ⟨w.heap.size, 11, none⟩ = some (.bool down) ∧ w'.cell? ⟨w.heap.size, 12, none⟩ = some (.bool broken) ∧ w'.cell? (ad.add (q * 4)) = some (.slice B1 x.secs.length d1) ∧ w'.cell? ⟨(ad.add (q * 4)).block, (ad.add (q * 4)).off + 1, none⟩ = some (.slice B2 x.cache.length d2) ∧ w'.cell? ⟨(ad.add (q * 4)).block, (ad.add (q * 4)).off + 2, none⟩ = some (.bool xf) ∧ w'.cell? ⟨(ad.add (q * 4)).block, (ad.add (q * 4)).off + 3, none⟩ = some (.slice B3 x.bad.length d3)) := fun w' hb => ⟨(hb.cell (lt_of_cell k0)).trans k0, (hb.cell (lt_of_cell k1)).trans k1, (hb.cell (lt_of_cell k2)).trans k2, (hb.cell (lt_of_cell k3)).trans k3, (hb.cell (lt_of_cell k4)).trans k4, (hb.cell (lt_of_cell k5)).trans k5, (hb.cell (lt_of_cell k6)).trans k6, (hb.cell (lt_of_cell k7)).trans k7, (hb.cell (lt_of_cell k8)).trans k8, (hb.cell (lt_of_cell k9)).trans k9, (hb.cell (lt_of_cell k10)).trans k10, (hb.cell (lt_of_cell k11)).trans k11, (hb.cell (lt_of_cell k12)).trans k12, (hb.cell (lt_of_cell x0)).trans x0, (hb.cell (lt_of_cell x1)).trans x1, (hb.cell (lt_of_cell x2)).trans x2, (hb.cell (lt_of_cell x3)).trans x3⟩
    replace HALL := Aside0.mk HALL
    clear x0 x1 x2 x3 k0 k1 k2 k3 k4 k5 k6 k7 k8 k9 k10 k11 k12
    refine wp_region_seqp (fun w' => Below wm.heap.size wm w') [] [(0, 2), (2, 2), (5, 2), (1, 1), (3, 2), (4, 1), (6, 0), (7, 0), (8, 2), (9, 2), (10, 2), (11, 0), (12, 0)] (by kernel_rfl) (by kernel_rfl) ?_
    have hS : Below wm.heap.size wm wm.drew := Below.drew (Below.refl _ _)
    repeat (first | (refine seqp_pure rfl (fun _ _ _ h => h) (by rfl) (fun w_ => by go_simp; first | done | with_reducible rfl) ?_; (try simp only [Act.put, List.getElem_toArray, List.getElem_cons_succ, List.getElem_cons_zero, List.setIfInBounds_toArray, List.set_cons_zero, List.set_cons_succ])) | (refine seqp_take hS rfl (fun _ _ _ h => h) (by rfl) (fun w_ hSw => by have hSc := HALL.out w_ hSw; clear hSw; go_simp; first | done | with_reducible rfl) ?_; (try simp only [Act.put, List.getElem_toArray, List.getElem_cons_succ, List.getElem_cons_zero, List.setIfInBounds_toArray, List.set_cons_zero, List.set_cons_succ])) | (refine seqp_skip2 rfl (fun _ _ _ h => h) (by rfl) ?_; (try simp only [Act.put, List.getElem_toArray, List.getElem_cons_succ, List.getElem_cons_zero, List.setIfInBounds_toArray, List.set_cons_zero, List.set_cons_succ])) | (refine seqp_skip1 hS rfl (fun _ _ _ h => h) (by rfl) ?_; (try simp only [Act.put, List.getElem_toArray, List.getElem_cons_succ, List.getElem_cons_zero, List.setIfInBounds_toArray, List.set_cons_zero, List.set_cons_succ])) | (refine seqp_skip0 rfl (by rfl) ?_; (try simp only [Act.put, List.getElem_toArray, List.getElem_cons_succ, List.getElem_cons_zero, List.setIfInBounds_toArray, List.set_cons_zero, List.set_cons_succ])))
    refine seqp_step rfl (fun K hK => ?_)
    go_simp
    go_at_call 56; refine (c_specDataAt _ _).mono ?_; rintro e w3 ⟨rfl, hb⟩; replace hb := below_drawn hb
    replace hS := hS.trans (hb.mono hS.size); clear hb; refine hK.out _ _ ⟨fun _ _ => hS, ?_⟩; clear hK K; (try simp only [Act.put, List.getElem_toArray, List.getElem_cons_succ, List.getElem_cons_zero, List.setIfInBounds_toArray, List.set_cons_zero, List.set_cons_succ])
    repeat (first | (refine seqp_pure rfl (fun _ _ _ h => h) (by rfl) (fun w_ => by go_simp; first | done | with_reducible rfl) ?_; (try simp only [Act.put, List.getElem_toArray, List.getElem_cons_succ, List.getElem_cons_zero, List.setIfInBounds_toArray, List.set_cons_zero, List.set_cons_succ])) | (refine seqp_take hS rfl (fun _ _ _ h => h) (by rfl) (fun w_ hSw => by have hSc := HALL.out w_ hSw; clear hSw; go_simp; first | done | with_reducible rfl) ?_; (try simp only [Act.put, List.getElem_toArray, List.getElem_cons_succ, List.getElem_cons_zero, List.setIfInBounds_toArray, List.set_cons_zero, List.set_cons_succ])) | (refine seqp_skip2 rfl (fun _ _ _ h => h) (by rfl) ?_; (try simp only [Act.put, List.getElem_toArray, List.getElem_cons_succ, List.getElem_cons_zero, List.setIfInBounds_toArray, List.set_cons_zero, List.set_cons_succ])) | (refine seqp_skip1 hS rfl (fun _ _ _ h => h) (by rfl) ?_; (try simp only [Act.put, List.getElem_toArray, List.getElem_cons_succ, List.getElem_cons_zero, List.setIfInBounds_toArray, List.set_cons_zero, List.set_cons_succ])) | (refine seqp_skip0 rfl (by rfl) ?_; (try simp only [Act.put, List.getElem_toArray, List.getElem_cons_succ, List.getElem_cons_zero, List.setIfInBounds_toArray, List.set_cons_zero, List.set_cons_succ])))
    refine seqp_step rfl (fun K hK => ?_)
    go_simp
    go_at_call 129; refine (c_specReadSec (MemR_below (RM.out) (HM.out.below hS).toBelow) HXS.out).mono ?_; rw [HCR.out, HRD.out]; rintro e w4 ⟨u, F, rfl, hn⟩; have hs5 := (HM.out.below hS).new hn; have hb := hn.below; obtain ⟨U, uc, rfl, hul⟩ := O_RK (show oInt.O 3 w4 F u rd from hs5.get 0 rfl)
    replace hS := hS.trans (hb.mono hS.size); clear hb; refine hK.out _ _ ⟨fun _ _ => hS, ?_⟩; clear hK K; (try simp only [Act.put, List.getElem_toArray, List.getElem_cons_succ, List.getElem_cons_zero, List.setIfInBounds_toArray, List.set_cons_zero, List.set_cons_succ])
    repeat (first | (refine seqp_pure rfl (fun _ _ _ h => h) (by rfl) (fun w_ => by go_simp; first | done | with_reducible rfl) ?_; (try simp only [Act.put, List.getElem_toArray, List.getElem_cons_succ, List.getElem_cons_zero, List.setIfInBounds_toArray, List.set_cons_zero, List.set_cons_succ])) | (refine seqp_take hS rfl (fun _ _ _ h => h) (by rfl) (fun w_ hSw => by have hSc := HALL.out w_ hSw; clear hSw; go_simp; first | done | with_reducible rfl) ?_; (try simp only [Act.put, List.getElem_toArray, List.getElem_cons_succ, List.getElem_cons_zero, List.setIfInBounds_toArray, List.set_cons_zero, List.set_cons_succ])) | (refine seqp_skip2 rfl (fun _ _ _ h => h) (by rfl) ?_; (try simp only [Act.put, List.getElem_toArray, List.getElem_cons_succ, List.getElem_cons_zero, List.setIfInBounds_toArray, List.set_cons_zero, List.set_cons_succ])) | (refine seqp_skip1 hS rfl (fun _ _ _ h => h) (by rfl) ?_; (try simp only [Act.put, List.getElem_toArray, List.getElem_cons_succ, List.getElem_cons_zero, List.setIfInBounds_toArray, List.set_cons_zero, List.set_cons_succ])) | (refine seqp_skip0 rfl (by rfl) ?_; (try simp only [Act.put, List.getElem_toArray, List.getElem_cons_succ, List.getElem_cons_zero, List.setIfInBounds_toArray, List.set_cons_zero, List.set_cons_succ])))
    refine seqp_step rfl (fun K hK => ?_)
    go_simp
    refine hK.out _ _ ⟨fun _ _ => hS, ?_⟩; clear hK K; (try simp only [Act.put, List.getElem_toArray, List.getElem_cons_succ, List.getElem_cons_zero, List.setIfInBounds_toArray, List.set_cons_zero, List.set_cons_succ])
    refine seqp_step rfl (fun K hK => ?_)
    go_simp
    refine hK.out _ _ ⟨fun _ _ => hS, ?_⟩; clear hK K; (try simp only [Act.put, List.getElem_toArray, List.getElem_cons_succ, List.getElem_cons_zero, List.setIfInBounds_toArray, List.set_cons_zero, List.set_cons_succ])
    clear hS HALL
    have HS := Aside0.mk hs5
    clear hs5 hn hul
    refine seqp_done ?_
    obtain ⟨k0, k1, k2, k3, k4, k5, k6, k7, k8, k9, k10, k11, k12⟩ := thirteen (HS.out.get 1 rfl)
    cases cr
    · go_wp2
      go_ret2
      exact ⟨by (rw [wordV_no (HNO.out _ rfl)]) <;> rfl, HS.out.toBelow⟩
    · by_cases hl1 : rd.length = 1
      · obtain ⟨y, hy1⟩ : ∃ y, rd = [y] := List.length_eq_one_iff.1 hl1
        have hl2 : ((rd.length : Int) != 1) = false := by simp [hl1]
        have h0l : (0 : Int) < (rd.length : Int) := by omega
        obtain ⟨ad2, cap2, hA2, hc2⟩ := ints_at (O_RK (show oInt.O 3 w4 F _ rd from HS.out.get 0 rfl)) (by omega)
        obtain rfl := (Value.slice.inj hA2).1
        have hy := hc2 0 y (by rw [hy1]; rfl)
        rw [World_add0] at hy
        have HYV := Aside0.mk (show wordV (⟨id, gn, gs, mems, lost, built, seq, tail, gen, dirty, fuse, down, broken⟩ : ArrV) q s = (y, true) from by rw [HYES.out (HNO.out _ (by rw [hl1]; rfl)), hy1]; rfl)
        have HL1 := Aside0.mk hl1
        have HY := Aside0.mk hy
        clear hl1 hc2 hA2 hy1
        go_wp2
        go_ret2
        exact ⟨by (rw [HYV.out]) <;> rfl, HS.out.toBelow⟩
      · have hl2 : ((rd.length : Int) != 1) = true := by simp; omega
        have hl3 : (rd.length == 1) = false := by simp [hl1]
        have HL3 := Aside0.mk hl3
        clear hl1 hl3
        go_wp2
        go_ret2
        exact ⟨by (rw [wordV_no (HNO.out _ (by rw [HL3.out]; rfl))]) <;> rfl, HS.out.toBelow⟩
end Go.Proofs.Ytggmifnblcjdfaa.AWord

/- The words of a stripe, of both. Printed by mkaws.py. -/
namespace Go.Proofs.Ytggmifnblcjdfaa.AWords
open Go.RowKit Go.Proofs.Ytggmifnblcjdfaa.RJ Go.Proofs.Ytggmifnblcjdfaa.RP Go.Proofs.YtggmifnblcjdfaaW.PrintWords Go.Proofs.Ytggmifnblcjdfaa.Fp Go.Proofs.Ytggmifnblcjdfaa.FpStep Go.Proofs.Ytggmifnblcjdfaa.MInt Go.Proofs.Ytggmifnblcjdfaa.MKinds Go.Proofs.Ytggmifnblcjdfaa.MRead Go.Proofs.Ytggmifnblcjdfaa.MMake Go.Proofs.Ytggmifnblcjdfaa.MPut Go.Proofs.Ytggmifnblcjdfaa.MHeld Go.Proofs.Ytggmifnblcjdfaa.MOk Go.Proofs.Ytggmifnblcjdfaa.MSuper Go.Proofs.Ytggmifnblcjdfaa.Sep Go.Proofs.Ytggmifnblcjdfaa.SepStep Go.Proofs.Ytggmifnblcjdfaa.AKinds Go.Proofs.Ytggmifnblcjdfaa.AMake Go.Proofs.Ytggmifnblcjdfaa.AEnt Go.Proofs.Ytggmifnblcjdfaa.ALaw Go.Proofs.Ytggmifnblcjdfaa.AArr Go.Proofs.Ytggmifnblcjdfaa.AOk Go.Proofs.Ytggmifnblcjdfaa.MVal Go.Proofs.Ytggmifnblcjdfaa.MReadS Go.Proofs.Ytggmifnblcjdfaa.ALive Go.Proofs.Ytggmifnblcjdfaa.AXor Go.Proofs.Ytggmifnblcjdfaa.AWord Go.Proofs.Ytggmifnblcjdfaa.AOkI Go.Proofs.Ytggmifnblcjdfaa.AOkA
set_option linter.unusedVariables false
set_option linter.unusedSimpArgs false
/-- The first i words of a stripe, and which disk is lost. -/
def wsV (a : ArrV) (s : Int) : Nat → Option (List Int × Int)
  | 0 => some ([], -1)
  | i + 1 => match wsV a s i with
    | none => none
    | some (l, lost) => if (wordV a i s).2 then some (l ++ [(wordV a i s).1], lost) else if 0 ≤ lost then none else some (l ++ [(wordV a i s).1], (i : Int))
def wsEnd : Option (List Int × Int) → List Int × Bool
  | none => ([], false)
  | some (l, lost) => if 0 ≤ lost then (l.set lost.toNat (missV l lost), true) else (l, true)
def wsR (a : ArrV) (s : Int) : List Int × Bool := wsEnd (wsV a s a.mems.length)
theorem wsV_none {a : ArrV} {s : Int} {i : Nat} (h : wsV a s i = none) : ∀ d, wsV a s (i + d) = none
  | 0 => h
  | d + 1 => by rw [← Nat.add_assoc, wsV, wsV_none h d]
theorem wsR_none {a : ArrV} {s : Int} {i : Nat} (h : wsV a s (i + 1) = none) (hi : i < a.mems.length) : wsR a s = ([], false) := by
  have := wsV_none h (a.mems.length - (i + 1))
  rw [show i + 1 + (a.mems.length - (i + 1)) = a.mems.length by omega] at this
  unfold wsR; rw [this]; rfl
theorem wsV_len {a : ArrV} {s : Int} : ∀ (i : Nat) (l : List Int) (k : Int), wsV a s i = some (l, k) → l.length = i
  | 0, l, k, h => by simp [wsV] at h; obtain ⟨rfl, _⟩ := h; rfl
  | i + 1, l, k, h => by
    unfold wsV at h
    cases hq : wsV a s i with
    | none => rw [hq] at h; cases h
    | some p =>
      obtain ⟨l', k'⟩ := p
      have := wsV_len i l' k' hq
      rw [hq] at h
      simp only at h
      split at h
      · simp at h; obtain ⟨rfl, _⟩ := h; simp [this]
      · split at h
        · cases h
        · simp at h; obtain ⟨rfl, _⟩ := h; simp [this]
theorem wsR_len (a : ArrV) (s : Int) : (wsR a s).1.length ≤ a.mems.length := by
  unfold wsR
  cases hq : wsV a s a.mems.length with
  | none => simp [wsEnd]
  | some p =>
    obtain ⟨l, k⟩ := p
    have := wsV_len _ _ _ hq
    unfold wsEnd
    simp only
    split <;> simp <;> omega
def wordsB (a : ArrV) (s : Int) : Bool := arrB a && (!a.broken && inR s 0 (a.gs - 1))
def wordsR (a : ArrV) (s : Int) : List Int × Bool := if wordsB a s then wsR a s else ([], false)
theorem wordsR_len (a : ArrV) (s : Int) : (wordsR a s).1.length ≤ a.mems.length := by
  unfold wordsR
  split
  · exact wsR_len a s
  · simp
theorem wordsR_no {a : ArrV} {s : Int} (h : wordsB a s = false) : wordsR a s = ([], false) := by unfold wordsR; rw [h]; rfl
theorem wordsR_yes {a : ArrV} {s : Int} (h : wordsB a s = true) : wordsR a s = wsR a s := by unfold wordsR; rw [if_pos h]
set_option maxHeartbeats 4000000 in
set_option maxRecDepth 100000 in
theorem c_specL6Words {w : World} {v : Value} {a : ArrV} {s : Int} (h : ArrR w v a) (hsm : SmallA a) (hlen : (a.mems.length : Int) = a.gn) :
    Calls Try.prog 67 #[v, .int .i64 s] w fun e w' => ∃ u F, e = .returned (.tuple #[u, .bool (wsR a s).2]) ∧ New w w' (rw_ oInt 3 F u (wsR a s).1) := by
  have H := Aside0.mk h
  have HSM := Aside0.mk hsm
  have HML := Aside0.mk hsm.1
  obtain ⟨vm, vd, rfl, r1, r2⟩ := h
  obtain ⟨A1, c1, rfl, hl1, _⟩ := id r1
  have lm := RK_len r1
  have hmlb := hsm.1
  clear r1 r2 hl1 hsm
  have HLEN := Aside0.mk hlen
  clear hlen
  have H0 := Aside0.mk ((Sep.start w []).alloc (g := w.heap.size) rfl (arrC a (.slice A1 a.mems.length c1) vd) 34)
  have HI := Aside0.mk (H0.out.lit (g := w.heap.size + 1) (by simp) oInt 3)
  obtain ⟨id, gn, gs, mems, lost, built, seq, tail, gen, dirty, fuse, down, broken⟩ := a
  simp only [arrC] at *
  obtain ⟨k0, k1, k2, k3, k4, k5, k6, k7, k8, k9, k10, k11, k12⟩ := thirteen (HI.out.get 1 rfl)
  go_enter Try.func67, Try.ntmps67
  go_wp2
  go_loopw [6, 7, 8] (fun v6 v7 v8 wr => ∃ (i : Nat) (l : List Int) (ms : Int) (A : Option Addr) (c : Nat) (F : List Nat), i ≤ mems.length ∧ v8 = .int .i64 i ∧ v6 = .slice A i c ∧ v7 = .int .i64 ms ∧ Aside0 (l.length = i) ∧ (-1 ≤ ms ∧ ms < (i : Int)) ∧ Aside0 (wsV (⟨id, gn, gs, mems, lost, built, seq, tail, gen, dirty, fuse, down, broken⟩ : ArrV) s i = some (l, ms)) ∧ Aside0 (Sep w [] wr [rw_ oInt 3 F (.slice A i c) l, bx w.heap.size 34 #[.int .i64 id, .int .i64 gn, .int .i64 gs, .slice A1 mems.length c1, .int .i64 lost, .int .i64 built, .int .i64 seq, .int .i64 tail, .int .i64 gen, vd, .int .i64 fuse, .bool down, .bool broken]])) (fun _ _ v8 _ => mems.length - (intOf v8).toNat)
  case atStart => exact ⟨0, [], -1, _, _, _, by omega, rfl, rfl, rfl, ⟨rfl⟩, ⟨by omega, by omega⟩, ⟨rfl⟩, HI⟩
  case round =>
    clear HI k0 k1 k2 k3 k4 k5 k6 k7 k8 k9 k10 k11 k12
    obtain ⟨i, l, ms, A, c, F, hi, rfl, rfl, rfl, HL, hlo, HW, HR⟩ := hrel
    obtain ⟨k0, k1, k2, k3, k4, k5, k6, k7, k8, k9, k10, k11, k12⟩ := thirteen (HR.out.get 1 rfl)
    by_cases hlt : i < mems.length
    · have hig : (i : Int) < (mems.length : Int) := by omega
      have hgn : (i : Int) < gn := by have := HLEN.out; omega
      obtain ⟨⟨pn, pok⟩, hp⟩ : ∃ p, wordV (⟨id, gn, gs, mems, lost, built, seq, tail, gen, dirty, fuse, down, broken⟩ : ArrV) i s = p := ⟨_, rfl⟩
      have HP := Aside0.mk hp
      clear hp
      have HST : wsV (⟨id, gn, gs, mems, lost, built, seq, tail, gen, dirty, fuse, down, broken⟩ : ArrV) s (i + 1) = (if pok then some (l ++ [pn], ms) else if 0 ≤ ms then none else some (l ++ [pn], (i : Int))) := by simp only [wsV, HW.out, HP.out]
      replace HST := Aside0.mk HST
      cases pok
      · by_cases hge : 0 ≤ ms
        · have hgeb : decide (0 ≤ ms) = true := decide_eq_true hge
          have HF := Aside0.mk (wsR_none (by rw [HST.out, if_neg (by decide), if_pos hge]) hlt)
          go_wp2_with (first
            | (go_at_call 104; refine (c_specWord (ArrR_below H.out HR.out.toBelow) HSM.out hlt).mono ?_; rw [HP.out]; rintro e w2 ⟨rfl, hb⟩; have hs2 := HR.out.below hb; have HS2 := Aside0.mk hs2; clear hs2 hb k0 k1 k2 k3 k4 k5 k6 k7 k8 k9 k10 k11 k12; obtain ⟨k0, k1, k2, k3, k4, k5, k6, k7, k8, k9, k10, k11, k12⟩ := thirteen (HS2.out.get 1 rfl))
            | fail)
          go_ret2
          rw [HF.out]
          first | exact ⟨_, _, rfl, (HS2.out.lit rfl oInt 3).toNew 0 rfl⟩ | exact ⟨_, rfl, _, (HS2.out.lit rfl oInt 3).toNew 0 rfl⟩
        · have hgeb : decide (0 ≤ ms) = false := decide_eq_false hge
          go_wp2_with (first
            | (go_at_call 104; refine (c_specWord (ArrR_below H.out HR.out.toBelow) HSM.out hlt).mono ?_; rw [HP.out]; rintro e w2 ⟨rfl, hb⟩; have hs2 := HR.out.below hb; have HS2 := Aside0.mk hs2; clear hs2 hb k0 k1 k2 k3 k4 k5 k6 k7 k8 k9 k10 k11 k12; obtain ⟨k0, k1, k2, k3, k4, k5, k6, k7, k8, k9, k10, k11, k12⟩ := thirteen (HS2.out.get 1 rfl))
            | (at_builtin; (refine app_one0 (d := oInt) (y := pn) HS2.out rfl _ _ 44 (.int .i64 0) 8 (by rfl) Try.underlying44 (by kernel_rfl) rfl (by decide) (by decide) [.int .i64 pn] (by first | exact ⟨rfl, rfl⟩ | rfl | simp [oInt, Od.int]) (by rfl) (by rfl) rfl (n := i) HL.out (by omega) ?_); intro A3 c3 w3 F3 hs3; have HS3 := Aside0.mk hs3; clear hs3)
            | fail)
          go_roundw
          case rel => exact ⟨i + 1, l ++ [pn], i, A3, c3, F3, by omega, by go_num, rfl, rfl, ⟨by simp [HL.out]⟩, ⟨by omega, by omega⟩, ⟨by rw [HST.out]; rw [if_neg (by decide), if_neg (by omega)]⟩, HS3⟩
          case measure => simp [intOf]; omega
      · go_wp2_with (first
          | (go_at_call 104; refine (c_specWord (ArrR_below H.out HR.out.toBelow) HSM.out hlt).mono ?_; rw [HP.out]; rintro e w2 ⟨rfl, hb⟩; have hs2 := HR.out.below hb; have HS2 := Aside0.mk hs2; clear hs2 hb k0 k1 k2 k3 k4 k5 k6 k7 k8 k9 k10 k11 k12; obtain ⟨k0, k1, k2, k3, k4, k5, k6, k7, k8, k9, k10, k11, k12⟩ := thirteen (HS2.out.get 1 rfl))
          | (at_builtin; (refine app_one0 (d := oInt) (y := pn) HS2.out rfl _ _ 44 (.int .i64 0) 8 (by rfl) Try.underlying44 (by kernel_rfl) rfl (by decide) (by decide) [.int .i64 pn] (by first | exact ⟨rfl, rfl⟩ | rfl | simp [oInt, Od.int]) (by rfl) (by rfl) rfl (n := i) HL.out (by omega) ?_); intro A3 c3 w3 F3 hs3; have HS3 := Aside0.mk hs3; clear hs3)
          | fail)
        go_roundw
        case rel => exact ⟨i + 1, l ++ [pn], ms, A3, c3, F3, by omega, by go_num, rfl, rfl, ⟨by simp [HL.out]⟩, ⟨by omega, by omega⟩, ⟨by rw [HST.out]; rfl⟩, HS3⟩
        case measure => simp [intOf]; omega
    · obtain rfl : i = mems.length := by omega
      have hgn : ¬ (mems.length : Int) < gn := by have := HLEN.out; omega
      have HV := Aside0.mk (show wsR (⟨id, gn, gs, mems, lost, built, seq, tail, gen, dirty, fuse, down, broken⟩ : ArrV) s = wsEnd (some (l, ms)) by unfold wsR; rw [HW.out])
      by_cases hge : 0 ≤ ms
      · obtain ⟨q, rfl⟩ : ∃ q : Nat, ms = (q : Int) := ⟨ms.toNat, by omega⟩
        have hq : q < l.length := by rw [HL.out]; omega
        obtain ⟨g, cap, hg9, _, _⟩ := O_form (show oInt.O 3 wr F (.slice A mems.length c) l from HR.out.get 0 rfl) (by omega)
        obtain rfl := (Value.slice.inj hg9).1
        clear hg9
        have HV2 := Aside0.mk (show wsR (⟨id, gn, gs, mems, lost, built, seq, tail, gen, dirty, fuse, down, broken⟩ : ArrV) s = (l.set q (missV l (q : Int)), true) by rw [HV.out, wsEnd, if_pos (by omega), Int.toNat_natCast])
        have hgeb : decide ((0 : Int) ≤ (q : Int)) = true := decide_eq_true (by omega)
        have q0 : (0 : Int) ≤ (q : Int) := by omega
        have ql : (q : Int) < (mems.length : Int) := by omega
        have hll := HL.out
        have HLL := Aside0.mk hll
        have hl9 : l.length ≤ 16777216 := by rw [HLL.out]; exact HML.out
        clear hll hge
        go_wp2_with (first
          | (go_at_call 105; refine (c_specMissing (O_RK (show oInt.O 3 wr F _ l from HR.out.get 0 rfl))).mono ?_; rintro e w2 ⟨rfl, hb⟩; have hs2 := HR.out.dr hb; have HS2 := Aside0.mk hs2; clear hs2 hb; obtain ⟨u9, cc1, cc2⟩ := O_cells (d := oInt) (i := q) (t := 0) (HS2.out.get 0 rfl) hq (by decide); simp only [show oInt.sz = 1 from rfl, Nat.mul_one, Nat.add_zero] at cc1 cc2)
          | fail)
        go_ret2
        rw [HV2.out]
        first | exact ⟨_, _, rfl, (HS2.out.seti 0 rfl hq (missV l (q : Int))).toNew 0 rfl⟩ | exact ⟨_, rfl, _, (HS2.out.seti 0 rfl hq (missV l (q : Int))).toNew 0 rfl⟩
      · have hgeb : decide (0 ≤ ms) = false := decide_eq_false hge
        have HV2 := Aside0.mk (show wsR (⟨id, gn, gs, mems, lost, built, seq, tail, gen, dirty, fuse, down, broken⟩ : ArrV) s = (l, true) by rw [HV.out, wsEnd, if_neg hge])
        go_wp2
        go_ret2
        rw [HV2.out]
        first | exact ⟨_, _, rfl, HR.out.toNew 0 rfl⟩ | exact ⟨_, rfl, _, HR.out.toNew 0 rfl⟩
set_option maxHeartbeats 4000000 in
set_option maxRecDepth 100000 in
theorem c_specWords {w : World} {v : Value} {a : ArrV} {s : Int} (h : ArrR w v a) (hsm : SmallA a) :
    Calls Try.prog 23 #[v, .int .i64 s] w fun e w' => ∃ u F, e = .returned (.tuple #[u, .bool (wordsR a s).2]) ∧ New w w' (rw_ oInt 3 F u (wordsR a s).1) := by
  have H := Aside0.mk h
  have HSM := Aside0.mk hsm
  have HML := Aside0.mk hsm.1
  obtain ⟨vm, vd, rfl, r1, r2⟩ := h
  obtain ⟨A1, c1, rfl, hl1, _⟩ := id r1
  have lm := RK_len r1
  have hmlb := hsm.1
  clear r1 r2 hl1 hsm
  have HS := Aside0.mk ((Sep.start w []).alloc (g := w.heap.size) rfl (arrC a (.slice A1 a.mems.length c1) vd) 34)
  obtain ⟨id, gn, gs, mems, lost, built, seq, tail, gen, dirty, fuse, down, broken⟩ := a
  simp only [arrC] at *
  obtain ⟨k0, k1, k2, k3, k4, k5, k6, k7, k8, k9, k10, k11, k12⟩ := thirteen (HS.out.get 0 rfl)
  by_cases hA : arrB (⟨id, gn, gs, mems, lost, built, seq, tail, gen, dirty, fuse, down, broken⟩ : ArrV) = true
  · have HA := Aside0.mk hA
    have HP := Aside0.mk (arrB_P hA)
    have hgs : 1 ≤ gs ∧ gs ≤ 8 := by have := HP.out.geo; simp [geoB, inR] at this; omega
    have HG := Aside0.mk HP.out.geo
    have wgs : IntKind.i64.wrap (gs - 1) = gs - 1 := IntWalk.i64_in _ (by omega)
    clear hA hgs
    cases hbr : broken
    · subst hbr
      by_cases hin : inR s 0 (gs - 1) = true
      · have HIN := Aside0.mk hin
        clear hin
        have HY := Aside0.mk (wordsR_yes (show wordsB (⟨id, gn, gs, mems, lost, built, seq, tail, gen, dirty, fuse, down, false⟩ : ArrV) s = true by unfold wordsB; rw [HA.out]; simp only; rw [HIN.out]; rfl))
        go_enter Try.func23, Try.ntmps23
        go_wp2_with (first
          | (go_at_call 16; refine (c_specArrOk (ArrR_below H.out HS.out.toBelow) HSM.out).mono ?_; rw [HA.out]; rintro e w1 ⟨rfl, hb⟩; have hs1 := HS.out.below hb; clear hb HS; have HS := Aside0.mk hs1; clear hs1 k0 k1 k2 k3 k4 k5 k6 k7 k8 k9 k10 k11 k12; obtain ⟨k0, k1, k2, k3, k4, k5, k6, k7, k8, k9, k10, k11, k12⟩ := thirteen (HS.out.get 0 rfl))
          | (go_at_call 38; refine (c_l1In _ _ _ _).mono ?_; rw [HIN.out]; rintro e w2 ⟨rfl, hb⟩; have hs1 := HS.out.dr hb; clear hb HS; have HS := Aside0.mk hs1; clear hs1 k0 k1 k2 k3 k4 k5 k6 k7 k8 k9 k10 k11 k12; obtain ⟨k0, k1, k2, k3, k4, k5, k6, k7, k8, k9, k10, k11, k12⟩ := thirteen (HS.out.get 0 rfl))
          | (go_at_call 67; refine (c_specL6Words (ArrR_below H.out HS.out.toBelow) HSM.out HP.out.len).mono ?_; rintro e w3 ⟨u, F, rfl, hn⟩; have HS3 := Aside0.mk (HS.out.new hn); clear hn)
          | fail)
        go_ret2
        rw [HY.out]
        exact ⟨u, F, rfl, HS3.out.toNew 0 rfl⟩
      · simp only [Bool.not_eq_true] at hin
        have HIN := Aside0.mk hin
        clear hin
        have HN := Aside0.mk (wordsR_no (show wordsB (⟨id, gn, gs, mems, lost, built, seq, tail, gen, dirty, fuse, down, false⟩ : ArrV) s = false by unfold wordsB; rw [HA.out]; simp only; rw [HIN.out]; rfl))
        go_enter Try.func23, Try.ntmps23
        go_wp2_with (first
          | (go_at_call 16; refine (c_specArrOk (ArrR_below H.out HS.out.toBelow) HSM.out).mono ?_; rw [HA.out]; rintro e w1 ⟨rfl, hb⟩; have hs1 := HS.out.below hb; clear hb HS; have HS := Aside0.mk hs1; clear hs1 k0 k1 k2 k3 k4 k5 k6 k7 k8 k9 k10 k11 k12; obtain ⟨k0, k1, k2, k3, k4, k5, k6, k7, k8, k9, k10, k11, k12⟩ := thirteen (HS.out.get 0 rfl))
          | (go_at_call 38; refine (c_l1In _ _ _ _).mono ?_; rw [HIN.out]; rintro e w2 ⟨rfl, hb⟩; have hs1 := HS.out.dr hb; clear hb HS; have HS := Aside0.mk hs1; clear hs1 k0 k1 k2 k3 k4 k5 k6 k7 k8 k9 k10 k11 k12; obtain ⟨k0, k1, k2, k3, k4, k5, k6, k7, k8, k9, k10, k11, k12⟩ := thirteen (HS.out.get 0 rfl))
          | fail)
        go_ret2
        rw [HN.out]
        first | exact ⟨_, _, rfl, (HS.out.lit rfl oInt 3).toNew 0 rfl⟩ | exact ⟨_, rfl, _, (HS.out.lit rfl oInt 3).toNew 0 rfl⟩
    · subst hbr
      have HN := Aside0.mk (wordsR_no (show wordsB (⟨id, gn, gs, mems, lost, built, seq, tail, gen, dirty, fuse, down, true⟩ : ArrV) s = false by unfold wordsB; rw [HA.out]; rfl))
      go_enter Try.func23, Try.ntmps23
      go_wp2_with (first
        | (go_at_call 16; refine (c_specArrOk (ArrR_below H.out HS.out.toBelow) HSM.out).mono ?_; rw [HA.out]; rintro e w1 ⟨rfl, hb⟩; have hs1 := HS.out.below hb; clear hb HS; have HS := Aside0.mk hs1; clear hs1 k0 k1 k2 k3 k4 k5 k6 k7 k8 k9 k10 k11 k12; obtain ⟨k0, k1, k2, k3, k4, k5, k6, k7, k8, k9, k10, k11, k12⟩ := thirteen (HS.out.get 0 rfl))
        | fail)
      go_ret2
      rw [HN.out]
      first | exact ⟨_, _, rfl, (HS.out.lit rfl oInt 3).toNew 0 rfl⟩ | exact ⟨_, rfl, _, (HS.out.lit rfl oInt 3).toNew 0 rfl⟩
  · simp only [Bool.not_eq_true] at hA
    have HA := Aside0.mk hA
    clear hA
    have HN := Aside0.mk (wordsR_no (show wordsB (⟨id, gn, gs, mems, lost, built, seq, tail, gen, dirty, fuse, down, broken⟩ : ArrV) s = false by unfold wordsB; rw [HA.out]; rfl))
    go_enter Try.func23, Try.ntmps23
    go_wp2_with (first
      | (go_at_call 16; refine (c_specArrOk (ArrR_below H.out HS.out.toBelow) HSM.out).mono ?_; rw [HA.out]; rintro e w1 ⟨rfl, hb⟩; have hs1 := HS.out.below hb; clear hb HS; have HS := Aside0.mk hs1; clear hs1 k0 k1 k2 k3 k4 k5 k6 k7 k8 k9 k10 k11 k12; obtain ⟨k0, k1, k2, k3, k4, k5, k6, k7, k8, k9, k10, k11, k12⟩ := thirteen (HS.out.get 0 rfl))
      | fail)
    go_ret2
    rw [HN.out]
    first | exact ⟨_, _, rfl, (HS.out.lit rfl oInt 3).toNew 0 rfl⟩ | exact ⟨_, rfl, _, (HS.out.lit rfl oInt 3).toNew 0 rfl⟩
set_option maxHeartbeats 4000000 in
set_option maxRecDepth 100000 in
theorem c_implWords {w : World} {v : Value} {a : ArrV} {s : Int} (h : ArrR w v a) (hsm : SmallA a) :
    Calls Try.prog 24 #[v, .int .i64 s] w fun e w' => ∃ u F, e = .returned (.tuple #[u, .bool (wordsR a s).2]) ∧ New w w' (rw_ oInt 3 F u (wordsR a s).1) := by
  have H := Aside0.mk h
  have HSM := Aside0.mk hsm
  have HML := Aside0.mk hsm.1
  obtain ⟨vm, vd, rfl, r1, r2⟩ := h
  obtain ⟨A1, c1, rfl, hl1, _⟩ := id r1
  have lm := RK_len r1
  have hmlb := hsm.1
  clear r1 r2 hl1 hsm
  have HS := Aside0.mk ((Sep.start w []).alloc (g := w.heap.size) rfl (arrC a (.slice A1 a.mems.length c1) vd) 34)
  obtain ⟨id, gn, gs, mems, lost, built, seq, tail, gen, dirty, fuse, down, broken⟩ := a
  simp only [arrC] at *
  obtain ⟨k0, k1, k2, k3, k4, k5, k6, k7, k8, k9, k10, k11, k12⟩ := thirteen (HS.out.get 0 rfl)
  by_cases hA : arrB (⟨id, gn, gs, mems, lost, built, seq, tail, gen, dirty, fuse, down, broken⟩ : ArrV) = true
  · have HA := Aside0.mk hA
    have HP := Aside0.mk (arrB_P hA)
    have hgs : 1 ≤ gs ∧ gs ≤ 8 := by have := HP.out.geo; simp [geoB, inR] at this; omega
    have HG := Aside0.mk HP.out.geo
    have wgs : IntKind.i64.wrap (gs - 1) = gs - 1 := IntWalk.i64_in _ (by omega)
    clear hA hgs
    cases hbr : broken
    · subst hbr
      by_cases hin : inR s 0 (gs - 1) = true
      · have HIN := Aside0.mk hin
        clear hin
        have HY := Aside0.mk (wordsR_yes (show wordsB (⟨id, gn, gs, mems, lost, built, seq, tail, gen, dirty, fuse, down, false⟩ : ArrV) s = true by unfold wordsB; rw [HA.out]; simp only; rw [HIN.out]; rfl))
        rw [HY.out]
        go_enter Try.func24, Try.ntmps24
        go_upto_region 3 with (first
          | (go_at_call 17; refine (c_implArrOk (ArrR_below H.out HS.out.toBelow) HSM.out).mono ?_; rw [HA.out]; rintro e w1 ⟨rfl, hb⟩; have hs1 := HS.out.below hb; clear hb HS; have HS := Aside0.mk hs1; clear hs1 k0 k1 k2 k3 k4 k5 k6 k7 k8 k9 k10 k11 k12; obtain ⟨k0, k1, k2, k3, k4, k5, k6, k7, k8, k9, k10, k11, k12⟩ := thirteen (HS.out.get 0 rfl))
          | (go_at_call 68; refine (c_hasStripe _ _ _ _ HG.out).mono ?_; rw [HIN.out]; rintro e w2 ⟨rfl, hb⟩; have hs1 := HS.out.below hb; clear hb HS; have HS := Aside0.mk hs1; clear hs1 k0 k1 k2 k3 k4 k5 k6 k7 k8 k9 k10 k11 k12; obtain ⟨k0, k1, k2, k3, k4, k5, k6, k7, k8, k9, k10, k11, k12⟩ := thirteen (HS.out.get 0 rfl))
          | fail)
        have HI := Aside0.mk (HS.out.lit (g := w2.heap.size) rfl oInt 3)
        clear k0 k1 k2 k3 k4 k5 k6 k7 k8 k9 k10 k11 k12
        obtain ⟨k0, k1, k2, k3, k4, k5, k6, k7, k8, k9, k10, k11, k12⟩ := thirteen (HI.out.get 1 rfl)
        go_wp2
        go_loopw [6, 7, 29] (fun v6 v7 v8 wr => ∃ (i : Nat) (l : List Int) (ms : Int) (A : Option Addr) (c : Nat) (F : List Nat), i ≤ mems.length ∧ v8 = .int .i64 i ∧ v6 = .slice A i c ∧ v7 = .int .i64 ms ∧ Aside0 (l.length = i) ∧ (-1 ≤ ms ∧ ms < (i : Int)) ∧ Aside0 (wsV (⟨id, gn, gs, mems, lost, built, seq, tail, gen, dirty, fuse, down, false⟩ : ArrV) s i = some (l, ms)) ∧ Aside0 (Sep w [] wr [rw_ oInt 3 F (.slice A i c) l, bx w.heap.size 34 #[.int .i64 id, .int .i64 gn, .int .i64 gs, .slice A1 mems.length c1, .int .i64 lost, .int .i64 built, .int .i64 seq, .int .i64 tail, .int .i64 gen, vd, .int .i64 fuse, .bool down, .bool false]])) (fun _ _ v8 _ => mems.length - (intOf v8).toNat)
        case atStart => exact ⟨0, [], -1, _, _, _, by omega, rfl, rfl, rfl, ⟨rfl⟩, ⟨by omega, by omega⟩, ⟨rfl⟩, HI⟩
        case round =>
          clear HI k0 k1 k2 k3 k4 k5 k6 k7 k8 k9 k10 k11 k12
          obtain ⟨i, l, ms, A, c, F, hi, rfl, rfl, rfl, HL, hlo, HW, HR⟩ := hrel
          obtain ⟨k0, k1, k2, k3, k4, k5, k6, k7, k8, k9, k10, k11, k12⟩ := thirteen (HR.out.get 1 rfl)
          by_cases hlt : i < mems.length
          · have hig : (i : Int) < (mems.length : Int) := by omega
            obtain ⟨⟨pn, pok⟩, hp⟩ : ∃ p, wordV (⟨id, gn, gs, mems, lost, built, seq, tail, gen, dirty, fuse, down, false⟩ : ArrV) i s = p := ⟨_, rfl⟩
            have HP := Aside0.mk hp
            clear hp
            have HST : wsV (⟨id, gn, gs, mems, lost, built, seq, tail, gen, dirty, fuse, down, false⟩ : ArrV) s (i + 1) = (if pok then some (l ++ [pn], ms) else if 0 ≤ ms then none else some (l ++ [pn], (i : Int))) := by simp only [wsV, HW.out, HP.out]
            replace HST := Aside0.mk HST
            cases pok
            · by_cases hge : 0 ≤ ms
              · have hgeb : decide (0 ≤ ms) = true := decide_eq_true hge
                have HF := Aside0.mk (wsR_none (by rw [HST.out, if_neg (by decide), if_pos hge]) hlt)
                go_wp2_with (first
                  | (go_at_call 69; refine (c_implWordAt (ArrR_below H.out HR.out.toBelow) HSM.out hlt).mono ?_; rw [HP.out]; rintro e w2 ⟨rfl, hb⟩; have hs2 := HR.out.below hb; have HS2 := Aside0.mk hs2; clear hs2 hb k0 k1 k2 k3 k4 k5 k6 k7 k8 k9 k10 k11 k12; obtain ⟨k0, k1, k2, k3, k4, k5, k6, k7, k8, k9, k10, k11, k12⟩ := thirteen (HS2.out.get 1 rfl))
                  | fail)
                go_ret2
                rw [HF.out]
                first | exact ⟨_, _, rfl, (HS2.out.nil oInt 3).toNew 0 rfl⟩ | exact ⟨_, rfl, _, (HS2.out.nil oInt 3).toNew 0 rfl⟩
              · have hgeb : decide (0 ≤ ms) = false := decide_eq_false hge
                go_wp2_with (first
                  | (go_at_call 69; refine (c_implWordAt (ArrR_below H.out HR.out.toBelow) HSM.out hlt).mono ?_; rw [HP.out]; rintro e w2 ⟨rfl, hb⟩; have hs2 := HR.out.below hb; have HS2 := Aside0.mk hs2; clear hs2 hb k0 k1 k2 k3 k4 k5 k6 k7 k8 k9 k10 k11 k12; obtain ⟨k0, k1, k2, k3, k4, k5, k6, k7, k8, k9, k10, k11, k12⟩ := thirteen (HS2.out.get 1 rfl))
                  | (at_builtin; (refine app_one0 (d := oInt) (y := pn) HS2.out rfl _ _ 44 (.int .i64 0) 8 (by rfl) Try.underlying44 (by kernel_rfl) rfl (by decide) (by decide) [.int .i64 pn] (by first | exact ⟨rfl, rfl⟩ | rfl | simp [oInt, Od.int]) (by rfl) (by rfl) rfl (n := i) HL.out (by omega) ?_); intro A3 c3 w3 F3 hs3; have HS3 := Aside0.mk hs3; clear hs3)
                  | fail)
                go_roundw
                case rel => exact ⟨i + 1, l ++ [pn], i, A3, c3, F3, by omega, by go_num, rfl, rfl, ⟨by simp [HL.out]⟩, ⟨by omega, by omega⟩, ⟨by rw [HST.out]; rw [if_neg (by decide), if_neg (by omega)]⟩, HS3⟩
                case measure => simp [intOf]; omega
            · go_wp2_with (first
                | (go_at_call 69; refine (c_implWordAt (ArrR_below H.out HR.out.toBelow) HSM.out hlt).mono ?_; rw [HP.out]; rintro e w2 ⟨rfl, hb⟩; have hs2 := HR.out.below hb; have HS2 := Aside0.mk hs2; clear hs2 hb k0 k1 k2 k3 k4 k5 k6 k7 k8 k9 k10 k11 k12; obtain ⟨k0, k1, k2, k3, k4, k5, k6, k7, k8, k9, k10, k11, k12⟩ := thirteen (HS2.out.get 1 rfl))
                | (at_builtin; (refine app_one0 (d := oInt) (y := pn) HS2.out rfl _ _ 44 (.int .i64 0) 8 (by rfl) Try.underlying44 (by kernel_rfl) rfl (by decide) (by decide) [.int .i64 pn] (by first | exact ⟨rfl, rfl⟩ | rfl | simp [oInt, Od.int]) (by rfl) (by rfl) rfl (n := i) HL.out (by omega) ?_); intro A3 c3 w3 F3 hs3; have HS3 := Aside0.mk hs3; clear hs3)
                | fail)
              go_roundw
              case rel => exact ⟨i + 1, l ++ [pn], ms, A3, c3, F3, by omega, by go_num, rfl, rfl, ⟨by simp [HL.out]⟩, ⟨by omega, by omega⟩, ⟨by rw [HST.out]; rfl⟩, HS3⟩
              case measure => simp [intOf]; omega
          · obtain rfl : i = mems.length := by omega
            have HV := Aside0.mk (show wsR (⟨id, gn, gs, mems, lost, built, seq, tail, gen, dirty, fuse, down, false⟩ : ArrV) s = wsEnd (some (l, ms)) by unfold wsR; rw [HW.out])
            by_cases hge : 0 ≤ ms
            · obtain ⟨q, rfl⟩ : ∃ q : Nat, ms = (q : Int) := ⟨ms.toNat, by omega⟩
              have hq : q < l.length := by rw [HL.out]; omega
              obtain ⟨g, cap, hg9, _, _⟩ := O_form (show oInt.O 3 wr F (.slice A mems.length c) l from HR.out.get 0 rfl) (by omega)
              obtain rfl := (Value.slice.inj hg9).1
              clear hg9
              have HV2 := Aside0.mk (show wsR (⟨id, gn, gs, mems, lost, built, seq, tail, gen, dirty, fuse, down, false⟩ : ArrV) s = (l.set q (missV l (q : Int)), true) by rw [HV.out, wsEnd, if_pos (by omega), Int.toNat_natCast])
              have hgeb : decide ((0 : Int) ≤ (q : Int)) = true := decide_eq_true (by omega)
              have q0 : (0 : Int) ≤ (q : Int) := by omega
              have ql : (q : Int) < (mems.length : Int) := by omega
              have hll := HL.out
              have HLL := Aside0.mk hll
              have hl9 : l.length ≤ 16777216 := by rw [HLL.out]; exact HML.out
              clear hll hge
              go_wp2_with (first
                | (go_at_call 70; refine (c_implMissing (O_RK (show oInt.O 3 wr F _ l from HR.out.get 0 rfl)) (by omega)).mono ?_; rintro e w2 ⟨rfl, hb⟩; have hs2 := HR.out.dr hb; have HS2 := Aside0.mk hs2; clear hs2 hb; obtain ⟨u9, cc1, cc2⟩ := O_cells (d := oInt) (i := q) (t := 0) (HS2.out.get 0 rfl) hq (by decide); simp only [show oInt.sz = 1 from rfl, Nat.mul_one, Nat.add_zero] at cc1 cc2)
                | fail)
              go_ret2
              rw [HV2.out]
              first | exact ⟨_, _, rfl, (HS2.out.seti 0 rfl hq (missV l (q : Int))).toNew 0 rfl⟩ | exact ⟨_, rfl, _, (HS2.out.seti 0 rfl hq (missV l (q : Int))).toNew 0 rfl⟩
            · have hgeb : decide (0 ≤ ms) = false := decide_eq_false hge
              have HV2 := Aside0.mk (show wsR (⟨id, gn, gs, mems, lost, built, seq, tail, gen, dirty, fuse, down, false⟩ : ArrV) s = (l, true) by rw [HV.out, wsEnd, if_neg hge])
              go_wp2
              go_ret2
              rw [HV2.out]
              first | exact ⟨_, _, rfl, HR.out.toNew 0 rfl⟩ | exact ⟨_, rfl, _, HR.out.toNew 0 rfl⟩
      · simp only [Bool.not_eq_true] at hin
        have HIN := Aside0.mk hin
        clear hin
        have HN := Aside0.mk (wordsR_no (show wordsB (⟨id, gn, gs, mems, lost, built, seq, tail, gen, dirty, fuse, down, false⟩ : ArrV) s = false by unfold wordsB; rw [HA.out]; simp only; rw [HIN.out]; rfl))
        go_enter Try.func24, Try.ntmps24
        go_wp2_with (first
          | (go_at_call 17; refine (c_implArrOk (ArrR_below H.out HS.out.toBelow) HSM.out).mono ?_; rw [HA.out]; rintro e w1 ⟨rfl, hb⟩; have hs1 := HS.out.below hb; clear hb HS; have HS := Aside0.mk hs1; clear hs1 k0 k1 k2 k3 k4 k5 k6 k7 k8 k9 k10 k11 k12; obtain ⟨k0, k1, k2, k3, k4, k5, k6, k7, k8, k9, k10, k11, k12⟩ := thirteen (HS.out.get 0 rfl))
          | (go_at_call 68; refine (c_hasStripe _ _ _ _ HG.out).mono ?_; rw [HIN.out]; rintro e w2 ⟨rfl, hb⟩; have hs1 := HS.out.below hb; clear hb HS; have HS := Aside0.mk hs1; clear hs1 k0 k1 k2 k3 k4 k5 k6 k7 k8 k9 k10 k11 k12; obtain ⟨k0, k1, k2, k3, k4, k5, k6, k7, k8, k9, k10, k11, k12⟩ := thirteen (HS.out.get 0 rfl))
          | fail)
        go_ret2
        rw [HN.out]
        first | exact ⟨_, _, rfl, (HS.out.nil oInt 3).toNew 0 rfl⟩ | exact ⟨_, rfl, _, (HS.out.nil oInt 3).toNew 0 rfl⟩
    · subst hbr
      have HN := Aside0.mk (wordsR_no (show wordsB (⟨id, gn, gs, mems, lost, built, seq, tail, gen, dirty, fuse, down, true⟩ : ArrV) s = false by unfold wordsB; rw [HA.out]; rfl))
      go_enter Try.func24, Try.ntmps24
      go_wp2_with (first
        | (go_at_call 17; refine (c_implArrOk (ArrR_below H.out HS.out.toBelow) HSM.out).mono ?_; rw [HA.out]; rintro e w1 ⟨rfl, hb⟩; have hs1 := HS.out.below hb; clear hb HS; have HS := Aside0.mk hs1; clear hs1 k0 k1 k2 k3 k4 k5 k6 k7 k8 k9 k10 k11 k12; obtain ⟨k0, k1, k2, k3, k4, k5, k6, k7, k8, k9, k10, k11, k12⟩ := thirteen (HS.out.get 0 rfl))
        | fail)
      go_ret2
      rw [HN.out]
      first | exact ⟨_, _, rfl, (HS.out.nil oInt 3).toNew 0 rfl⟩ | exact ⟨_, rfl, _, (HS.out.nil oInt 3).toNew 0 rfl⟩
  · simp only [Bool.not_eq_true] at hA
    have HA := Aside0.mk hA
    clear hA
    have HN := Aside0.mk (wordsR_no (show wordsB (⟨id, gn, gs, mems, lost, built, seq, tail, gen, dirty, fuse, down, broken⟩ : ArrV) s = false by unfold wordsB; rw [HA.out]; rfl))
    go_enter Try.func24, Try.ntmps24
    go_wp2_with (first
      | (go_at_call 17; refine (c_implArrOk (ArrR_below H.out HS.out.toBelow) HSM.out).mono ?_; rw [HA.out]; rintro e w1 ⟨rfl, hb⟩; have hs1 := HS.out.below hb; clear hb HS; have HS := Aside0.mk hs1; clear hs1 k0 k1 k2 k3 k4 k5 k6 k7 k8 k9 k10 k11 k12; obtain ⟨k0, k1, k2, k3, k4, k5, k6, k7, k8, k9, k10, k11, k12⟩ := thirteen (HS.out.get 0 rfl))
      | fail)
    go_ret2
    rw [HN.out]
    first | exact ⟨_, _, rfl, (HS.out.nil oInt 3).toNew 0 rfl⟩ | exact ⟨_, rfl, _, (HS.out.nil oInt 3).toNew 0 rfl⟩
end Go.Proofs.Ytggmifnblcjdfaa.AWords

/- Where parities and blocks are, of both. Printed by mkadata.py. -/
namespace Go.Proofs.Ytggmifnblcjdfaa.AGeo
open Go.RowKit Go.Proofs.Ytggmifnblcjdfaa.RJ Go.Proofs.Ytggmifnblcjdfaa.RP Go.Proofs.YtggmifnblcjdfaaW.PrintWords Go.Proofs.Ytggmifnblcjdfaa.Fp Go.Proofs.Ytggmifnblcjdfaa.FpStep Go.Proofs.Ytggmifnblcjdfaa.MInt Go.Proofs.Ytggmifnblcjdfaa.MKinds Go.Proofs.Ytggmifnblcjdfaa.MRead Go.Proofs.Ytggmifnblcjdfaa.MMake Go.Proofs.Ytggmifnblcjdfaa.MPut Go.Proofs.Ytggmifnblcjdfaa.MHeld Go.Proofs.Ytggmifnblcjdfaa.MOk Go.Proofs.Ytggmifnblcjdfaa.MSuper Go.Proofs.Ytggmifnblcjdfaa.Sep Go.Proofs.Ytggmifnblcjdfaa.SepStep Go.Proofs.Ytggmifnblcjdfaa.AKinds Go.Proofs.Ytggmifnblcjdfaa.AMake Go.Proofs.Ytggmifnblcjdfaa.AEnt Go.Proofs.Ytggmifnblcjdfaa.ALaw Go.Proofs.Ytggmifnblcjdfaa.AArr Go.Proofs.Ytggmifnblcjdfaa.AOk Go.Proofs.Ytggmifnblcjdfaa.AOkD Go.Proofs.Ytggmifnblcjdfaa.AOkI
set_option linter.unusedVariables false
set_option linter.unusedSimpArgs false
def parN (n st : Int) : Int := n - 1 - st % n
def diskN (n st i : Int) : Int := (parN n st + 1 + i) % n
theorem parN_in {n st : Int} (hn : 3 ≤ n ∧ n ≤ 5) : 0 ≤ parN n st ∧ parN n st < n := by
  have h1 := Int.emod_nonneg st (b := n) (by omega)
  have h2 := Int.emod_lt_of_pos st (b := n) (by omega)
  unfold parN; omega
theorem diskN_in {n st i : Int} (hn : 3 ≤ n ∧ n ≤ 5) : 0 ≤ diskN n st i ∧ diskN n st i < n := ⟨Int.emod_nonneg _ (by omega), Int.emod_lt_of_pos _ (by omega)⟩
theorem c_l3Stripe (n s st : Int) (w : World) (hg : geoB n s = true) :
    Calls Try.prog 131 #[.agg #[.int .i64 n, .int .i64 s], .int .i64 st] w fun e w' => e = .returned (.bool (inR st 0 (s - 1))) ∧ Below w.heap.size w w' := by
  have hs : 1 ≤ s ∧ s ≤ 8 := by simp [geoB, inR] at hg; omega
  have ws : IntKind.i64.wrap (s - 1) = s - 1 := IntWalk.i64_in _ (by omega)
  have HG := Aside0.mk hg
  clear hs hg
  have H0 := Aside0.mk ((Sep.start w []).alloc (g := w.heap.size) rfl #[.int .i64 n, .int .i64 s] 30)
  go_enter Try.func131, Try.ntmps131
  go_wp2_with (first
    | (go_at_call 38; refine (c_l1In _ _ _ _).mono ?_; rintro e w2 ⟨rfl, hb⟩; have HS2 := Aside0.mk (HS1.out.dr hb); clear hb)
    | (go_at_call 45; refine (c_specGeoOk _ _ _).mono ?_; rw [HG.out]; rintro e w1 ⟨rfl, hb⟩; have HS1 := Aside0.mk (H0.out.below hb); clear hb; obtain ⟨k0, k1⟩ := two_cells (HS1.out.get 0 rfl))
    | fail)
  go_ret
  exact ⟨rfl, HS2.out.toBelow⟩
set_option maxHeartbeats 1000000 in
theorem c_implParityOf (n s st : Int) (w : World) (hg : geoB n s = true) (hi : inR st 0 (s - 1) = true) :
    Calls Try.prog 109 #[.agg #[.int .i64 n, .int .i64 s], .int .i64 st] w fun e w' => e = .returned (.int .i64 (parN n st)) ∧ Below w.heap.size w w' := by
  have hgn : 3 ≤ n ∧ n ≤ 5 := by simp [geoB, inR] at hg; omega
  have hst : 0 ≤ st := by simp [inR] at hi; omega
  have HG := Aside0.mk hg
  have HI := Aside0.mk hi
  have HS := Aside0.mk ((Sep.start w []).alloc (g := w.heap.size) rfl #[.int .i64 n, .int .i64 s] 30)
  obtain ⟨k0, k1⟩ := two_cells (HS.out.get 0 rfl)
  have hn0 : (n == 0) = false := by simp; omega
  have hnz : ¬ n = 0 := by omega
  have hm0 := Int.emod_nonneg st (b := n) (by omega)
  have hm1 := Int.emod_lt_of_pos st (b := n) (by omega)
  clear hg hi
  go_enter Try.func109, Try.ntmps109
  go_upto_region 3 with (first
    | (go_at_call 68; refine (c_hasStripe _ _ _ _ HG.out).mono ?_; rw [HI.out]; rintro e w1 ⟨rfl, hb⟩; have hs1 := HS.out.below hb; clear hb HS k0 k1; have HS := Aside0.mk hs1; clear hs1; obtain ⟨k0, k1⟩ := two_cells (HS.out.get 0 rfl))
    | fail)
  go_quiet (fail)
  go_wp2
  go_ret
  exact ⟨ret_int (by unfold parN; omega), (HS.out.drewN _).toBelow⟩
set_option maxHeartbeats 1000000 in
theorem c_implDiskOf (n s st i : Int) (w : World) (hg : geoB n s = true) (hi : inR st 0 (s - 1) = true) (hj : inR i 0 (n - 2) = true) :
    Calls Try.prog 72 #[.agg #[.int .i64 n, .int .i64 s], .int .i64 st, .int .i64 i] w fun e w' => e = .returned (.int .i64 (diskN n st i)) ∧ Below w.heap.size w w' := by
  have hgn : 3 ≤ n ∧ n ≤ 5 := by simp [geoB, inR] at hg; omega
  have hst : 0 ≤ st := by simp [inR] at hi; omega
  have HG := Aside0.mk hg
  have HI := Aside0.mk hi
  have HS := Aside0.mk ((Sep.start w []).alloc (g := w.heap.size) rfl #[.int .i64 n, .int .i64 s] 30)
  obtain ⟨k0, k1⟩ := two_cells (HS.out.get 0 rfl)
  have hn0 : (n == 0) = false := by simp; omega
  have hnz : ¬ n = 0 := by omega
  have hp := parN_in (st := st) hgn
  have hj2 : 0 ≤ i ∧ i ≤ n - 2 := by simp [inR] at hj; omega
  have HJ := Aside0.mk hj
  have wn : IntKind.i64.wrap (n - 2) = n - 2 := IntWalk.i64_in _ (by omega)
  have wn1 : IntKind.i64.wrap (parN n st + 1) = parN n st + 1 := IntWalk.i64_in _ (by omega)
  have wn2 : IntKind.i64.wrap (parN n st + 1 + i) = parN n st + 1 + i := IntWalk.i64_in _ (by omega)
  have hq : 0 ≤ parN n st + 1 + i := by omega
  clear hg hi hj
  go_enter Try.func72, Try.ntmps72
  go_upto_region 3 with (first
    | (go_at_call 68; refine (c_hasStripe _ _ _ _ HG.out).mono ?_; rw [HI.out]; rintro e w1 ⟨rfl, hb⟩; have hs1 := HS.out.below hb; clear hb HS k0 k1; have HS := Aside0.mk hs1; clear hs1; obtain ⟨k0, k1⟩ := two_cells (HS.out.get 0 rfl))
    | (go_at_call 41; refine (c_within _ _ _ _).mono ?_; rw [HJ.out]; rintro e w2 ⟨rfl, hb⟩; have hs1 := HS.out.dr hb; clear hb HS k0 k1; have HS := Aside0.mk hs1; clear hs1; obtain ⟨k0, k1⟩ := two_cells (HS.out.get 0 rfl))
    | fail)
  have HALL : ∀ w' : World, Below w2.heap.size w2 w' → (w'.cell? ⟨w.heap.size, 0, none⟩ = some (.int .i64 n) ∧ w'.cell? ⟨w.heap.size, 1, none⟩ = some (.int .i64 s)) := fun w' hb => ⟨(hb.cell (lt_of_cell k0)).trans k0, (hb.cell (lt_of_cell k1)).trans k1⟩
  replace HALL := Aside0.mk HALL
  clear k0 k1
  refine wp_region_seqp (fun w' => Below w2.heap.size w2 w') [] [(1, 2), (4, 2), (6, 2), (0, 1), (7, 1), (2, 0), (3, 2), (5, 2), (8, 2), (9, 0)] (by kernel_rfl) (by kernel_rfl) ?_
  have hS : Below w2.heap.size w2 w2.drew := Below.drew (Below.refl _ _)
  repeat (first | (refine seqp_pure rfl (fun _ _ _ h => h) (by rfl) (fun w_ => by go_simp; first | done | with_reducible rfl) ?_; (try simp only [Act.put, List.getElem_toArray, List.getElem_cons_succ, List.getElem_cons_zero, List.setIfInBounds_toArray, List.set_cons_zero, List.set_cons_succ])) | (refine seqp_take hS rfl (fun _ _ _ h => h) (by rfl) (fun w_ hSw => by have hSc := HALL.out w_ hSw; clear hSw; go_simp; first | done | with_reducible rfl) ?_; (try simp only [Act.put, List.getElem_toArray, List.getElem_cons_succ, List.getElem_cons_zero, List.setIfInBounds_toArray, List.set_cons_zero, List.set_cons_succ])) | (refine seqp_skip2 rfl (fun _ _ _ h => h) (by rfl) ?_; (try simp only [Act.put, List.getElem_toArray, List.getElem_cons_succ, List.getElem_cons_zero, List.setIfInBounds_toArray, List.set_cons_zero, List.set_cons_succ])) | (refine seqp_skip1 hS rfl (fun _ _ _ h => h) (by rfl) ?_; (try simp only [Act.put, List.getElem_toArray, List.getElem_cons_succ, List.getElem_cons_zero, List.setIfInBounds_toArray, List.set_cons_zero, List.set_cons_succ])) | (refine seqp_skip0 rfl (by rfl) ?_; (try simp only [Act.put, List.getElem_toArray, List.getElem_cons_succ, List.getElem_cons_zero, List.setIfInBounds_toArray, List.set_cons_zero, List.set_cons_succ])))
  refine seqp_step rfl (fun K hK => ?_)
  go_simp
  go_at_call 109; refine (c_implParityOf _ _ _ _ HG.out HI.out).mono ?_; rintro e w3 ⟨rfl, hb⟩
  replace hS := hS.trans (hb.mono hS.size); clear hb; refine hK.out _ _ ⟨fun _ _ => hS, ?_⟩; clear hK K; (try simp only [Act.put, List.getElem_toArray, List.getElem_cons_succ, List.getElem_cons_zero, List.setIfInBounds_toArray, List.set_cons_zero, List.set_cons_succ])
  repeat (first | (refine seqp_pure rfl (fun _ _ _ h => h) (by rfl) (fun w_ => by go_simp; first | done | with_reducible rfl) ?_; (try simp only [Act.put, List.getElem_toArray, List.getElem_cons_succ, List.getElem_cons_zero, List.setIfInBounds_toArray, List.set_cons_zero, List.set_cons_succ])) | (refine seqp_take hS rfl (fun _ _ _ h => h) (by rfl) (fun w_ hSw => by have hSc := HALL.out w_ hSw; clear hSw; go_simp; first | done | with_reducible rfl) ?_; (try simp only [Act.put, List.getElem_toArray, List.getElem_cons_succ, List.getElem_cons_zero, List.setIfInBounds_toArray, List.set_cons_zero, List.set_cons_succ])) | (refine seqp_skip2 rfl (fun _ _ _ h => h) (by rfl) ?_; (try simp only [Act.put, List.getElem_toArray, List.getElem_cons_succ, List.getElem_cons_zero, List.setIfInBounds_toArray, List.set_cons_zero, List.set_cons_succ])) | (refine seqp_skip1 hS rfl (fun _ _ _ h => h) (by rfl) ?_; (try simp only [Act.put, List.getElem_toArray, List.getElem_cons_succ, List.getElem_cons_zero, List.setIfInBounds_toArray, List.set_cons_zero, List.set_cons_succ])) | (refine seqp_skip0 rfl (by rfl) ?_; (try simp only [Act.put, List.getElem_toArray, List.getElem_cons_succ, List.getElem_cons_zero, List.setIfInBounds_toArray, List.set_cons_zero, List.set_cons_succ])))
  refine seqp_step rfl (fun K hK => ?_)
  go_simp
  refine hK.out _ _ ⟨fun _ _ => hS, ?_⟩; clear hK K; (try simp only [Act.put, List.getElem_toArray, List.getElem_cons_succ, List.getElem_cons_zero, List.setIfInBounds_toArray, List.set_cons_zero, List.set_cons_succ])
  refine seqp_done ?_
  go_wp2
  go_ret
  exact ⟨ret_int (by unfold diskN; first | rfl | exact (Int.tmod_eq_emod_of_nonneg hq)), (HS.out.below hS).toBelow⟩
set_option maxHeartbeats 1000000 in
theorem c_specParityOf (n s st : Int) (w : World) (hg : geoB n s = true) (hi : inR st 0 (s - 1) = true) :
    Calls Try.prog 132 #[.agg #[.int .i64 n, .int .i64 s], .int .i64 st] w fun e w' => e = .returned (.int .i64 (parN n st)) ∧ Below w.heap.size w w' := by
  have hgn : 3 ≤ n ∧ n ≤ 5 := by simp [geoB, inR] at hg; omega
  have hst : 0 ≤ st := by simp [inR] at hi; omega
  have HG := Aside0.mk hg
  have HI := Aside0.mk hi
  have HS := Aside0.mk ((Sep.start w []).alloc (g := w.heap.size) rfl #[.int .i64 n, .int .i64 s] 30)
  obtain ⟨k0, k1⟩ := two_cells (HS.out.get 0 rfl)
  have hn0 : (n == 0) = false := by simp; omega
  have hnz : ¬ n = 0 := by omega
  have hm0 := Int.emod_nonneg st (b := n) (by omega)
  have hm1 := Int.emod_lt_of_pos st (b := n) (by omega)
  clear hg hi
  go_enter Try.func132, Try.ntmps132
  go_upto_region 3 with (first
    | (go_at_call 131; refine (c_l3Stripe _ _ _ _ HG.out).mono ?_; rw [HI.out]; rintro e w1 ⟨rfl, hb⟩; have hs1 := HS.out.below hb; clear hb HS k0 k1; have HS := Aside0.mk hs1; clear hs1; obtain ⟨k0, k1⟩ := two_cells (HS.out.get 0 rfl))
    | fail)
  go_quiet (fail)
  go_wp2
  go_ret
  exact ⟨ret_int (by unfold parN; omega), (HS.out.drewN _).toBelow⟩
set_option maxHeartbeats 1000000 in
theorem c_specDiskOf (n s st i : Int) (w : World) (hg : geoB n s = true) (hi : inR st 0 (s - 1) = true) (hj : inR i 0 (n - 2) = true) :
    Calls Try.prog 108 #[.agg #[.int .i64 n, .int .i64 s], .int .i64 st, .int .i64 i] w fun e w' => e = .returned (.int .i64 (diskN n st i)) ∧ Below w.heap.size w w' := by
  have hgn : 3 ≤ n ∧ n ≤ 5 := by simp [geoB, inR] at hg; omega
  have hst : 0 ≤ st := by simp [inR] at hi; omega
  have HG := Aside0.mk hg
  have HI := Aside0.mk hi
  have HS := Aside0.mk ((Sep.start w []).alloc (g := w.heap.size) rfl #[.int .i64 n, .int .i64 s] 30)
  obtain ⟨k0, k1⟩ := two_cells (HS.out.get 0 rfl)
  have hn0 : (n == 0) = false := by simp; omega
  have hnz : ¬ n = 0 := by omega
  have hp := parN_in (st := st) hgn
  have hj2 : 0 ≤ i ∧ i ≤ n - 2 := by simp [inR] at hj; omega
  have HJ := Aside0.mk hj
  have wn : IntKind.i64.wrap (n - 2) = n - 2 := IntWalk.i64_in _ (by omega)
  have wn1 : IntKind.i64.wrap (parN n st + 1) = parN n st + 1 := IntWalk.i64_in _ (by omega)
  have wn2 : IntKind.i64.wrap (parN n st + 1 + i) = parN n st + 1 + i := IntWalk.i64_in _ (by omega)
  have hq : 0 ≤ parN n st + 1 + i := by omega
  clear hg hi hj
  go_enter Try.func108, Try.ntmps108
  go_upto_region 3 with (first
    | (go_at_call 131; refine (c_l3Stripe _ _ _ _ HG.out).mono ?_; rw [HI.out]; rintro e w1 ⟨rfl, hb⟩; have hs1 := HS.out.below hb; clear hb HS k0 k1; have HS := Aside0.mk hs1; clear hs1; obtain ⟨k0, k1⟩ := two_cells (HS.out.get 0 rfl))
    | (go_at_call 38; refine (c_l1In _ _ _ _).mono ?_; rw [HJ.out]; rintro e w2 ⟨rfl, hb⟩; have hs1 := HS.out.dr hb; clear hb HS k0 k1; have HS := Aside0.mk hs1; clear hs1; obtain ⟨k0, k1⟩ := two_cells (HS.out.get 0 rfl))
    | fail)
  have HALL : ∀ w' : World, Below w2.heap.size w2 w' → (w'.cell? ⟨w.heap.size, 0, none⟩ = some (.int .i64 n) ∧ w'.cell? ⟨w.heap.size, 1, none⟩ = some (.int .i64 s)) := fun w' hb => ⟨(hb.cell (lt_of_cell k0)).trans k0, (hb.cell (lt_of_cell k1)).trans k1⟩
  replace HALL := Aside0.mk HALL
  clear k0 k1
  refine wp_region_seqp (fun w' => Below w2.heap.size w2 w') [] [(1, 2), (4, 2), (6, 2), (0, 1), (7, 1), (2, 0), (3, 2), (5, 2), (8, 2), (9, 0)] (by kernel_rfl) (by kernel_rfl) ?_
  have hS : Below w2.heap.size w2 w2.drew := Below.drew (Below.refl _ _)
  repeat (first | (refine seqp_pure rfl (fun _ _ _ h => h) (by rfl) (fun w_ => by go_simp; first | done | with_reducible rfl) ?_; (try simp only [Act.put, List.getElem_toArray, List.getElem_cons_succ, List.getElem_cons_zero, List.setIfInBounds_toArray, List.set_cons_zero, List.set_cons_succ])) | (refine seqp_take hS rfl (fun _ _ _ h => h) (by rfl) (fun w_ hSw => by have hSc := HALL.out w_ hSw; clear hSw; go_simp; first | done | with_reducible rfl) ?_; (try simp only [Act.put, List.getElem_toArray, List.getElem_cons_succ, List.getElem_cons_zero, List.setIfInBounds_toArray, List.set_cons_zero, List.set_cons_succ])) | (refine seqp_skip2 rfl (fun _ _ _ h => h) (by rfl) ?_; (try simp only [Act.put, List.getElem_toArray, List.getElem_cons_succ, List.getElem_cons_zero, List.setIfInBounds_toArray, List.set_cons_zero, List.set_cons_succ])) | (refine seqp_skip1 hS rfl (fun _ _ _ h => h) (by rfl) ?_; (try simp only [Act.put, List.getElem_toArray, List.getElem_cons_succ, List.getElem_cons_zero, List.setIfInBounds_toArray, List.set_cons_zero, List.set_cons_succ])) | (refine seqp_skip0 rfl (by rfl) ?_; (try simp only [Act.put, List.getElem_toArray, List.getElem_cons_succ, List.getElem_cons_zero, List.setIfInBounds_toArray, List.set_cons_zero, List.set_cons_succ])))
  refine seqp_step rfl (fun K hK => ?_)
  go_simp
  go_at_call 132; refine (c_specParityOf _ _ _ _ HG.out HI.out).mono ?_; rintro e w3 ⟨rfl, hb⟩
  replace hS := hS.trans (hb.mono hS.size); clear hb; refine hK.out _ _ ⟨fun _ _ => hS, ?_⟩; clear hK K; (try simp only [Act.put, List.getElem_toArray, List.getElem_cons_succ, List.getElem_cons_zero, List.setIfInBounds_toArray, List.set_cons_zero, List.set_cons_succ])
  repeat (first | (refine seqp_pure rfl (fun _ _ _ h => h) (by rfl) (fun w_ => by go_simp; first | done | with_reducible rfl) ?_; (try simp only [Act.put, List.getElem_toArray, List.getElem_cons_succ, List.getElem_cons_zero, List.setIfInBounds_toArray, List.set_cons_zero, List.set_cons_succ])) | (refine seqp_take hS rfl (fun _ _ _ h => h) (by rfl) (fun w_ hSw => by have hSc := HALL.out w_ hSw; clear hSw; go_simp; first | done | with_reducible rfl) ?_; (try simp only [Act.put, List.getElem_toArray, List.getElem_cons_succ, List.getElem_cons_zero, List.setIfInBounds_toArray, List.set_cons_zero, List.set_cons_succ])) | (refine seqp_skip2 rfl (fun _ _ _ h => h) (by rfl) ?_; (try simp only [Act.put, List.getElem_toArray, List.getElem_cons_succ, List.getElem_cons_zero, List.setIfInBounds_toArray, List.set_cons_zero, List.set_cons_succ])) | (refine seqp_skip1 hS rfl (fun _ _ _ h => h) (by rfl) ?_; (try simp only [Act.put, List.getElem_toArray, List.getElem_cons_succ, List.getElem_cons_zero, List.setIfInBounds_toArray, List.set_cons_zero, List.set_cons_succ])) | (refine seqp_skip0 rfl (by rfl) ?_; (try simp only [Act.put, List.getElem_toArray, List.getElem_cons_succ, List.getElem_cons_zero, List.setIfInBounds_toArray, List.set_cons_zero, List.set_cons_succ])))
  refine seqp_step rfl (fun K hK => ?_)
  go_simp
  refine hK.out _ _ ⟨fun _ _ => hS, ?_⟩; clear hK K; (try simp only [Act.put, List.getElem_toArray, List.getElem_cons_succ, List.getElem_cons_zero, List.setIfInBounds_toArray, List.set_cons_zero, List.set_cons_succ])
  refine seqp_done ?_
  go_wp2
  go_ret
  exact ⟨ret_int (by unfold diskN; first | rfl | exact (Int.tmod_eq_emod_of_nonneg hq)), (HS.out.below hS).toBelow⟩
end Go.Proofs.Ytggmifnblcjdfaa.AGeo

/- The blocks of a stripe, of both. Printed by mkadata.py. -/
namespace Go.Proofs.Ytggmifnblcjdfaa.AData
open Go.RowKit Go.Proofs.Ytggmifnblcjdfaa.RJ Go.Proofs.Ytggmifnblcjdfaa.RP Go.Proofs.YtggmifnblcjdfaaW.PrintWords Go.Proofs.Ytggmifnblcjdfaa.Fp Go.Proofs.Ytggmifnblcjdfaa.FpStep Go.Proofs.Ytggmifnblcjdfaa.MInt Go.Proofs.Ytggmifnblcjdfaa.MKinds Go.Proofs.Ytggmifnblcjdfaa.MRead Go.Proofs.Ytggmifnblcjdfaa.MMake Go.Proofs.Ytggmifnblcjdfaa.MPut Go.Proofs.Ytggmifnblcjdfaa.MHeld Go.Proofs.Ytggmifnblcjdfaa.MOk Go.Proofs.Ytggmifnblcjdfaa.MSuper Go.Proofs.Ytggmifnblcjdfaa.Sep Go.Proofs.Ytggmifnblcjdfaa.SepStep Go.Proofs.Ytggmifnblcjdfaa.AKinds Go.Proofs.Ytggmifnblcjdfaa.AMake Go.Proofs.Ytggmifnblcjdfaa.AEnt Go.Proofs.Ytggmifnblcjdfaa.ALaw Go.Proofs.Ytggmifnblcjdfaa.AArr Go.Proofs.Ytggmifnblcjdfaa.AOk Go.Proofs.Ytggmifnblcjdfaa.MVal Go.Proofs.Ytggmifnblcjdfaa.AXor Go.Proofs.Ytggmifnblcjdfaa.AWord Go.Proofs.Ytggmifnblcjdfaa.AWords Go.Proofs.Ytggmifnblcjdfaa.AOkD Go.Proofs.Ytggmifnblcjdfaa.AOkI Go.Proofs.Ytggmifnblcjdfaa.AOkA Go.Proofs.Ytggmifnblcjdfaa.AGeo
set_option linter.unusedVariables false
set_option linter.unusedSimpArgs false
/-- The blocks among words. -/
def datL (l : List Int) (n st : Int) (i : Nat) : List Int := (List.range i).map fun (j : Nat) => l.getD (diskN n st (j : Int)).toNat 0
theorem datL_succ (l : List Int) (n st : Int) (i : Nat) : datL l n st (i + 1) = datL l n st i ++ [l.getD (diskN n st (i : Int)).toNat 0] := by simp [datL, List.range_succ]
def datE (n st : Int) (p : List Int × Bool) : List Int × Bool := if p.2 then (datL p.1 n st (n - 1).toNat, true) else ([], false)
def dataR (a : ArrV) (s : Int) : List Int × Bool := if wordsB a s then datE a.gn s (wsR a s) else ([], false)
theorem wsR_len2 {a : ArrV} {s : Int} (h : (wsR a s).2 = true) : (wsR a s).1.length = a.mems.length := by
  unfold wsR at *
  cases hq : wsV a s a.mems.length with
  | none => rw [hq] at h; cases h
  | some p =>
    obtain ⟨l, k⟩ := p
    have := wsV_len _ _ _ hq
    unfold wsEnd
    simp only
    split <;> simp <;> omega
theorem dataR_len (a : ArrV) (s : Int) : (dataR a s).1.length ≤ 5 := by
  unfold dataR
  split
  · rename_i h
    have hp := arrB_P (Bool.and_eq_true_iff.1 h).1
    have hg := hp.geo
    simp [geoB, inR] at hg
    unfold datE
    split
    · simp [datL]; omega
    · simp
  · simp
theorem dataR_no {a : ArrV} {s : Int} (h : wordsB a s = false) : dataR a s = ([], false) := by unfold dataR; rw [h]; rfl
theorem dataR_yes {a : ArrV} {s : Int} (h : wordsB a s = true) : dataR a s = datE a.gn s (wsR a s) := by unfold dataR; rw [if_pos h]
theorem O_int_at {w : World} {e : TypeId} {F : List Nat} {g n cap q : Nat} {l : List Int} {y : Int} (h : oInt.O e w F (.slice (some ⟨g, 0, none⟩) n cap) l) (hy : l[q]? = some y) : w.cell? ⟨g, q, none⟩ = some (.int .i64 y) := by
  obtain ⟨ad, cap2, hv, hc⟩ := ints_at (O_RK h) (by have := (List.getElem?_eq_some_iff.1 hy).1; omega)
  obtain rfl := Option.some.inj (Value.slice.inj hv).1
  have := hc q y hy
  by_cases h0 : q = 0
  · subst h0; simpa [Addr.add] using this
  · simpa [Addr.add, h0] using this
set_option maxHeartbeats 4000000 in
set_option maxRecDepth 100000 in
theorem c_specL6Data {w : World} {v : Value} {a : ArrV} {s : Int} (h : ArrR w v a) (hsm : SmallA a) (hlen : (a.mems.length : Int) = a.gn) (hg : geoB a.gn a.gs = true) (hin : inR s 0 (a.gs - 1) = true) :
    Calls Try.prog 71 #[v, .int .i64 s] w fun e w' => ∃ u F, e = .returned (.tuple #[u, .bool (datE a.gn s (wsR a s)).2]) ∧ New w w' (rw_ oInt 3 F u (datE a.gn s (wsR a s)).1) := by
  have H := Aside0.mk h
  have HSM := Aside0.mk hsm
  have HLEN := Aside0.mk hlen
  have HG := Aside0.mk hg
  have HI := Aside0.mk hin
  have HG3 := Aside0.mk (show 3 ≤ a.gn ∧ a.gn ≤ 5 by simp [geoB, inR] at hg; omega)
  obtain ⟨vm, vd, rfl, r1, r2⟩ := h
  have HS := Aside0.mk ((Sep.start w []).alloc (g := w.heap.size) rfl (arrC a vm vd) 34)
  clear r1 r2 hsm hg hin hlen
  obtain ⟨⟨l, lb⟩, hp⟩ : ∃ p, wsR a s = p := ⟨_, rfl⟩
  have HP := Aside0.mk hp
  have HLL := Aside0.mk (show lb = true → (l.length : Int) = a.gn from fun hb => by have := wsR_len2 (a := a) (s := s) (by rw [HP.out]; exact hb); rw [HP.out] at this; have := HLEN.out; simp only at *; omega)
  clear hp
  obtain ⟨id, gn, gs, mems, lost, built, seq, tail, gen, dirty, fuse, down, broken⟩ := a
  simp only [arrC] at *
  have wgn : IntKind.i64.wrap (gn - 1) = gn - 1 := IntWalk.i64_in _ (by have := HG3.out; omega)
  obtain ⟨k0, k1, k2, k3, k4, k5, k6, k7, k8, k9, k10, k11, k12⟩ := thirteen (HS.out.get 0 rfl)
  rw [HP.out]
  cases lb
  · go_enter Try.func71, Try.ntmps71
    go_upto_region 2 with (first
      | (go_at_call 67; refine (c_specL6Words (ArrR_below H.out HS.out.toBelow) HSM.out HLEN.out).mono ?_; rw [HP.out]; rintro e w2 ⟨u, FW, rfl, hn⟩; have HS2 := Aside0.mk (HS.out.new hn); clear hn k0 k1 k2 k3 k4 k5 k6 k7 k8 k9 k10 k11 k12)
      | fail)
    have HI0 := Aside0.mk (HS2.out.lit (g := w2.heap.size) rfl oInt 3)
    obtain ⟨k0, k1, k2, k3, k4, k5, k6, k7, k8, k9, k10, k11, k12⟩ := thirteen (HI0.out.get 2 rfl)
    have hg3 := HG3.out
    have h01 : decide ((0 : Int) < gn - 1) = true := decide_eq_true (by omega)
    go_wp2
    refine wp_loop_rounds 1 ?_
    rw [rounds_succ]
    go_wp2
    go_ret2
    first | exact ⟨_, _, rfl, HI0.out.toNew 0 rfl⟩ | exact ⟨_, rfl, _, HI0.out.toNew 0 rfl⟩
  · replace HLL := Aside0.mk (HLL.out rfl)
    go_enter Try.func71, Try.ntmps71
    go_upto_region 2 with (first
      | (go_at_call 67; refine (c_specL6Words (ArrR_below H.out HS.out.toBelow) HSM.out HLEN.out).mono ?_; rw [HP.out]; rintro e w2 ⟨u, FW, rfl, hn⟩; have HS2 := Aside0.mk (HS.out.new hn); clear hn k0 k1 k2 k3 k4 k5 k6 k7 k8 k9 k10 k11 k12)
      | fail)
    have hw0 : 0 < l.length := by have := HLL.out; have := HG3.out; omega
    obtain ⟨gw, cw, hgw, _, _⟩ := O_form (show oInt.O 3 w2 FW u l from HS2.out.get 0 rfl) hw0
    subst hgw
    have HI0 := Aside0.mk (HS2.out.lit (g := w2.heap.size) rfl oInt 3)
    obtain ⟨k0, k1, k2, k3, k4, k5, k6, k7, k8, k9, k10, k11, k12⟩ := thirteen (HI0.out.get 2 rfl)
    go_wp2
    go_loopw [8, 9] (fun v8 v9 wr => ∃ (i : Nat) (A : Option Addr) (c : Nat) (F : List Nat), (i : Int) ≤ gn - 1 ∧ v9 = .int .i64 i ∧ v8 = .slice A i c ∧ Aside0 (Sep w [] wr [rw_ oInt 3 F (.slice A i c) (datL l gn s i), rw_ oInt 3 FW (.slice (some ⟨gw, 0, none⟩) l.length cw) l, bx w.heap.size 34 #[.int .i64 id, .int .i64 gn, .int .i64 gs, vm, .int .i64 lost, .int .i64 built, .int .i64 seq, .int .i64 tail, .int .i64 gen, vd, .int .i64 fuse, .bool down, .bool broken]])) (fun _ v9 _ => 6 - (intOf v9).toNat)
    case atStart => exact ⟨0, _, _, _, by have := HG3.out; omega, rfl, rfl, HI0⟩
    case round =>
      clear HI0 k0 k1 k2 k3 k4 k5 k6 k7 k8 k9 k10 k11 k12
      obtain ⟨i, A, c, F, hi, rfl, rfl, HR⟩ := hrel
      obtain ⟨k0, k1, k2, k3, k4, k5, k6, k7, k8, k9, k10, k11, k12⟩ := thirteen (HR.out.get 2 rfl)
      by_cases hlt : (i : Int) < gn - 1
      · have hd := diskN_in (st := s) (i := (i : Int)) HG3.out
        obtain ⟨q, hq⟩ : ∃ q : Nat, diskN gn s (i : Int) = (q : Int) := ⟨(diskN gn s (i : Int)).toNat, by omega⟩
        have HQ := Aside0.mk hq
        have hql : q < l.length := by have := HLL.out; omega
        obtain ⟨y, hy⟩ : ∃ y, l[q]? = some y := ⟨_, List.getElem?_eq_getElem hql⟩
        have HST := Aside0.mk (show datL l gn s (i + 1) = datL l gn s i ++ [y] by rw [datL_succ, HQ.out, Int.toNat_natCast, List.getD_eq_getElem?_getD, hy]; rfl)
        have hqi : (q : Int) < (l.length : Int) := by omega
        have q0 : (0 : Int) ≤ (q : Int) := by omega
        have hg5 := HG3.out
        clear hq hd
        go_wp2_with (first
          | (go_at_call 108; refine (c_specDiskOf _ _ _ _ _ HG.out HI.out (by simp [inR]; omega)).mono ?_; rw [HQ.out]; rintro e w2 ⟨rfl, hb⟩; have hs2 := HR.out.below hb; have HS2 := Aside0.mk hs2; clear hs2 hb k0 k1 k2 k3 k4 k5 k6 k7 k8 k9 k10 k11 k12; obtain ⟨k0, k1, k2, k3, k4, k5, k6, k7, k8, k9, k10, k11, k12⟩ := thirteen (HS2.out.get 2 rfl); have cc1 := O_int_at (show oInt.O 3 w2 FW (.slice (some ⟨gw, 0, none⟩) l.length cw) l from HS2.out.get 1 rfl) hy)
          | (at_builtin; (refine app_one0 (d := oInt) (y := y) HS2.out rfl _ _ 44 (.int .i64 0) 8 (by rfl) Try.underlying44 (by kernel_rfl) rfl (by decide) (by decide) [.int .i64 y] (by first | exact ⟨rfl, rfl⟩ | rfl | simp [oInt, Od.int]) (by rfl) (by rfl) rfl (n := i) (by simp [datL]) (by omega) ?_); intro A3 c3 w3 F3 hs3; have HS3 := Aside0.mk hs3; clear hs3)
          | fail)
        go_roundw
        case rel => exact ⟨i + 1, A3, c3, F3, by omega, by go_num, rfl, ⟨by rw [HST.out]; exact HS3.out⟩⟩
        case measure => have := HG3.out; simp [intOf]; omega
      · have hn1 : i = (gn - 1).toNat := by omega
        have HV := Aside0.mk (show datE gn s (l, true) = (datL l gn s i, true) by unfold datE; simp only [if_true]; rw [← hn1])
        clear hn1
        go_wp2
        go_ret2
        rw [HV.out]
        first | exact ⟨_, _, rfl, HR.out.toNew 0 rfl⟩ | exact ⟨_, rfl, _, HR.out.toNew 0 rfl⟩
set_option maxHeartbeats 4000000 in
set_option maxRecDepth 100000 in
theorem c_specDataOf {w : World} {v : Value} {a : ArrV} {s : Int} (h : ArrR w v a) (hsm : SmallA a) :
    Calls Try.prog 28 #[v, .int .i64 s] w fun e w' => ∃ u F, e = .returned (.tuple #[u, .bool (dataR a s).2]) ∧ New w w' (rw_ oInt 3 F u (dataR a s).1) := by
  have H := Aside0.mk h
  have HSM := Aside0.mk hsm
  have HML := Aside0.mk hsm.1
  obtain ⟨vm, vd, rfl, r1, r2⟩ := h
  obtain ⟨A1, c1, rfl, hl1, _⟩ := id r1
  have lm := RK_len r1
  have hmlb := hsm.1
  clear r1 r2 hl1 hsm
  have HS := Aside0.mk ((Sep.start w []).alloc (g := w.heap.size) rfl (arrC a (.slice A1 a.mems.length c1) vd) 34)
  obtain ⟨id, gn, gs, mems, lost, built, seq, tail, gen, dirty, fuse, down, broken⟩ := a
  simp only [arrC] at *
  obtain ⟨k0, k1, k2, k3, k4, k5, k6, k7, k8, k9, k10, k11, k12⟩ := thirteen (HS.out.get 0 rfl)
  by_cases hA : arrB (⟨id, gn, gs, mems, lost, built, seq, tail, gen, dirty, fuse, down, broken⟩ : ArrV) = true
  · have HA := Aside0.mk hA
    have HP := Aside0.mk (arrB_P hA)
    have hgs : 1 ≤ gs ∧ gs ≤ 8 := by have := HP.out.geo; simp [geoB, inR] at this; omega
    have HG := Aside0.mk HP.out.geo
    have wgs : IntKind.i64.wrap (gs - 1) = gs - 1 := IntWalk.i64_in _ (by omega)
    clear hA hgs
    cases hbr : broken
    · subst hbr
      by_cases hin : inR s 0 (gs - 1) = true
      · have HIN := Aside0.mk hin
        clear hin
        have HY := Aside0.mk (dataR_yes (show wordsB (⟨id, gn, gs, mems, lost, built, seq, tail, gen, dirty, fuse, down, false⟩ : ArrV) s = true by unfold wordsB; rw [HA.out]; simp only; rw [HIN.out]; rfl))
        go_enter Try.func28, Try.ntmps28
        go_wp2_with (first
          | (go_at_call 16; refine (c_specArrOk (ArrR_below H.out HS.out.toBelow) HSM.out).mono ?_; rw [HA.out]; rintro e w1 ⟨rfl, hb⟩; have hs1 := HS.out.below hb; clear hb HS; have HS := Aside0.mk hs1; clear hs1 k0 k1 k2 k3 k4 k5 k6 k7 k8 k9 k10 k11 k12; obtain ⟨k0, k1, k2, k3, k4, k5, k6, k7, k8, k9, k10, k11, k12⟩ := thirteen (HS.out.get 0 rfl))
          | (go_at_call 38; refine (c_l1In _ _ _ _).mono ?_; rw [HIN.out]; rintro e w2 ⟨rfl, hb⟩; have hs1 := HS.out.dr hb; clear hb HS; have HS := Aside0.mk hs1; clear hs1 k0 k1 k2 k3 k4 k5 k6 k7 k8 k9 k10 k11 k12; obtain ⟨k0, k1, k2, k3, k4, k5, k6, k7, k8, k9, k10, k11, k12⟩ := thirteen (HS.out.get 0 rfl))
          | (go_at_call 71; refine (c_specL6Data (ArrR_below H.out HS.out.toBelow) HSM.out HP.out.len HP.out.geo HIN.out).mono ?_; rintro e w3 ⟨u, F, rfl, hn⟩; have HS3 := Aside0.mk (HS.out.new hn); clear hn)
          | fail)
        go_ret2
        rw [HY.out]
        exact ⟨u, F, rfl, HS3.out.toNew 0 rfl⟩
      · simp only [Bool.not_eq_true] at hin
        have HIN := Aside0.mk hin
        clear hin
        have HN := Aside0.mk (dataR_no (show wordsB (⟨id, gn, gs, mems, lost, built, seq, tail, gen, dirty, fuse, down, false⟩ : ArrV) s = false by unfold wordsB; rw [HA.out]; simp only; rw [HIN.out]; rfl))
        go_enter Try.func28, Try.ntmps28
        go_wp2_with (first
          | (go_at_call 16; refine (c_specArrOk (ArrR_below H.out HS.out.toBelow) HSM.out).mono ?_; rw [HA.out]; rintro e w1 ⟨rfl, hb⟩; have hs1 := HS.out.below hb; clear hb HS; have HS := Aside0.mk hs1; clear hs1 k0 k1 k2 k3 k4 k5 k6 k7 k8 k9 k10 k11 k12; obtain ⟨k0, k1, k2, k3, k4, k5, k6, k7, k8, k9, k10, k11, k12⟩ := thirteen (HS.out.get 0 rfl))
          | (go_at_call 38; refine (c_l1In _ _ _ _).mono ?_; rw [HIN.out]; rintro e w2 ⟨rfl, hb⟩; have hs1 := HS.out.dr hb; clear hb HS; have HS := Aside0.mk hs1; clear hs1 k0 k1 k2 k3 k4 k5 k6 k7 k8 k9 k10 k11 k12; obtain ⟨k0, k1, k2, k3, k4, k5, k6, k7, k8, k9, k10, k11, k12⟩ := thirteen (HS.out.get 0 rfl))
          | fail)
        go_ret2
        rw [HN.out]
        first | exact ⟨_, _, rfl, (HS.out.lit rfl oInt 3).toNew 0 rfl⟩ | exact ⟨_, rfl, _, (HS.out.lit rfl oInt 3).toNew 0 rfl⟩
    · subst hbr
      have HN := Aside0.mk (dataR_no (show wordsB (⟨id, gn, gs, mems, lost, built, seq, tail, gen, dirty, fuse, down, true⟩ : ArrV) s = false by unfold wordsB; rw [HA.out]; rfl))
      go_enter Try.func28, Try.ntmps28
      go_wp2_with (first
        | (go_at_call 16; refine (c_specArrOk (ArrR_below H.out HS.out.toBelow) HSM.out).mono ?_; rw [HA.out]; rintro e w1 ⟨rfl, hb⟩; have hs1 := HS.out.below hb; clear hb HS; have HS := Aside0.mk hs1; clear hs1 k0 k1 k2 k3 k4 k5 k6 k7 k8 k9 k10 k11 k12; obtain ⟨k0, k1, k2, k3, k4, k5, k6, k7, k8, k9, k10, k11, k12⟩ := thirteen (HS.out.get 0 rfl))
        | fail)
      go_ret2
      rw [HN.out]
      first | exact ⟨_, _, rfl, (HS.out.lit rfl oInt 3).toNew 0 rfl⟩ | exact ⟨_, rfl, _, (HS.out.lit rfl oInt 3).toNew 0 rfl⟩
  · simp only [Bool.not_eq_true] at hA
    have HA := Aside0.mk hA
    clear hA
    have HN := Aside0.mk (dataR_no (show wordsB (⟨id, gn, gs, mems, lost, built, seq, tail, gen, dirty, fuse, down, broken⟩ : ArrV) s = false by unfold wordsB; rw [HA.out]; rfl))
    go_enter Try.func28, Try.ntmps28
    go_wp2_with (first
      | (go_at_call 16; refine (c_specArrOk (ArrR_below H.out HS.out.toBelow) HSM.out).mono ?_; rw [HA.out]; rintro e w1 ⟨rfl, hb⟩; have hs1 := HS.out.below hb; clear hb HS; have HS := Aside0.mk hs1; clear hs1 k0 k1 k2 k3 k4 k5 k6 k7 k8 k9 k10 k11 k12; obtain ⟨k0, k1, k2, k3, k4, k5, k6, k7, k8, k9, k10, k11, k12⟩ := thirteen (HS.out.get 0 rfl))
      | fail)
    go_ret2
    rw [HN.out]
    first | exact ⟨_, _, rfl, (HS.out.lit rfl oInt 3).toNew 0 rfl⟩ | exact ⟨_, rfl, _, (HS.out.lit rfl oInt 3).toNew 0 rfl⟩
set_option maxHeartbeats 4000000 in
set_option maxRecDepth 100000 in
theorem c_implDataOf {w : World} {v : Value} {a : ArrV} {s : Int} (h : ArrR w v a) (hsm : SmallA a) :
    Calls Try.prog 29 #[v, .int .i64 s] w fun e w' => ∃ u F, e = .returned (.tuple #[u, .bool (dataR a s).2]) ∧ New w w' (rw_ oInt 3 F u (dataR a s).1) := by
  have H := Aside0.mk h
  have HSM := Aside0.mk hsm
  obtain ⟨vm, vd, rfl, r1, r2⟩ := h
  have HS := Aside0.mk ((Sep.start w []).alloc (g := w.heap.size) rfl (arrC a vm vd) 34)
  clear r1 r2 hsm
  obtain ⟨⟨l, lb⟩, hp⟩ : ∃ p, wordsR a s = p := ⟨_, rfl⟩
  have HP := Aside0.mk hp
  clear hp
  cases lb
  · have HV := Aside0.mk (show dataR a s = ([], false) by
      have := HP.out
      unfold dataR
      unfold wordsR at this
      split
      · rename_i hw
        rw [if_pos hw] at this
        rw [this]; rfl
      · rfl)
    rw [HV.out]
    obtain ⟨id, gn, gs, mems, lost, built, seq, tail, gen, dirty, fuse, down, broken⟩ := a
    simp only [arrC] at *
    obtain ⟨k0, k1, k2, k3, k4, k5, k6, k7, k8, k9, k10, k11, k12⟩ := thirteen (HS.out.get 0 rfl)
    go_enter Try.func29, Try.ntmps29
    go_wp2_with (first
      | (go_at_call 24; refine (c_implWords (ArrR_below H.out HS.out.toBelow) HSM.out).mono ?_; rw [HP.out]; rintro e w2 ⟨u, FW, rfl, hn⟩; have HS2 := Aside0.mk (HS.out.new hn); clear hn k0 k1 k2 k3 k4 k5 k6 k7 k8 k9 k10 k11 k12)
      | fail)
    go_ret2
    first | exact ⟨_, _, rfl, (HS2.out.nil oInt 3).toNew 0 rfl⟩ | exact ⟨_, rfl, _, (HS2.out.nil oInt 3).toNew 0 rfl⟩
  · have hwb : wordsB a s = true := by
      have := HP.out
      unfold wordsR at this
      split at this
      · assumption
      · cases this
    have hpp := arrB_P (Bool.and_eq_true_iff.1 hwb).1
    have HI := Aside0.mk (show inR s 0 (a.gs - 1) = true from (Bool.and_eq_true_iff.1 (Bool.and_eq_true_iff.1 hwb).2).2)
    have HG := Aside0.mk hpp.geo
    have HG3 := Aside0.mk (show 3 ≤ a.gn ∧ a.gn ≤ 5 by have := hpp.geo; simp [geoB, inR] at this; omega)
    have hws : wsR a s = (l, true) := by rw [← wordsR_yes hwb]; exact HP.out
    have HLL := Aside0.mk (show (l.length : Int) = a.gn by have := wsR_len2 (a := a) (s := s) (by rw [hws]); rw [hws] at this; have := hpp.len; simp only at *; omega)
    have HV := Aside0.mk (show dataR a s = datE a.gn s (l, true) by rw [dataR_yes hwb, hws])
    rw [HV.out]
    clear hwb hpp hws
    obtain ⟨id, gn, gs, mems, lost, built, seq, tail, gen, dirty, fuse, down, broken⟩ := a
    simp only [arrC] at *
    have wgn : IntKind.i64.wrap (gn - 1) = gn - 1 := IntWalk.i64_in _ (by have := HG3.out; omega)
    obtain ⟨k0, k1, k2, k3, k4, k5, k6, k7, k8, k9, k10, k11, k12⟩ := thirteen (HS.out.get 0 rfl)
    go_enter Try.func29, Try.ntmps29
    go_upto_region 4 with (first
      | (go_at_call 24; refine (c_implWords (ArrR_below H.out HS.out.toBelow) HSM.out).mono ?_; rw [HP.out]; rintro e w2 ⟨u, FW, rfl, hn⟩; have HS2 := Aside0.mk (HS.out.new hn); clear hn k0 k1 k2 k3 k4 k5 k6 k7 k8 k9 k10 k11 k12)
      | fail)
    have hw0 : 0 < l.length := by have := HLL.out; have := HG3.out; omega
    obtain ⟨gw, cw, hgw, _, _⟩ := O_form (show oInt.O 3 w2 FW u l from HS2.out.get 0 rfl) hw0
    subst hgw
    have HI0 := Aside0.mk (HS2.out.lit (g := w2.heap.size) rfl oInt 3)
    obtain ⟨k0, k1, k2, k3, k4, k5, k6, k7, k8, k9, k10, k11, k12⟩ := thirteen (HI0.out.get 2 rfl)
    go_wp2
    go_loopw [8, 23] (fun v8 v9 wr => ∃ (i : Nat) (A : Option Addr) (c : Nat) (F : List Nat), (i : Int) ≤ gn - 1 ∧ v9 = .int .i64 i ∧ v8 = .slice A i c ∧ Aside0 (Sep w [] wr [rw_ oInt 3 F (.slice A i c) (datL l gn s i), rw_ oInt 3 FW (.slice (some ⟨gw, 0, none⟩) l.length cw) l, bx w.heap.size 34 #[.int .i64 id, .int .i64 gn, .int .i64 gs, vm, .int .i64 lost, .int .i64 built, .int .i64 seq, .int .i64 tail, .int .i64 gen, vd, .int .i64 fuse, .bool down, .bool broken]])) (fun _ v9 _ => 6 - (intOf v9).toNat)
    case atStart => exact ⟨0, _, _, _, by have := HG3.out; omega, rfl, rfl, HI0⟩
    case round =>
      clear HI0 k0 k1 k2 k3 k4 k5 k6 k7 k8 k9 k10 k11 k12
      obtain ⟨i, A, c, F, hi, rfl, rfl, HR⟩ := hrel
      obtain ⟨k0, k1, k2, k3, k4, k5, k6, k7, k8, k9, k10, k11, k12⟩ := thirteen (HR.out.get 2 rfl)
      by_cases hlt : (i : Int) < gn - 1
      · have hd := diskN_in (st := s) (i := (i : Int)) HG3.out
        obtain ⟨q, hq⟩ : ∃ q : Nat, diskN gn s (i : Int) = (q : Int) := ⟨(diskN gn s (i : Int)).toNat, by omega⟩
        have HQ := Aside0.mk hq
        have hql : q < l.length := by have := HLL.out; omega
        obtain ⟨y, hy⟩ : ∃ y, l[q]? = some y := ⟨_, List.getElem?_eq_getElem hql⟩
        have HST := Aside0.mk (show datL l gn s (i + 1) = datL l gn s i ++ [y] by rw [datL_succ, HQ.out, Int.toNat_natCast, List.getD_eq_getElem?_getD, hy]; rfl)
        have hqi : (q : Int) < (l.length : Int) := by omega
        have q0 : (0 : Int) ≤ (q : Int) := by omega
        have hg5 := HG3.out
        clear hq hd
        go_wp2_with (first
          | (go_at_call 72; refine (c_implDiskOf _ _ _ _ _ HG.out HI.out (by simp [inR]; omega)).mono ?_; rw [HQ.out]; rintro e w2 ⟨rfl, hb⟩; have hs2 := HR.out.below hb; have HS2 := Aside0.mk hs2; clear hs2 hb k0 k1 k2 k3 k4 k5 k6 k7 k8 k9 k10 k11 k12; obtain ⟨k0, k1, k2, k3, k4, k5, k6, k7, k8, k9, k10, k11, k12⟩ := thirteen (HS2.out.get 2 rfl); have cc1 := O_int_at (show oInt.O 3 w2 FW (.slice (some ⟨gw, 0, none⟩) l.length cw) l from HS2.out.get 1 rfl) hy)
          | (at_builtin; (refine app_one0 (d := oInt) (y := y) HS2.out rfl _ _ 44 (.int .i64 0) 8 (by rfl) Try.underlying44 (by kernel_rfl) rfl (by decide) (by decide) [.int .i64 y] (by first | exact ⟨rfl, rfl⟩ | rfl | simp [oInt, Od.int]) (by rfl) (by rfl) rfl (n := i) (by simp [datL]) (by omega) ?_); intro A3 c3 w3 F3 hs3; have HS3 := Aside0.mk hs3; clear hs3)
          | fail)
        go_roundw
        case rel => exact ⟨i + 1, A3, c3, F3, by omega, by go_num, rfl, ⟨by rw [HST.out]; exact HS3.out⟩⟩
        case measure => have := HG3.out; simp [intOf]; omega
      · have hn1 : i = (gn - 1).toNat := by omega
        have HV := Aside0.mk (show datE gn s (l, true) = (datL l gn s i, true) by unfold datE; simp only [if_true]; rw [← hn1])
        clear hn1
        go_wp2
        go_ret2
        rw [HV.out]
        first | exact ⟨_, _, rfl, HR.out.toNew 0 rfl⟩ | exact ⟨_, rfl, _, HR.out.toNew 0 rfl⟩
end Go.Proofs.Ytggmifnblcjdfaa.AData
