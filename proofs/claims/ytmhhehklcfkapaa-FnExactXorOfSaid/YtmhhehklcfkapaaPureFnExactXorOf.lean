/- FnExactXorOf: for every input that the print speaks of the law comes to true, as plain numbers and lists. Conditions: none beyond those that the printed statement names. -/
import Derived.Test.YtmhhehklcfkapaaPFnExactXorOfx1

namespace Go.Proofs.Ytmhhehklcfkapaa.Pure
open Go.RowKit Go.Proofs.Ytmhhehklcfkapaa.PFnExactXorOf Go.Proofs.YtmhhehklcfkapaaW.PrintWords Go.Proofs.YtmhhehklcfkapaaW.PrintLast
set_option linter.unusedVariables false
set_option linter.unusedSimpArgs false

/-! ### small laws: numbers, lists, rounds -/
theorem w64 {n : Int} (h0 : -9223372036854775808 ≤ n) (h1 : n ≤ 9223372036854775807) : wrap64 n = n := by unfold wrap64; omega
theorem w64_succ {i n : Nat} (hi : i < n) (hn : n ≤ 9223372036854775807) : wrap64 ((i : Int) + 1) = ((i + 1 : Nat) : Int) := by
  rw [w64 (by omega) (by omega)]; rfl
theorem rd_nat (l : List Int) (i : Nat) (h : i < l.length) : rd l (i : Int) = l[i] := by
  simp [rd, List.getD_eq_getElem?_getD, List.getElem?_eq_getElem h]
theorem wf_i64 {x : Int} (h : (Lit.int .i64 x).wf = true) : -9223372036854775808 ≤ x ∧ x ≤ 9223372036854775807 := by
  have h' : IntKind.i64.min ≤ x ∧ x ≤ IntKind.i64.max := by simpa [Lit.wf] using h
  exact h'
theorem ev_val {α : Type} {g : Nat → Option α} {r r' : α} (h : Ev g r) (e : r = r') : Ev g r' := e ▸ h
theorem ev_pos {α : Type} {c : Prop} [Decidable c] {g f : Nat → Option α} {r : α} (hc : c) (h : Ev g r) : Ev (fun k => if c then g k else f k) r := by
  simpa [hc] using h
theorem ev_neg {α : Type} {c : Prop} [Decidable c] {g f : Nat → Option α} {r : α} (hc : ¬ c) (h : Ev f r) : Ev (fun k => if c then g k else f k) r := by
  simpa [hc] using h
theorem ev_const {α : Type} {o : Option α} {r : α} (h : o = some r) : Ev (fun _ => o) r := ⟨0, fun _ _ => h⟩
theorem ev_unique {α : Type} {g : Nat → Option α} {r r' : α} (h : Ev g r) (h' : Ev g r') : r = r' := by
  obtain ⟨K, h⟩ := h
  obtain ⟨K', h'⟩ := h'
  have e := h (max K K') (by omega)
  rw [h' (max K K') (by omega)] at e
  exact (Option.some.inj e).symm
theorem take_set_succ {α : Type} {x l : List α} {i : Nat} (hx : i < x.length) (hl : i < l.length) (h : x.take i = l.take i) : (x.set i l[i]).take (i + 1) = l.take (i + 1) := by
  rw [List.take_succ_eq_append_getElem (by simpa using hx), List.take_succ_eq_append_getElem hl, List.getElem_set_self, List.take_set_of_le (Nat.le_refl _), h]
def inB (a lo hi : Int) : Bool := decide (lo ≤ a ∧ a ≤ hi)
theorem inB_true {a lo hi : Int} : inB a lo hi = true ↔ lo ≤ a ∧ a ≤ hi := by simp [inB]
theorem inB_false {a lo hi : Int} : inB a lo hi = false ↔ ¬ (lo ≤ a ∧ a ≤ hi) := by simp [inB]
theorem ev_succ {α : Type} {g : Nat → Option α} {r : α} (h : Ev (fun k => g (k + 1)) r) : Ev g r := Ev.step (fun _ => rfl) h
theorem rd_in {l : List Int} {lo hi : Int} (h : ∀ x ∈ l, lo ≤ x ∧ x ≤ hi) (h0 : lo ≤ 0 ∧ 0 ≤ hi) (i : Int) : lo ≤ rd l i ∧ rd l i ≤ hi := by
  unfold rd
  rw [List.getD_eq_getElem?_getD]
  cases hx : l[i.toNat]? with
  | none => simpa using h0
  | some x => simpa using h x (List.mem_of_getElem? hx)
theorem wf_u8 {x : Int} (h : (Lit.int .u8 x).wf = true) : 0 ≤ x ∧ x ≤ 255 := by
  have h' : IntKind.u8.min ≤ x ∧ x ≤ IntKind.u8.max := by simpa [Lit.wf] using h
  exact h'

/-! ### xor of 64-bit numbers -/
def W64 (x : Int) : Prop := -9223372036854775808 ≤ x ∧ x ≤ 9223372036854775807
theorem bx_eq (x y : Int) : Go.bits .xor .i64 x y = (BitVec.ofInt 64 x ^^^ BitVec.ofInt 64 y).toInt := by
  have h : Go.bits .xor .i64 x y = IntKind.i64.wrap ((BitVec.ofInt 64 x ^^^ BitVec.ofInt 64 y).toNat : Int) := rfl
  rw [h, IntKind.wrap_i64, BitVec.toInt_eq_toNat_cond]
  have := (BitVec.ofInt 64 x ^^^ BitVec.ofInt 64 y).isLt
  split <;> omega
theorem ofInt_bx (x y : Int) : BitVec.ofInt 64 (Go.bits .xor .i64 x y) = BitVec.ofInt 64 x ^^^ BitVec.ofInt 64 y := by
  rw [bx_eq, BitVec.ofInt_toInt]
theorem toInt_ofInt64 {x : Int} (h : W64 x) : (BitVec.ofInt 64 x).toInt = x := by
  rw [BitVec.toInt_ofInt]
  have := h.1; have := h.2
  rw [Int.bmod_def]
  omega
theorem W64_toInt (v : BitVec 64) : W64 v.toInt := by
  rw [BitVec.toInt_eq_toNat_cond]
  have := v.isLt
  unfold W64
  split <;> omega
theorem W64_bx (x y : Int) : W64 (Go.bits .xor .i64 x y) := by rw [bx_eq]; exact W64_toInt _
theorem W64_zero : W64 0 := by unfold W64; omega
def xorL (a : Int) (l : List Int) : Int := l.foldl (fun x n => Go.bits .xor .i64 x n) a
def xv (l : List Int) : BitVec 64 := l.foldr (fun n v => BitVec.ofInt 64 n ^^^ v) 0
theorem xorL_cons (a n : Int) (l : List Int) : xorL a (n :: l) = xorL (Go.bits .xor .i64 a n) l := rfl
theorem xorL_xv : ∀ (l : List Int) (a : Int), W64 a → xorL a l = (BitVec.ofInt 64 a ^^^ xv l).toInt
  | [], a, h => by show a = _; simp [xv, toInt_ofInt64 h]
  | n :: l, a, h => by
    rw [xorL_cons, xorL_xv l _ (W64_bx a n), ofInt_bx, BitVec.xor_assoc]; rfl
theorem W64_xorL {a : Int} (h : W64 a) (l : List Int) : W64 (xorL a l) := by rw [xorL_xv l a h]; exact W64_toInt _
theorem xor_back (a b : BitVec 64) : (a ^^^ b) ^^^ b = a := by rw [BitVec.xor_assoc, BitVec.xor_self, BitVec.xor_zero]
/-- All but the k-th (i: the place of the first). -/
def skipL : Int → List Int → Nat → Int → Int
  | a, [], _, _ => a
  | a, n :: l, i, k => if (i : Int) = k then skipL a l (i + 1) k else skipL (Go.bits .xor .i64 a n) l (i + 1) k
theorem skipL_out : ∀ (l : List Int) (a : Int) (i : Nat) (k : Int), (k < i ∨ (i : Int) + l.length ≤ k) → skipL a l i k = xorL a l
  | [], a, i, k, _ => rfl
  | n :: l, a, i, k, h => by
    rw [List.length_cons] at h
    rw [skipL, if_neg (by omega), skipL_out l _ (i + 1) k (by omega), xorL_cons]
theorem skip_alg (a n v : BitVec 64) : a ^^^ n ^^^ v ^^^ n = a ^^^ v := by
  rw [BitVec.xor_assoc a, BitVec.xor_comm n, ← BitVec.xor_assoc, xor_back]
theorem skipL_in (l : List Int) : ∀ (a : Int) (i : Nat) (k : Nat), W64 a → (h : k < l.length) → skipL a l i ((i + k : Nat) : Int) = Go.bits .xor .i64 (xorL a l) l[k] := by
  induction l with
  | nil => intro a i k _ h; simp at h
  | cons n l ih =>
    intro a i k w h
    cases k with
    | zero =>
      rw [skipL, if_pos (by omega), skipL_out l a (i + 1) _ (by omega), List.getElem_cons_zero, xorL_cons, bx_eq (xorL _ l), xorL_xv _ _ (W64_bx _ _), BitVec.ofInt_toInt, ofInt_bx, xorL_xv _ _ w, skip_alg]
    | succ k =>
      have h' : k < l.length := by simpa using h
      rw [skipL, if_neg (by omega), show ((i + (k + 1) : Nat) : Int) = ((i + 1 + k : Nat) : Int) by omega, ih _ (i + 1) k (W64_bx _ _) h', xorL_cons, List.getElem_cons_succ]
theorem bx_back {x : Int} (h : W64 x) (n : Int) : Go.bits .xor .i64 (Go.bits .xor .i64 x n) n = x := by
  rw [bx_eq (Go.bits .xor .i64 x n), ofInt_bx, xor_back, toInt_ofInt64 h]
theorem bx_zero {x : Int} (h : W64 x) : Go.bits .xor .i64 0 x = x := by
  rw [bx_eq, show BitVec.ofInt 64 0 = 0 from rfl]
  simp [toInt_ofInt64 h]
theorem xorL_append (a : Int) (l m : List Int) : xorL a (l ++ m) = xorL (xorL a l) m := by simp [xorL]

theorem spec_XorOf_l (l : List Int) (hl : l.length ≤ 9223372036854775807) : ∀ (d i : Nat) (a : Int), i + d = l.length → Ev (fun k => spec_XorOf.l0 k l a (i : Int)) (xorL a (l.drop i)) := by
  intro d
  induction d with
  | zero =>
    intro i a hi
    exact Ev.step (f := fun _ => some a) (fun k => by simp only [spec_XorOf.l0]; rw [if_neg (by omega)]) (ev_const (by rw [List.drop_of_length_le (by omega)]; rfl))
  | succ d ih =>
    intro i a hi
    refine Ev.step (f := fun k => spec_XorOf.l0 k l (Go.bits .xor .i64 a (l[i]'(by omega))) ((i + 1 : Nat) : Int)) (fun k => ?_) (ev_val (ih (i + 1) _ (by omega)) ?_)
    · simp only [spec_XorOf.l0]
      rw [if_pos (by omega), if_pos (by omega), w64_succ (n := l.length) (by omega) hl, rd_nat l i (by omega)]
    · rw [List.drop_eq_getElem_cons (i := i) (by omega)]; rfl
theorem spec_XorOf_ev (l : List Int) (hl : l.length ≤ 9223372036854775807) : Ev (fun k => spec_XorOf.f k l) (xorL 0 l) := spec_XorOf_l l hl l.length 0 0 (by omega)

theorem laws_toIntS_l (l : List Int) (hl : l.length ≤ 9223372036854775807) : ∀ (d i : Nat) (x : List Int), i + d = l.length → x.length = l.length → x.take i = l.take i → Ev (fun k => laws_toIntS.l0 k l x (i : Int)) l := by
  intro d
  induction d with
  | zero =>
    intro i x hi hx ht
    refine Ev.step (f := fun _ => some x) (fun k => by show laws_toIntS.l0 (k + 1) l x (i : Int) = _; rw [laws_toIntS.l0]; rw [if_neg (by omega)]) (ev_const ?_)
    rw [List.take_of_length_le (by omega), List.take_of_length_le (by omega)] at ht
    rw [ht]
  | succ d ih =>
    intro i x hi hx ht
    refine Ev.step (f := fun k => laws_toIntS.l0 k l (x.set i (l[i]'(by omega))) ((i + 1 : Nat) : Int)) (fun k => ?_) (ih (i + 1) (x.set i (l[i]'(by omega))) (by omega) (by simp [hx]) ?_)
    · simp only [laws_toIntS.l0]
      rw [if_pos (by omega), if_pos (by omega), if_pos (by omega), w64_succ (n := l.length) (by omega) hl, rd_nat l i (by omega)]
      rfl
    · exact take_set_succ (by omega) (by omega) ht
theorem laws_toIntS_ev (l : List Int) (hl : l.length ≤ 35184372088832) : Ev (fun k => laws_toIntS.f k l) l := by
  unfold laws_toIntS.f
  refine ev_pos (by omega) (ev_pos (by omega) ?_)
  exact laws_toIntS_l l (by omega) l.length 0 _ (by omega) (by simp) (by simp)

theorem impl_XorOf_l (l : List Int) (hl : l.length ≤ 9223372036854775807) : ∀ (d i : Nat) (a : Int), i + d = l.length → Ev (fun k => impl_XorOf.l0 k a l (l.length : Int) (i : Int)) (xorL a (l.drop i)) := by
  intro d
  induction d with
  | zero =>
    intro i a hi
    exact Ev.step (f := fun _ => some a) (fun k => by simp only [impl_XorOf.l0]; rw [if_neg (by omega)]) (ev_const (by rw [List.drop_of_length_le (by omega)]; rfl))
  | succ d ih =>
    intro i a hi
    refine Ev.step (f := fun k => impl_XorOf.l0 k (Go.bits .xor .i64 a (l[i]'(by omega))) l (l.length : Int) ((i + 1 : Nat) : Int)) (fun k => ?_) (ev_val (ih (i + 1) _ (by omega)) ?_)
    · simp only [impl_XorOf.l0]
      rw [if_pos (by omega), if_pos (by omega), if_pos (by omega), w64_succ (n := l.length) (by omega) hl, rd_nat l i (by omega)]
    · rw [List.drop_eq_getElem_cons (i := i) (by omega)]; rfl
theorem impl_XorOf_ev (l : List Int) (hl : l.length ≤ 9223372036854775807) : Ev (fun k => impl_XorOf.f k l) (xorL 0 l) := impl_XorOf_l l hl l.length 0 0 (by omega)

theorem laws_eqIntS_l (l : List Int) (hl : l.length ≤ 9223372036854775807) : ∀ (d i : Nat), i + d = l.length → Ev (fun k => laws_eqIntS.l0 k l l (i : Int)) true := by
  intro d
  induction d with
  | zero =>
    intro i hi
    exact Ev.step (f := fun _ => some true) (fun k => by simp only [laws_eqIntS.l0]; rw [if_neg (by omega)]) (Ev.now _)
  | succ d ih =>
    intro i hi
    refine Ev.step (f := fun k => laws_eqIntS.l0 k l l ((i + 1 : Nat) : Int)) (fun k => ?_) (ih (i + 1) (by omega))
    simp only [laws_eqIntS.l0]
    rw [if_pos (by omega), if_pos (by omega), if_pos (by omega), if_pos trivial, w64_succ (n := l.length) (by omega) hl]
theorem laws_eqIntS_ev (l : List Int) (hl : l.length ≤ 9223372036854775807) : Ev (fun k => laws_eqIntS.f k l l) true := by
  unfold laws_eqIntS.f
  exact ev_pos rfl (laws_eqIntS_l l hl l.length 0 (by omega))

theorem FnExactXorOf : ∀ (l0 : List Int), (l0.length ≤ maxLen ∧ ∀ y ∈ l0, (Lit.int .i64 y).wf = true) → ∃ k, laws_FnExactXorOf.f k l0 = some true := by
  intro l _
  refine Ev.rounds (r := true) ?_
  unfold laws_FnExactXorOf.f
  by_cases h : (l.length : Int) > 1048576
  · exact ev_pos h (Ev.now _)
  have hl : l.length ≤ 1048576 := by omega
  refine ev_neg h (Ev.bind (laws_toIntS_ev l (by omega)) (Ev.bind (spec_XorOf_ev l (by omega)) (Ev.bind (laws_toIntS_ev l (by omega)) (Ev.bind (impl_XorOf_ev l (by omega)) ?_))))
  exact ev_pos rfl (Ev.bind (laws_toIntS_ev l (by omega)) (Ev.bind (laws_eqIntS_ev l (by omega)) (Ev.now _)))

end Go.Proofs.Ytmhhehklcfkapaa.Pure
