/- FnExactSameSec: for every input that the print speaks of the law comes to true, as plain numbers and lists. Conditions: none beyond those that the printed statement names. -/
import Derived.Test.YtmhhehklcfkapaaPFnExactSameSecx1

namespace Go.Proofs.Ytmhhehklcfkapaa.Pure
open Go.RowKit Go.Proofs.Ytmhhehklcfkapaa.PFnExactSameSec Go.Proofs.YtmhhehklcfkapaaW.PrintWords Go.Proofs.YtmhhehklcfkapaaW.PrintLast
set_option linter.unusedVariables false
set_option linter.unusedSimpArgs false

/-! ### small laws: numbers, lists, rounds -/
theorem w64 {n : Int} (h0 : -9223372036854775808 ≤ n) (h1 : n ≤ 9223372036854775807) : wrap64 n = n := by unfold wrap64; omega
theorem w64_succ {i n : Nat} (hi : i < n) (hn : n ≤ 9223372036854775807) : wrap64 ((i : Int) + 1) = ((i + 1 : Nat) : Int) := by
  rw [w64 (by omega) (by omega)]; rfl
theorem rd_nat (l : List Int) (i : Nat) (h : i < l.length) : rd l (i : Int) = l[i] := by
  simp [rd, List.getD_eq_getElem?_getD, List.getElem?_eq_getElem h]
theorem wf_i64 {x : Int} (h : (Lit.int .i64 x).wf = true) : -9223372036854775808 ≤ x ∧ x ≤ 9223372036854775807 := by
  have h' : IntKind.i64.min ≤ x ∧ x ≤ IntKind.i64.max := by simpa [Lit.wf] using h
  exact h'
theorem ev_val {α : Type} {g : Nat → Option α} {r r' : α} (h : Ev g r) (e : r = r') : Ev g r' := e ▸ h
theorem ev_pos {α : Type} {c : Prop} [Decidable c] {g f : Nat → Option α} {r : α} (hc : c) (h : Ev g r) : Ev (fun k => if c then g k else f k) r := by
  simpa [hc] using h
theorem ev_neg {α : Type} {c : Prop} [Decidable c] {g f : Nat → Option α} {r : α} (hc : ¬ c) (h : Ev f r) : Ev (fun k => if c then g k else f k) r := by
  simpa [hc] using h
theorem ev_const {α : Type} {o : Option α} {r : α} (h : o = some r) : Ev (fun _ => o) r := ⟨0, fun _ _ => h⟩
theorem ev_unique {α : Type} {g : Nat → Option α} {r r' : α} (h : Ev g r) (h' : Ev g r') : r = r' := by
  obtain ⟨K, h⟩ := h
  obtain ⟨K', h'⟩ := h'
  have e := h (max K K') (by omega)
  rw [h' (max K K') (by omega)] at e
  exact (Option.some.inj e).symm
theorem take_set_succ {α : Type} {x l : List α} {i : Nat} (hx : i < x.length) (hl : i < l.length) (h : x.take i = l.take i) : (x.set i l[i]).take (i + 1) = l.take (i + 1) := by
  rw [List.take_succ_eq_append_getElem (by simpa using hx), List.take_succ_eq_append_getElem hl, List.getElem_set_self, List.take_set_of_le (Nat.le_refl _), h]
def inB (a lo hi : Int) : Bool := decide (lo ≤ a ∧ a ≤ hi)
theorem inB_true {a lo hi : Int} : inB a lo hi = true ↔ lo ≤ a ∧ a ≤ hi := by simp [inB]
theorem inB_false {a lo hi : Int} : inB a lo hi = false ↔ ¬ (lo ≤ a ∧ a ≤ hi) := by simp [inB]
theorem ev_succ {α : Type} {g : Nat → Option α} {r : α} (h : Ev (fun k => g (k + 1)) r) : Ev g r := Ev.step (fun _ => rfl) h
theorem rd_in {l : List Int} {lo hi : Int} (h : ∀ x ∈ l, lo ≤ x ∧ x ≤ hi) (h0 : lo ≤ 0 ∧ 0 ≤ hi) (i : Int) : lo ≤ rd l i ∧ rd l i ≤ hi := by
  unfold rd
  rw [List.getD_eq_getElem?_getD]
  cases hx : l[i.toNat]? with
  | none => simpa using h0
  | some x => simpa using h x (List.mem_of_getElem? hx)

theorem laws_toIntS_l (l : List Int) (hl : l.length ≤ 9223372036854775807) : ∀ (d i : Nat) (x : List Int), i + d = l.length → x.length = l.length → x.take i = l.take i → Ev (fun k => laws_toIntS.l0 k l x (i : Int)) l := by
  intro d
  induction d with
  | zero =>
    intro i x hi hx ht
    refine Ev.step (f := fun _ => some x) (fun k => by show laws_toIntS.l0 (k + 1) l x (i : Int) = _; rw [laws_toIntS.l0]; rw [if_neg (by omega)]) (ev_const ?_)
    rw [List.take_of_length_le (by omega), List.take_of_length_le (by omega)] at ht
    rw [ht]
  | succ d ih =>
    intro i x hi hx ht
    refine Ev.step (f := fun k => laws_toIntS.l0 k l (x.set i (l[i]'(by omega))) ((i + 1 : Nat) : Int)) (fun k => ?_) (ih (i + 1) (x.set i (l[i]'(by omega))) (by omega) (by simp [hx]) ?_)
    · simp only [laws_toIntS.l0]
      rw [if_pos (by omega), if_pos (by omega), if_pos (by omega), w64_succ (n := l.length) (by omega) hl, rd_nat l i (by omega)]
      rfl
    · exact take_set_succ (by omega) (by omega) ht
theorem laws_toIntS_ev (l : List Int) (hl : l.length ≤ 35184372088832) : Ev (fun k => laws_toIntS.f k l) l := by
  unfold laws_toIntS.f
  refine ev_pos (by omega) (ev_pos (by omega) ?_)
  exact laws_toIntS_l l (by omega) l.length 0 _ (by omega) (by simp) (by simp)

theorem laws_eqIntS_l (l : List Int) (hl : l.length ≤ 9223372036854775807) : ∀ (d i : Nat), i + d = l.length → Ev (fun k => laws_eqIntS.l0 k l l (i : Int)) true := by
  intro d
  induction d with
  | zero =>
    intro i hi
    exact Ev.step (f := fun _ => some true) (fun k => by simp only [laws_eqIntS.l0]; rw [if_neg (by omega)]) (Ev.now _)
  | succ d ih =>
    intro i hi
    refine Ev.step (f := fun k => laws_eqIntS.l0 k l l ((i + 1 : Nat) : Int)) (fun k => ?_) (ih (i + 1) (by omega))
    simp only [laws_eqIntS.l0]
    rw [if_pos (by omega), if_pos (by omega), if_pos (by omega), if_pos trivial, w64_succ (n := l.length) (by omega) hl]
theorem laws_eqIntS_ev (l : List Int) (hl : l.length ≤ 9223372036854775807) : Ev (fun k => laws_eqIntS.f k l l) true := by
  unfold laws_eqIntS.f
  exact ev_pos rfl (laws_eqIntS_l l hl l.length 0 (by omega))

theorem spec_SameSec_l (l m : List Int) (hl : l.length ≤ 9223372036854775807) (he : l.length = m.length) : ∀ (d i : Nat), i + d = l.length → Ev (fun k => spec_SameSec.l0 k l m (i : Int)) (decide (l.drop i = m.drop i)) := by
  intro d
  induction d with
  | zero =>
    intro i hi
    exact Ev.step (f := fun _ => some true) (fun k => by simp only [spec_SameSec.l0]; rw [if_neg (by omega)]) (ev_const (by rw [List.drop_of_length_le (by omega), List.drop_of_length_le (by omega)]; rfl))
  | succ d ih =>
    intro i hi
    have e : decide (l.drop i = m.drop i) = (decide (l[i]'(by omega) = m[i]'(by omega)) && decide (l.drop (i + 1) = m.drop (i + 1))) := by
      rw [List.drop_eq_getElem_cons (l := l) (i := i) (by omega), List.drop_eq_getElem_cons (l := m) (i := i) (by omega)]
      simp only [List.cons.injEq, Bool.decide_and]
    rw [e]
    by_cases hb : l[i]'(by omega) = m[i]'(by omega)
    · refine Ev.step (f := fun k => spec_SameSec.l0 k l m ((i + 1 : Nat) : Int)) (fun k => ?_) (ev_val (ih (i + 1) (by omega)) (by simp [hb]))
      simp only [spec_SameSec.l0]
      rw [if_pos (by omega), if_pos (by omega), if_pos (by omega), rd_nat l i (by omega), rd_nat m i (by omega), if_pos hb, w64_succ (n := l.length) (by omega) hl]
    · refine Ev.step (f := fun _ => some false) (fun k => ?_) (ev_const (by simp [hb]))
      simp only [spec_SameSec.l0]
      rw [if_pos (by omega), if_pos (by omega), if_pos (by omega), rd_nat l i (by omega), rd_nat m i (by omega), if_neg hb]
theorem spec_SameSec_ev (l m : List Int) (hl : l.length ≤ 9223372036854775807) : Ev (fun k => spec_SameSec.f k l m) (decide (l = m)) := by
  unfold spec_SameSec.f
  by_cases he : (l.length : Int) = (m.length : Int)
  · exact ev_pos he (spec_SameSec_l l m hl (by omega) l.length 0 (by omega))
  · refine ev_neg he (ev_const ?_)
    have : ¬ l = m := fun e => he (by rw [e])
    simp [this]

theorem slices_Equal_int_int_l (l m : List Int) (hl : l.length ≤ 9223372036854775807) (he : l.length = m.length) : ∀ (d i : Nat), i + d = l.length → Ev (fun k => slices_Equal_int_int.l0 k l m (l.length : Int) (i : Int)) (decide (l.drop i = m.drop i)) := by
  intro d
  induction d with
  | zero =>
    intro i hi
    exact Ev.step (f := fun _ => some true) (fun k => by simp only [slices_Equal_int_int.l0]; rw [if_neg (by omega)]) (ev_const (by rw [List.drop_of_length_le (by omega), List.drop_of_length_le (by omega)]; rfl))
  | succ d ih =>
    intro i hi
    have e : decide (l.drop i = m.drop i) = (decide (l[i]'(by omega) = m[i]'(by omega)) && decide (l.drop (i + 1) = m.drop (i + 1))) := by
      rw [List.drop_eq_getElem_cons (l := l) (i := i) (by omega), List.drop_eq_getElem_cons (l := m) (i := i) (by omega)]
      simp only [List.cons.injEq, Bool.decide_and]
    rw [e]
    by_cases hb : l[i]'(by omega) = m[i]'(by omega)
    · refine Ev.step (f := fun k => slices_Equal_int_int.l0 k l m (l.length : Int) ((i + 1 : Nat) : Int)) (fun k => ?_) (ev_val (ih (i + 1) (by omega)) (by simp [hb]))
      simp only [slices_Equal_int_int.l0]
      rw [if_pos (by omega), if_pos (by omega), if_pos (by omega), if_pos (by omega), rd_nat l i (by omega), rd_nat m i (by omega), if_pos hb, w64_succ (n := l.length) (by omega) hl]
    · refine Ev.step (f := fun _ => some false) (fun k => ?_) (ev_const (by simp [hb]))
      simp only [slices_Equal_int_int.l0]
      rw [if_pos (by omega), if_pos (by omega), if_pos (by omega), if_pos (by omega), rd_nat l i (by omega), rd_nat m i (by omega), if_neg hb]
theorem slices_Equal_int_int_ev (l m : List Int) (hl : l.length ≤ 9223372036854775807) : Ev (fun k => slices_Equal_int_int.f k l m) (decide (l = m)) := by
  unfold slices_Equal_int_int.f
  by_cases he : (l.length : Int) = (m.length : Int)
  · exact ev_pos he (slices_Equal_int_int_l l m hl (by omega) l.length 0 (by omega))
  · refine ev_neg he (ev_const ?_)
    have : ¬ l = m := fun e => he (by rw [e])
    simp [this]

theorem FnExactSameSec : ∀ (l0 : List Int) (l1 : List Int), (l0.length ≤ maxLen ∧ ∀ y ∈ l0, (Lit.int .i64 y).wf = true) → (l1.length ≤ maxLen ∧ ∀ y ∈ l1, (Lit.int .i64 y).wf = true) → ∃ k, laws_FnExactSameSec.f k l0 l1 = some true := by
  intro l m _ _
  refine Ev.rounds (r := true) ?_
  unfold laws_FnExactSameSec.f
  by_cases h : (l.length : Int) > 1048576
  · exact ev_pos h (Ev.now _)
  refine ev_neg h ?_
  by_cases h' : (m.length : Int) > 1048576
  · exact ev_pos h' (Ev.now _)
  have a := laws_toIntS_ev l (by omega)
  have b := laws_toIntS_ev m (by omega)
  refine ev_neg h' (Ev.bind a (Ev.bind b (Ev.bind (spec_SameSec_ev l m (by omega)) (Ev.bind a (Ev.bind b (Ev.bind (a := decide (l = m)) ?_ ?_))))))
  · unfold impl_SameSec.f
    exact Ev.bind (slices_Equal_int_int_ev l m (by omega)) (Ev.now _)
  · exact ev_neg (by simp) (Ev.bind a (Ev.bind (laws_eqIntS_ev l (by omega)) (ev_pos rfl (Ev.bind b (Ev.bind (laws_eqIntS_ev m (by omega)) (Ev.now _))))))

end Go.Proofs.Ytmhhehklcfkapaa.Pure
