/- FnExactRecOk: for every input that the print speaks of the law comes to true, as plain numbers and lists. Conditions: none beyond those that the printed statement names. -/
import Derived.Test.YtmhhehklcfkapaaPFnExactRecOkx2

namespace Go.Proofs.Ytmhhehklcfkapaa.Pure
open Go.RowKit Go.Proofs.Ytmhhehklcfkapaa.PFnExactRecOk Go.Proofs.YtmhhehklcfkapaaW.PrintWords Go.Proofs.YtmhhehklcfkapaaW.PrintLast
set_option linter.unusedVariables false
set_option linter.unusedSimpArgs false

/-! ### small laws: numbers, lists, rounds -/
theorem w64 {n : Int} (h0 : -9223372036854775808 ≤ n) (h1 : n ≤ 9223372036854775807) : wrap64 n = n := by unfold wrap64; omega
theorem w64_succ {i n : Nat} (hi : i < n) (hn : n ≤ 9223372036854775807) : wrap64 ((i : Int) + 1) = ((i + 1 : Nat) : Int) := by
  rw [w64 (by omega) (by omega)]; rfl
theorem rd_nat (l : List Int) (i : Nat) (h : i < l.length) : rd l (i : Int) = l[i] := by
  simp [rd, List.getD_eq_getElem?_getD, List.getElem?_eq_getElem h]
theorem wf_i64 {x : Int} (h : (Lit.int .i64 x).wf = true) : -9223372036854775808 ≤ x ∧ x ≤ 9223372036854775807 := by
  have h' : IntKind.i64.min ≤ x ∧ x ≤ IntKind.i64.max := by simpa [Lit.wf] using h
  exact h'
theorem ev_val {α : Type} {g : Nat → Option α} {r r' : α} (h : Ev g r) (e : r = r') : Ev g r' := e ▸ h
theorem ev_pos {α : Type} {c : Prop} [Decidable c] {g f : Nat → Option α} {r : α} (hc : c) (h : Ev g r) : Ev (fun k => if c then g k else f k) r := by
  simpa [hc] using h
theorem ev_neg {α : Type} {c : Prop} [Decidable c] {g f : Nat → Option α} {r : α} (hc : ¬ c) (h : Ev f r) : Ev (fun k => if c then g k else f k) r := by
  simpa [hc] using h
theorem ev_const {α : Type} {o : Option α} {r : α} (h : o = some r) : Ev (fun _ => o) r := ⟨0, fun _ _ => h⟩
theorem ev_unique {α : Type} {g : Nat → Option α} {r r' : α} (h : Ev g r) (h' : Ev g r') : r = r' := by
  obtain ⟨K, h⟩ := h
  obtain ⟨K', h'⟩ := h'
  have e := h (max K K') (by omega)
  rw [h' (max K K') (by omega)] at e
  exact (Option.some.inj e).symm
theorem take_set_succ {α : Type} {x l : List α} {i : Nat} (hx : i < x.length) (hl : i < l.length) (h : x.take i = l.take i) : (x.set i l[i]).take (i + 1) = l.take (i + 1) := by
  rw [List.take_succ_eq_append_getElem (by simpa using hx), List.take_succ_eq_append_getElem hl, List.getElem_set_self, List.take_set_of_le (Nat.le_refl _), h]
def inB (a lo hi : Int) : Bool := decide (lo ≤ a ∧ a ≤ hi)
theorem inB_true {a lo hi : Int} : inB a lo hi = true ↔ lo ≤ a ∧ a ≤ hi := by simp [inB]
theorem inB_false {a lo hi : Int} : inB a lo hi = false ↔ ¬ (lo ≤ a ∧ a ≤ hi) := by simp [inB]
theorem ev_succ {α : Type} {g : Nat → Option α} {r : α} (h : Ev (fun k => g (k + 1)) r) : Ev g r := Ev.step (fun _ => rfl) h
theorem rd_in {l : List Int} {lo hi : Int} (h : ∀ x ∈ l, lo ≤ x ∧ x ≤ hi) (h0 : lo ≤ 0 ∧ 0 ≤ hi) (i : Int) : lo ≤ rd l i ∧ rd l i ≤ hi := by
  unfold rd
  rw [List.getD_eq_getElem?_getD]
  cases hx : l[i.toNat]? with
  | none => simpa using h0
  | some x => simpa using h x (List.mem_of_getElem? hx)
theorem wf_u8 {x : Int} (h : (Lit.int .u8 x).wf = true) : 0 ≤ x ∧ x ≤ 255 := by
  have h' : IntKind.u8.min ≤ x ∧ x ≤ IntKind.u8.max := by simpa [Lit.wf] using h
  exact h'

theorem laws_szIntS_eq (l : List Int) (left : Int) (h0 : 0 ≤ left) (h1 : left ≤ 1048576) (hl : l.length ≤ 9223372036854775807) : laws_szIntS.f l left = some (if (l.length : Int) ≤ left then left - l.length else -1) := by
  unfold laws_szIntS.f
  rw [w64 (by omega) (by omega)]
  by_cases h : (l.length : Int) ≤ left
  · rw [if_neg (by omega), if_pos h]
  · rw [if_pos (by omega), if_neg h]

theorem spec_l1In_eq (a lo hi : Int) : spec_l1In.f a lo hi = some (inB a lo hi) := by
  unfold spec_l1In.f inB
  split
  · congr 1; simp; omega
  · congr 1; simp; omega

theorem spec_l1Word_eq (a : Int) : spec_l1Word.f a = some (inB a 0 65535) := by
  unfold spec_l1Word.f
  rw [spec_l1In_eq]; rfl

theorem spec_l1Words_l (l : List Int) (hl : l.length ≤ 9223372036854775807) : ∀ (d i : Nat), i + d = l.length → Ev (fun k => spec_l1Words.l0 k l (i : Int)) ((l.drop i).all (inB · 0 65535)) := by
  intro d
  induction d with
  | zero =>
    intro i hi
    exact Ev.step (f := fun _ => some true) (fun k => by simp only [spec_l1Words.l0]; rw [if_neg (by omega)]) (ev_const (by rw [List.drop_of_length_le (by omega)]; rfl))
  | succ d ih =>
    intro i hi
    rw [List.drop_eq_getElem_cons (i := i) (by omega), List.all_cons]
    cases hb : inB (l[i]'(by omega)) 0 65535 with
    | true =>
      refine Ev.step (f := fun k => spec_l1Words.l0 k l ((i + 1 : Nat) : Int)) (fun k => ?_) (ev_val (ih (i + 1) (by omega)) (by simp))
      simp only [spec_l1Words.l0]
      rw [if_pos (by omega), if_pos (by omega), rd_nat l i (by omega), spec_l1Word_eq, hb, w64_succ (n := l.length) (by omega) hl]; rfl
    | false =>
      refine Ev.step (f := fun _ => some false) (fun k => ?_) (ev_const (by simp))
      simp only [spec_l1Words.l0]
      rw [if_pos (by omega), if_pos (by omega), rd_nat l i (by omega), spec_l1Word_eq, hb]; rfl
theorem spec_l1Words_ev (l : List Int) (hl : l.length ≤ 9223372036854775807) : Ev (fun k => spec_l1Words.f k l) (l.all (inB · 0 65535)) := spec_l1Words_l l hl l.length 0 (by omega)

/-! ### the journal -/
def recB (seq st : Int) (l : List Int) : Bool := inB seq 0 60000 && inB st 0 7 && inB (l.length : Int) 2 4 && l.all (inB · 0 65535)

theorem spec_RecOk_ev (seq st : Int) (l : List Int) (hl : l.length ≤ 9223372036854775807) : Ev (fun k => spec_RecOk.f k seq st l) (recB seq st l) := by
  unfold spec_RecOk.f recB
  rw [spec_l1In_eq, spec_l1In_eq, spec_l1In_eq]
  cases inB seq 0 60000 <;> cases inB st 0 7 <;> cases inB (l.length : Int) 2 4 <;> simp <;> first | exact Ev.now _ | exact spec_l1Words_ev l hl

theorem laws_toIntS_l (l : List Int) (hl : l.length ≤ 9223372036854775807) : ∀ (d i : Nat) (x : List Int), i + d = l.length → x.length = l.length → x.take i = l.take i → Ev (fun k => laws_toIntS.l0 k l x (i : Int)) l := by
  intro d
  induction d with
  | zero =>
    intro i x hi hx ht
    refine Ev.step (f := fun _ => some x) (fun k => by show laws_toIntS.l0 (k + 1) l x (i : Int) = _; rw [laws_toIntS.l0]; rw [if_neg (by omega)]) (ev_const ?_)
    rw [List.take_of_length_le (by omega), List.take_of_length_le (by omega)] at ht
    rw [ht]
  | succ d ih =>
    intro i x hi hx ht
    refine Ev.step (f := fun k => laws_toIntS.l0 k l (x.set i (l[i]'(by omega))) ((i + 1 : Nat) : Int)) (fun k => ?_) (ih (i + 1) (x.set i (l[i]'(by omega))) (by omega) (by simp [hx]) ?_)
    · simp only [laws_toIntS.l0]
      rw [if_pos (by omega), if_pos (by omega), if_pos (by omega), w64_succ (n := l.length) (by omega) hl, rd_nat l i (by omega)]
      rfl
    · exact take_set_succ (by omega) (by omega) ht
theorem laws_toIntS_ev (l : List Int) (hl : l.length ≤ 35184372088832) : Ev (fun k => laws_toIntS.f k l) l := by
  unfold laws_toIntS.f
  refine ev_pos (by omega) (ev_pos (by omega) ?_)
  exact laws_toIntS_l l (by omega) l.length 0 _ (by omega) (by simp) (by simp)

theorem laws_toRec_ev (a b : Int) (l : List Int) (hl : l.length ≤ 35184372088832) : Ev (fun k => laws_toRec.f k a b l) (a, b, l) := by
  unfold laws_toRec.f
  exact Ev.bind (laws_toIntS_ev l hl) (Ev.now _)

theorem impl_within_eq (a lo hi : Int) : impl_within.f a lo hi = some (inB a lo hi) := by
  unfold impl_within.f inB
  split
  · congr 1; simp; omega
  · congr 1; simp; omega

theorem impl_isWord_eq (a : Int) : impl_isWord.f a = some (inB a 0 65535) := by
  unfold impl_isWord.f
  rw [impl_within_eq]; rfl

theorem impl_wordsOk_l (l : List Int) (hl : l.length ≤ 9223372036854775807) : ∀ (d i : Nat), i + d = l.length → Ev (fun k => impl_wordsOk.l0 k l (l.length : Int) (i : Int)) ((l.drop i).all (inB · 0 65535)) := by
  intro d
  induction d with
  | zero =>
    intro i hi
    exact Ev.step (f := fun _ => some true) (fun k => by simp only [impl_wordsOk.l0]; rw [if_neg (by omega)]) (ev_const (by rw [List.drop_of_length_le (by omega)]; rfl))
  | succ d ih =>
    intro i hi
    rw [List.drop_eq_getElem_cons (i := i) (by omega), List.all_cons]
    cases hb : inB (l[i]'(by omega)) 0 65535 with
    | true =>
      refine Ev.step (f := fun k => impl_wordsOk.l0 k l (l.length : Int) ((i + 1 : Nat) : Int)) (fun k => ?_) (ev_val (ih (i + 1) (by omega)) (by simp))
      simp only [impl_wordsOk.l0]
      rw [if_pos (by omega), if_pos (by omega), if_pos (by omega), rd_nat l i (by omega), impl_isWord_eq, hb, w64_succ (n := l.length) (by omega) hl]; rfl
    | false =>
      refine Ev.step (f := fun _ => some false) (fun k => ?_) (ev_const (by simp))
      simp only [impl_wordsOk.l0]
      rw [if_pos (by omega), if_pos (by omega), if_pos (by omega), rd_nat l i (by omega), impl_isWord_eq, hb]; rfl
theorem impl_wordsOk_ev (l : List Int) (hl : l.length ≤ 9223372036854775807) : Ev (fun k => impl_wordsOk.f k l) (l.all (inB · 0 65535)) := impl_wordsOk_l l hl l.length 0 (by omega)

theorem impl_RecOk_ev (seq st : Int) (l : List Int) (hl : l.length ≤ 9223372036854775807) : Ev (fun k => impl_RecOk.f k seq st l) (recB seq st l) := by
  unfold impl_RecOk.f recB
  rw [impl_within_eq, impl_within_eq, impl_within_eq]
  cases inB seq 0 60000 <;> cases inB st 0 7 <;> cases inB (l.length : Int) 2 4 <;> simp <;> first | exact Ev.now _ | exact impl_wordsOk_ev l hl

theorem laws_eqIntS_l (l : List Int) (hl : l.length ≤ 9223372036854775807) : ∀ (d i : Nat), i + d = l.length → Ev (fun k => laws_eqIntS.l0 k l l (i : Int)) true := by
  intro d
  induction d with
  | zero =>
    intro i hi
    exact Ev.step (f := fun _ => some true) (fun k => by simp only [laws_eqIntS.l0]; rw [if_neg (by omega)]) (Ev.now _)
  | succ d ih =>
    intro i hi
    refine Ev.step (f := fun k => laws_eqIntS.l0 k l l ((i + 1 : Nat) : Int)) (fun k => ?_) (ih (i + 1) (by omega))
    simp only [laws_eqIntS.l0]
    rw [if_pos (by omega), if_pos (by omega), if_pos (by omega), if_pos trivial, w64_succ (n := l.length) (by omega) hl]
theorem laws_eqIntS_ev (l : List Int) (hl : l.length ≤ 9223372036854775807) : Ev (fun k => laws_eqIntS.f k l l) true := by
  unfold laws_eqIntS.f
  exact ev_pos rfl (laws_eqIntS_l l hl l.length 0 (by omega))

theorem laws_eqRec_ev (a b : Int) (l : List Int) (hl : l.length ≤ 9223372036854775807) : Ev (fun k => laws_eqRec.f k a b l a b l) true := by
  unfold laws_eqRec.f
  exact ev_pos rfl (ev_pos rfl (Ev.bind (laws_eqIntS_ev l hl) (Ev.now _)))

theorem FnExactRecOk : ∀ (a0_0 : Int) (a0_1 : Int) (l0_2 : List (Int)), (Lit.int .i64 a0_0).wf = true → (Lit.int .i64 a0_1).wf = true → (l0_2.length ≤ maxLen ∧ ∀ y ∈ l0_2, (Lit.int .i64 y).wf = true) → ∃ k, laws_FnExactRecOk.f k a0_0 a0_1 l0_2 = some true := by
  intro a b l _ _ hl
  have hm : l.length ≤ 9223372036854775807 := hl.1
  refine Ev.rounds (r := true) ?_
  unfold laws_FnExactRecOk.f laws_szRec.f
  rw [laws_szIntS_eq l _ (by omega) (by omega) hm]
  by_cases h : (l.length : Int) ≤ 1048576
  · simp only [Option.bind_some, if_pos h]
    rw [if_neg (by omega)]
    simp only [Option.bind_some]
    have t := laws_toRec_ev a b l (by omega)
    refine ev_neg (by omega) (Ev.bind t (Ev.bind (spec_RecOk_ev a b l hm) (Ev.bind t (Ev.bind (impl_RecOk_ev a b l hm) (ev_neg (by simp) (Ev.bind t (Ev.bind (laws_eqRec_ev a b l hm) (Ev.now _))))))))
  · simp only [Option.bind_some, if_neg h]
    exact ev_const rfl

end Go.Proofs.Ytmhhehklcfkapaa.Pure
