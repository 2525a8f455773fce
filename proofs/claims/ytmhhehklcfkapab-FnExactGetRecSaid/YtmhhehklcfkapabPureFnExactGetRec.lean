/- FnExactGetRec: for every input that the print speaks of the law comes to true, as plain numbers and lists. Conditions: none beyond those that the printed statement names. -/
import Derived.Test.YtmhhehklcfkapabPFnExactGetRecx6

namespace Go.Proofs.Ytmhhehklcfkapab.Pure
open Go.RowKit Go.Proofs.Ytmhhehklcfkapab.PFnExactGetRec Go.Proofs.YtmhhehklcfkapabW.PrintWords Go.Proofs.YtmhhehklcfkapabW.PrintLast
set_option linter.unusedVariables false
set_option linter.unusedSimpArgs false

/-! ### small laws: numbers, lists, rounds -/
theorem w64 {n : Int} (h0 : -9223372036854775808 ≤ n) (h1 : n ≤ 9223372036854775807) : wrap64 n = n := by unfold wrap64; omega
theorem w64_succ {i n : Nat} (hi : i < n) (hn : n ≤ 9223372036854775807) : wrap64 ((i : Int) + 1) = ((i + 1 : Nat) : Int) := by
  rw [w64 (by omega) (by omega)]; rfl
theorem rd_nat (l : List Int) (i : Nat) (h : i < l.length) : rd l (i : Int) = l[i] := by
  simp [rd, List.getD_eq_getElem?_getD, List.getElem?_eq_getElem h]
theorem wf_i64 {x : Int} (h : (Lit.int .i64 x).wf = true) : -9223372036854775808 ≤ x ∧ x ≤ 9223372036854775807 := by
  have h' : IntKind.i64.min ≤ x ∧ x ≤ IntKind.i64.max := by simpa [Lit.wf] using h
  exact h'
theorem ev_val {α : Type} {g : Nat → Option α} {r r' : α} (h : Ev g r) (e : r = r') : Ev g r' := e ▸ h
theorem ev_pos {α : Type} {c : Prop} [Decidable c] {g f : Nat → Option α} {r : α} (hc : c) (h : Ev g r) : Ev (fun k => if c then g k else f k) r := by
  simpa [hc] using h
theorem ev_neg {α : Type} {c : Prop} [Decidable c] {g f : Nat → Option α} {r : α} (hc : ¬ c) (h : Ev f r) : Ev (fun k => if c then g k else f k) r := by
  simpa [hc] using h
theorem ev_const {α : Type} {o : Option α} {r : α} (h : o = some r) : Ev (fun _ => o) r := ⟨0, fun _ _ => h⟩
theorem ev_unique {α : Type} {g : Nat → Option α} {r r' : α} (h : Ev g r) (h' : Ev g r') : r = r' := by
  obtain ⟨K, h⟩ := h
  obtain ⟨K', h'⟩ := h'
  have e := h (max K K') (by omega)
  rw [h' (max K K') (by omega)] at e
  exact (Option.some.inj e).symm
theorem take_set_succ {α : Type} {x l : List α} {i : Nat} (hx : i < x.length) (hl : i < l.length) (h : x.take i = l.take i) : (x.set i l[i]).take (i + 1) = l.take (i + 1) := by
  rw [List.take_succ_eq_append_getElem (by simpa using hx), List.take_succ_eq_append_getElem hl, List.getElem_set_self, List.take_set_of_le (Nat.le_refl _), h]
def inB (a lo hi : Int) : Bool := decide (lo ≤ a ∧ a ≤ hi)
theorem inB_true {a lo hi : Int} : inB a lo hi = true ↔ lo ≤ a ∧ a ≤ hi := by simp [inB]
theorem inB_false {a lo hi : Int} : inB a lo hi = false ↔ ¬ (lo ≤ a ∧ a ≤ hi) := by simp [inB]
theorem ev_succ {α : Type} {g : Nat → Option α} {r : α} (h : Ev (fun k => g (k + 1)) r) : Ev g r := Ev.step (fun _ => rfl) h
theorem rd_in {l : List Int} {lo hi : Int} (h : ∀ x ∈ l, lo ≤ x ∧ x ≤ hi) (h0 : lo ≤ 0 ∧ 0 ≤ hi) (i : Int) : lo ≤ rd l i ∧ rd l i ≤ hi := by
  unfold rd
  rw [List.getD_eq_getElem?_getD]
  cases hx : l[i.toNat]? with
  | none => simpa using h0
  | some x => simpa using h x (List.mem_of_getElem? hx)
theorem wf_u8 {x : Int} (h : (Lit.int .u8 x).wf = true) : 0 ≤ x ∧ x ≤ 255 := by
  have h' : IntKind.u8.min ≤ x ∧ x ≤ IntKind.u8.max := by simpa [Lit.wf] using h
  exact h'

/-! ### what the laws write into a list of numbers: a, a + 1, .. -/
def cntL (a : Int) (n : Nat) : List Int := (List.range n).map (fun (j : Nat) => a + (j : Int))
theorem cntL_length (a : Int) (n : Nat) : (cntL a n).length = n := by simp [cntL]
theorem cntL_succ (a : Int) (n : Nat) : cntL a (n + 1) = cntL a n ++ [a + (n : Int)] := by simp [cntL, List.range_succ]
theorem cntL_get (a : Int) (n i : Nat) (h : i < (cntL a n).length) : (cntL a n)[i] = a + (i : Int) := by simp [cntL]

theorem laws_eqIntS_l (l : List Int) (hl : l.length ≤ 9223372036854775807) : ∀ (d i : Nat), i + d = l.length → Ev (fun k => laws_eqIntS.l0 k l l (i : Int)) true := by
  intro d
  induction d with
  | zero =>
    intro i hi
    exact Ev.step (f := fun _ => some true) (fun k => by simp only [laws_eqIntS.l0]; rw [if_neg (by omega)]) (Ev.now _)
  | succ d ih =>
    intro i hi
    refine Ev.step (f := fun k => laws_eqIntS.l0 k l l ((i + 1 : Nat) : Int)) (fun k => ?_) (ih (i + 1) (by omega))
    simp only [laws_eqIntS.l0]
    rw [if_pos (by omega), if_pos (by omega), if_pos (by omega), if_pos trivial, w64_succ (n := l.length) (by omega) hl]
theorem laws_eqIntS_ev (l : List Int) (hl : l.length ≤ 9223372036854775807) : Ev (fun k => laws_eqIntS.f k l l) true := by
  unfold laws_eqIntS.f
  exact ev_pos rfl (laws_eqIntS_l l hl l.length 0 (by omega))

theorem laws_markIntS_l (n : Nat) (a : Int) (hn : n ≤ 9223372036854775807) (h0 : -9223372036854775808 ≤ a) (h1 : a + (n : Int) ≤ 9223372036854775807) : ∀ (d i : Nat) (x : List Int), i + d = n → x.length = n → x.take i = cntL a i → Ev (fun k => laws_markIntS.l0 k x (a + (i : Int)) (i : Int)) (a + (n : Int), cntL a n) := by
  intro d
  induction d with
  | zero =>
    intro i x hi hx ht
    obtain rfl : i = n := by omega
    refine Ev.step (f := fun _ => some (a + (i : Int), x)) (fun k => by simp only [laws_markIntS.l0]; rw [if_neg (by omega)]) (ev_const ?_)
    rw [List.take_of_length_le (by omega)] at ht
    rw [ht]
  | succ d ih =>
    intro i x hi hx ht
    refine Ev.step (f := fun k => laws_markIntS.l0 k (x.set i (a + (i : Int))) (a + ((i + 1 : Nat) : Int)) ((i + 1 : Nat) : Int)) (fun k => ?_) (ih (i + 1) (x.set i (a + (i : Int))) (by omega) (by simp [hx]) ?_)
    · simp only [laws_markIntS.l0]
      rw [if_pos (by omega), if_pos (by omega), w64_succ (n := n) (by omega) hn, w64 (n := a + (i : Int) + 1) (by omega) (by omega), show a + (i : Int) + 1 = a + ((i + 1 : Nat) : Int) by omega]
      rfl
    · rw [cntL_succ, List.take_succ_eq_append_getElem (by simp; omega), List.getElem_set_self, List.take_set_of_le (Nat.le_refl _), ht]
theorem laws_markIntS_ev (l : List Int) (a : Int) (h0 : -9223372036854775808 ≤ a) (h1 : a + (l.length : Int) ≤ 9223372036854775807) (hl : l.length ≤ 9223372036854775807) : Ev (fun k => laws_markIntS.f k l a) (a + (l.length : Int), cntL a l.length) := by
  have h := laws_markIntS_l l.length a hl h0 h1 l.length 0 l (by omega) rfl (by simp [cntL])
  unfold laws_markIntS.f
  simpa using h

theorem laws_toIntS_l (l : List Int) (hl : l.length ≤ 9223372036854775807) : ∀ (d i : Nat) (x : List Int), i + d = l.length → x.length = l.length → x.take i = l.take i → Ev (fun k => laws_toIntS.l0 k l x (i : Int)) l := by
  intro d
  induction d with
  | zero =>
    intro i x hi hx ht
    refine Ev.step (f := fun _ => some x) (fun k => by show laws_toIntS.l0 (k + 1) l x (i : Int) = _; rw [laws_toIntS.l0]; rw [if_neg (by omega)]) (ev_const ?_)
    rw [List.take_of_length_le (by omega), List.take_of_length_le (by omega)] at ht
    rw [ht]
  | succ d ih =>
    intro i x hi hx ht
    refine Ev.step (f := fun k => laws_toIntS.l0 k l (x.set i (l[i]'(by omega))) ((i + 1 : Nat) : Int)) (fun k => ?_) (ih (i + 1) (x.set i (l[i]'(by omega))) (by omega) (by simp [hx]) ?_)
    · simp only [laws_toIntS.l0]
      rw [if_pos (by omega), if_pos (by omega), if_pos (by omega), w64_succ (n := l.length) (by omega) hl, rd_nat l i (by omega)]
      rfl
    · exact take_set_succ (by omega) (by omega) ht
theorem laws_toIntS_ev (l : List Int) (hl : l.length ≤ 35184372088832) : Ev (fun k => laws_toIntS.f k l) l := by
  unfold laws_toIntS.f
  refine ev_pos (by omega) (ev_pos (by omega) ?_)
  exact laws_toIntS_l l (by omega) l.length 0 _ (by omega) (by simp) (by simp)

theorem spec_l1In_eq (a lo hi : Int) : spec_l1In.f a lo hi = some (inB a lo hi) := by
  unfold spec_l1In.f inB
  split
  · congr 1; simp; omega
  · congr 1; simp; omega

theorem spec_l1Word_eq (a : Int) : spec_l1Word.f a = some (inB a 0 65535) := by
  unfold spec_l1Word.f
  rw [spec_l1In_eq]; rfl

theorem spec_l1Words_l (l : List Int) (hl : l.length ≤ 9223372036854775807) : ∀ (d i : Nat), i + d = l.length → Ev (fun k => spec_l1Words.l0 k l (i : Int)) ((l.drop i).all (inB · 0 65535)) := by
  intro d
  induction d with
  | zero =>
    intro i hi
    exact Ev.step (f := fun _ => some true) (fun k => by simp only [spec_l1Words.l0]; rw [if_neg (by omega)]) (ev_const (by rw [List.drop_of_length_le (by omega)]; rfl))
  | succ d ih =>
    intro i hi
    rw [List.drop_eq_getElem_cons (i := i) (by omega), List.all_cons]
    cases hb : inB (l[i]'(by omega)) 0 65535 with
    | true =>
      refine Ev.step (f := fun k => spec_l1Words.l0 k l ((i + 1 : Nat) : Int)) (fun k => ?_) (ev_val (ih (i + 1) (by omega)) (by simp))
      simp only [spec_l1Words.l0]
      rw [if_pos (by omega), if_pos (by omega), rd_nat l i (by omega), spec_l1Word_eq, hb, w64_succ (n := l.length) (by omega) hl]; rfl
    | false =>
      refine Ev.step (f := fun _ => some false) (fun k => ?_) (ev_const (by simp))
      simp only [spec_l1Words.l0]
      rw [if_pos (by omega), if_pos (by omega), rd_nat l i (by omega), spec_l1Word_eq, hb]; rfl
theorem spec_l1Words_ev (l : List Int) (hl : l.length ≤ 9223372036854775807) : Ev (fun k => spec_l1Words.f k l) (l.all (inB · 0 65535)) := spec_l1Words_l l hl l.length 0 (by omega)

/-! ### the journal -/
def recB (seq st : Int) (l : List Int) : Bool := inB seq 0 60000 && inB st 0 7 && inB (l.length : Int) 2 4 && l.all (inB · 0 65535)

theorem spec_RecOk_ev (seq st : Int) (l : List Int) (hl : l.length ≤ 9223372036854775807) : Ev (fun k => spec_RecOk.f k seq st l) (recB seq st l) := by
  unfold spec_RecOk.f recB
  rw [spec_l1In_eq, spec_l1In_eq, spec_l1In_eq]
  cases inB seq 0 60000 <;> cases inB st 0 7 <;> cases inB (l.length : Int) 2 4 <;> simp <;> first | exact Ev.now _ | exact spec_l1Words_ev l hl

def getRecB (l : List Int) : Bool := decide (4 ≤ l.length ∧ rd l 0 = 21322 ∧ rd l 3 = (l.length : Int) - 4) && recB (rd l 1) (rd l 2) (l.drop 4)
def getRecV (l : List Int) : Int × Int × List Int × Bool := if getRecB l = true then (rd l 1, rd l 2, l.drop 4, true) else (0, 0, [], false)

theorem spec_GetRec_ev (l : List Int) (hl : l.length ≤ 1048576) : Ev (fun k => spec_GetRec.f k l) (getRecV l) := by
  unfold spec_GetRec.f
  by_cases h4 : (l.length : Int) < 4
  · refine ev_pos h4 (ev_succ ?_)
    simp only [spec_GetRec.j0]
    have h4' : ¬ 4 ≤ l.length := by omega
    have : ¬ getRecB l = true := by simp [getRecB, h4']
    exact ev_pos (by trivial) (ev_const (by rw [getRecV, if_neg this]))
  · have h4' : 4 ≤ l.length := by omega
    refine ev_neg h4 (ev_pos (by omega) ?_)
    by_cases h0 : rd l 0 = 21322
    · refine ev_pos h0 (ev_pos (by omega) (ev_succ ?_))
      simp only [spec_GetRec.j0]
      rw [w64 (by omega) (by omega)]
      by_cases h3 : rd l 3 = (l.length : Int) - 4
      · refine ev_neg (by simp [h3]) (ev_pos (by omega) (ev_pos (by omega) (Ev.bind (Ev.now []) (ev_pos (by omega) (ev_pos (by simp; omega) (Ev.bind (Ev.now _) (Ev.bind (spec_RecOk_ev _ _ _ (by simp; omega)) (ev_const ?_))))))))
        have e : getRecB l = recB (rd l 1) (rd l 2) (l.drop 4) := by simp [getRecB, h0, h3, h4']
        unfold getRecV
        rw [e]
        simp only [List.nil_append]
        split <;> rfl
      · have : ¬ getRecB l = true := by simp [getRecB, h3]
        exact ev_pos (by simp [h3]) (ev_const (by rw [getRecV, if_neg this]))
    · refine ev_neg h0 (ev_succ ?_)
      simp only [spec_GetRec.j0]
      have : ¬ getRecB l = true := by simp [getRecB, h0]
      exact ev_pos (by trivial) (ev_const (by rw [getRecV, if_neg this]))

theorem impl_within_eq (a lo hi : Int) : impl_within.f a lo hi = some (inB a lo hi) := by
  unfold impl_within.f inB
  split
  · congr 1; simp; omega
  · congr 1; simp; omega

theorem impl_isWord_eq (a : Int) : impl_isWord.f a = some (inB a 0 65535) := by
  unfold impl_isWord.f
  rw [impl_within_eq]; rfl

theorem impl_wordsOk_l (l : List Int) (hl : l.length ≤ 9223372036854775807) : ∀ (d i : Nat), i + d = l.length → Ev (fun k => impl_wordsOk.l0 k l (l.length : Int) (i : Int)) ((l.drop i).all (inB · 0 65535)) := by
  intro d
  induction d with
  | zero =>
    intro i hi
    exact Ev.step (f := fun _ => some true) (fun k => by simp only [impl_wordsOk.l0]; rw [if_neg (by omega)]) (ev_const (by rw [List.drop_of_length_le (by omega)]; rfl))
  | succ d ih =>
    intro i hi
    rw [List.drop_eq_getElem_cons (i := i) (by omega), List.all_cons]
    cases hb : inB (l[i]'(by omega)) 0 65535 with
    | true =>
      refine Ev.step (f := fun k => impl_wordsOk.l0 k l (l.length : Int) ((i + 1 : Nat) : Int)) (fun k => ?_) (ev_val (ih (i + 1) (by omega)) (by simp))
      simp only [impl_wordsOk.l0]
      rw [if_pos (by omega), if_pos (by omega), if_pos (by omega), rd_nat l i (by omega), impl_isWord_eq, hb, w64_succ (n := l.length) (by omega) hl]; rfl
    | false =>
      refine Ev.step (f := fun _ => some false) (fun k => ?_) (ev_const (by simp))
      simp only [impl_wordsOk.l0]
      rw [if_pos (by omega), if_pos (by omega), if_pos (by omega), rd_nat l i (by omega), impl_isWord_eq, hb]; rfl
theorem impl_wordsOk_ev (l : List Int) (hl : l.length ≤ 9223372036854775807) : Ev (fun k => impl_wordsOk.f k l) (l.all (inB · 0 65535)) := impl_wordsOk_l l hl l.length 0 (by omega)

theorem impl_RecOk_ev (seq st : Int) (l : List Int) (hl : l.length ≤ 9223372036854775807) : Ev (fun k => impl_RecOk.f k seq st l) (recB seq st l) := by
  unfold impl_RecOk.f recB
  rw [impl_within_eq, impl_within_eq, impl_within_eq]
  cases inB seq 0 60000 <;> cases inB st 0 7 <;> cases inB (l.length : Int) 2 4 <;> simp <;> first | exact Ev.now _ | exact impl_wordsOk_ev l hl

theorem impl_copyInts_eq (l : List Int) (hl : l.length < 17592186044416) : impl_copyInts.f l = some l := by
  unfold impl_copyInts.f
  simp [hl]

theorem impl_GetRec_ev (l : List Int) (hl : l.length ≤ 1048576) : Ev (fun k => impl_GetRec.f k l) (getRecV l) := by
  unfold impl_GetRec.f
  by_cases h4 : (l.length : Int) < 4
  · refine ev_pos h4 (ev_succ ?_)
    simp only [impl_GetRec.j0]
    have h4' : ¬ 4 ≤ l.length := by omega
    have : ¬ getRecB l = true := by simp [getRecB, h4']
    exact ev_pos (by trivial) (ev_const (by rw [getRecV, if_neg this]))
  · have h4' : 4 ≤ l.length := by omega
    refine ev_neg h4 (ev_pos (by omega) ?_)
    by_cases h0 : rd l 0 = 21322
    · refine ev_pos h0 (ev_pos (by omega) (ev_succ ?_))
      simp only [impl_GetRec.j0]
      rw [w64 (by omega) (by omega)]
      by_cases h3 : rd l 3 = (l.length : Int) - 4
      · refine ev_neg (by simp [h3]) (ev_pos (by omega) (ev_pos (by omega) (ev_pos (by omega) (Ev.bind (ev_const (impl_copyInts_eq (l.drop 4) (by simp; omega))) (Ev.bind (impl_RecOk_ev _ _ _ (by simp; omega)) (ev_const ?_))))))
        have e : getRecB l = recB (rd l 1) (rd l 2) (l.drop 4) := by simp [getRecB, h0, h3, h4']
        unfold getRecV
        rw [e]
        split <;> rfl
      · have : ¬ getRecB l = true := by simp [getRecB, h3]
        exact ev_pos (by simp [h3]) (ev_const (by rw [getRecV, if_neg this]))
    · refine ev_neg h0 (ev_succ ?_)
      simp only [impl_GetRec.j0]
      have : ¬ getRecB l = true := by simp [getRecB, h0]
      exact ev_pos (by trivial) (ev_const (by rw [getRecV, if_neg this]))

theorem laws_eqRec_ev (a b : Int) (l : List Int) (hl : l.length ≤ 9223372036854775807) : Ev (fun k => laws_eqRec.f k a b l a b l) true := by
  unfold laws_eqRec.f
  exact ev_pos rfl (ev_pos rfl (Ev.bind (laws_eqIntS_ev l hl) (Ev.now _)))

theorem laws_heldIntS_l (n : Nat) (a : Int) (hn : n ≤ 9223372036854775807) (h0 : -9223372036854775808 ≤ a) (h1 : a + (n : Int) ≤ 9223372036854775807) : ∀ (d i : Nat), i + d = n → Ev (fun k => laws_heldIntS.l0 k (cntL a n) (a + (i : Int)) (i : Int)) (a + (n : Int)) := by
  intro d
  have hc := cntL_length a n
  induction d with
  | zero =>
    intro i hi
    obtain rfl : i = n := by omega
    exact Ev.step (f := fun _ => some (a + (i : Int))) (fun k => by simp only [laws_heldIntS.l0]; rw [if_neg (by omega)]) (ev_const rfl)
  | succ d ih =>
    intro i hi
    refine Ev.step (f := fun k => laws_heldIntS.l0 k (cntL a n) (a + ((i + 1 : Nat) : Int)) ((i + 1 : Nat) : Int)) (fun k => ?_) (ih (i + 1) (by omega))
    simp only [laws_heldIntS.l0]
    rw [if_pos (by omega), if_pos (by omega), rd_nat _ i (by omega), cntL_get, if_pos rfl, w64_succ (n := n) (by omega) hn, w64 (n := a + (i : Int) + 1) (by omega) (by omega), show a + (i : Int) + 1 = a + ((i + 1 : Nat) : Int) by omega]
theorem laws_heldIntS_ev (n : Nat) (a : Int) (h0 : -9223372036854775808 ≤ a) (h1 : a + (n : Int) ≤ 9223372036854775807) (hn : n ≤ 9223372036854775807) : Ev (fun k => laws_heldIntS.f k (cntL a n) a) (a + (n : Int)) := by
  have h := laws_heldIntS_l n a hn h0 h1 n 0 (by omega)
  unfold laws_heldIntS.f
  simpa using h

theorem FnExactGetRec : ∀ (l0 : List (Int)), (l0.length ≤ maxLen ∧ ∀ y ∈ l0, (Lit.int .i64 y).wf = true) → ∃ k, laws_FnExactGetRec.f k l0 = some true := by
  intro l hl0
  refine Ev.rounds (r := true) ?_
  unfold laws_FnExactGetRec.f
  by_cases h : (l.length : Int) > 1048576
  · exact ev_pos h (Ev.now _)
  have t := laws_toIntS_ev l (by omega)
  have te := laws_eqIntS_ev l (by omega)
  have hs := spec_GetRec_ev l (by omega)
  have hi := impl_GetRec_ev l (by omega)
  have hlen : (getRecV l).2.2.1.length ≤ 1048576 := by
    unfold getRecV
    split
    · simp; omega
    · simp
  generalize getRecV l = v at hs hi hlen
  obtain ⟨a, b, v, ok⟩ := v
  have hlen : v.length ≤ 1048576 := hlen
  have he := laws_eqRec_ev a b v (by omega)
  have hm := laws_markIntS_ev v 1 (by omega) (by omega) (by omega)
  have hh := laws_heldIntS_ev v.length 1 (by omega) (by omega) (by omega)
  have hmr : Ev (fun k => laws_markRec.f k a b v 1) (1 + (v.length : Int), cntL 1 v.length) := by
    unfold laws_markRec.f
    exact Ev.bind hm (Ev.now _)
  have hhr : Ev (fun k => laws_heldRec.f k a b (cntL 1 v.length) 1) (1 + (v.length : Int)) := by
    unfold laws_heldRec.f
    exact Ev.bind hh (ev_neg (by omega) (Ev.now _))
  refine ev_neg h (Ev.bind t (Ev.bind hs (Ev.bind t (Ev.bind hi (Ev.bind he (ev_pos (by trivial) (ev_succ ?_)))))))
  simp only [laws_FnExactGetRec.j0]
  refine ev_neg (by simp) (Ev.bind t (Ev.bind te (ev_pos (by trivial) (Ev.bind (laws_markIntS_ev l 1 (by omega) (by omega) (by omega)) (ev_neg (by simp; omega) (Ev.bind he (ev_pos (by trivial) (ev_succ ?_))))))))
  simp only [laws_FnExactGetRec.j1]
  refine ev_neg (by simp) (Ev.bind hmr (Ev.bind hhr (ev_neg (by omega) (ev_pos (by trivial) (Ev.bind t (Ev.bind hi (Ev.bind he (ev_pos (by trivial) (ev_succ ?_)))))))))
  simp only [laws_FnExactGetRec.j2]
  exact ev_neg (by simp) (Ev.bind hhr (ev_neg (by omega) (ev_pos (by trivial) (Ev.now _))))

end Go.Proofs.Ytmhhehklcfkapab.Pure
