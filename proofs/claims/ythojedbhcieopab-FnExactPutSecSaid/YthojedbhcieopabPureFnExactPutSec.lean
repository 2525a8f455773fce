/- FnExactPutSec: for every input that the print speaks of the law comes to true, as plain numbers and lists. Conditions: none beyond those that the printed statement names. -/
import Derived.Test.YthojedbhcieopabPFnExactPutSecx3

namespace Go.Proofs.Ythojedbhcieopab.Pure
open Go.RowKit Go.Proofs.Ythojedbhcieopab.PFnExactPutSec Go.Proofs.YthojedbhcieopabW.PrintWords Go.Proofs.YthojedbhcieopabW.PrintLast
set_option linter.unusedVariables false
set_option linter.unusedSimpArgs false

/-! ### small laws: numbers, lists, rounds -/
theorem w64 {n : Int} (h0 : -9223372036854775808 ≤ n) (h1 : n ≤ 9223372036854775807) : wrap64 n = n := by unfold wrap64; omega
theorem w64_succ {i n : Nat} (hi : i < n) (hn : n ≤ 9223372036854775807) : wrap64 ((i : Int) + 1) = ((i + 1 : Nat) : Int) := by
  rw [w64 (by omega) (by omega)]; rfl
theorem rd_nat (l : List Int) (i : Nat) (h : i < l.length) : rd l (i : Int) = l[i] := by
  simp [rd, List.getD_eq_getElem?_getD, List.getElem?_eq_getElem h]
theorem wf_i64 {x : Int} (h : (Lit.int .i64 x).wf = true) : -9223372036854775808 ≤ x ∧ x ≤ 9223372036854775807 := by
  have h' : IntKind.i64.min ≤ x ∧ x ≤ IntKind.i64.max := by simpa [Lit.wf] using h
  exact h'
theorem ev_val {α : Type} {g : Nat → Option α} {r r' : α} (h : Ev g r) (e : r = r') : Ev g r' := e ▸ h
theorem ev_pos {α : Type} {c : Prop} [Decidable c] {g f : Nat → Option α} {r : α} (hc : c) (h : Ev g r) : Ev (fun k => if c then g k else f k) r := by
  simpa [hc] using h
theorem ev_neg {α : Type} {c : Prop} [Decidable c] {g f : Nat → Option α} {r : α} (hc : ¬ c) (h : Ev f r) : Ev (fun k => if c then g k else f k) r := by
  simpa [hc] using h
theorem ev_const {α : Type} {o : Option α} {r : α} (h : o = some r) : Ev (fun _ => o) r := ⟨0, fun _ _ => h⟩
theorem ev_unique {α : Type} {g : Nat → Option α} {r r' : α} (h : Ev g r) (h' : Ev g r') : r = r' := by
  obtain ⟨K, h⟩ := h
  obtain ⟨K', h'⟩ := h'
  have e := h (max K K') (by omega)
  rw [h' (max K K') (by omega)] at e
  exact (Option.some.inj e).symm
theorem take_set_succ {α : Type} {x l : List α} {i : Nat} (hx : i < x.length) (hl : i < l.length) (h : x.take i = l.take i) : (x.set i l[i]).take (i + 1) = l.take (i + 1) := by
  rw [List.take_succ_eq_append_getElem (by simpa using hx), List.take_succ_eq_append_getElem hl, List.getElem_set_self, List.take_set_of_le (Nat.le_refl _), h]
def inB (a lo hi : Int) : Bool := decide (lo ≤ a ∧ a ≤ hi)
theorem inB_true {a lo hi : Int} : inB a lo hi = true ↔ lo ≤ a ∧ a ≤ hi := by simp [inB]
theorem inB_false {a lo hi : Int} : inB a lo hi = false ↔ ¬ (lo ≤ a ∧ a ≤ hi) := by simp [inB]
theorem ev_succ {α : Type} {g : Nat → Option α} {r : α} (h : Ev (fun k => g (k + 1)) r) : Ev g r := Ev.step (fun _ => rfl) h
theorem rd_in {l : List Int} {lo hi : Int} (h : ∀ x ∈ l, lo ≤ x ∧ x ≤ hi) (h0 : lo ≤ 0 ∧ 0 ≤ hi) (i : Int) : lo ≤ rd l i ∧ rd l i ≤ hi := by
  unfold rd
  rw [List.getD_eq_getElem?_getD]
  cases hx : l[i.toNat]? with
  | none => simpa using h0
  | some x => simpa using h x (List.mem_of_getElem? hx)
theorem wf_u8 {x : Int} (h : (Lit.int .u8 x).wf = true) : 0 ≤ x ∧ x ≤ 255 := by
  have h' : IntKind.u8.min ≤ x ∧ x ≤ IntKind.u8.max := by simpa [Lit.wf] using h
  exact h'

/-! ### what the laws write into a list of numbers: a, a + 1, .. -/
def cntL (a : Int) (n : Nat) : List Int := (List.range n).map (fun (j : Nat) => a + (j : Int))
theorem cntL_length (a : Int) (n : Nat) : (cntL a n).length = n := by simp [cntL]
theorem cntL_succ (a : Int) (n : Nat) : cntL a (n + 1) = cntL a n ++ [a + (n : Int)] := by simp [cntL, List.range_succ]
theorem cntL_get (a : Int) (n i : Nat) (h : i < (cntL a n).length) : (cntL a n)[i] = a + (i : Int) := by simp [cntL]

def cntB (a : Int) (n : Nat) : List Int := (List.range n).map (fun (j : Nat) => (a + (j : Int)) % 256)
theorem cntB_length (a : Int) (n : Nat) : (cntB a n).length = n := by simp [cntB]
theorem cntB_succ (a : Int) (n : Nat) : cntB a (n + 1) = cntB a n ++ [(a + (n : Int)) % 256] := by simp [cntB, List.range_succ]
theorem cntB_get (a : Int) (n i : Nat) (h : i < (cntB a n).length) : (cntB a n)[i] = (a + (i : Int)) % 256 := by simp [cntB]

def secB (l : List Int) : Bool := decide (l.length ≤ 12) && l.all (inB · 0 65535)
/-! ### a sector's bytes -/
def secW (l : List Int) (at_ : Nat) (n : Nat) : List Int := (List.range n).map (fun (j : Nat) => rd l ((at_ + 1 + 2 * j : Nat) : Int) * 256 + rd l ((at_ + 2 + 2 * j : Nat) : Int))
theorem secW_length (l : List Int) (a n : Nat) : (secW l a n).length = n := by simp [secW]
theorem secW_succ (l : List Int) (a n : Nat) : secW l a (n + 1) = secW l a n ++ [rd l ((a + 1 + 2 * n : Nat) : Int) * 256 + rd l ((a + 2 + 2 * n : Nat) : Int)] := by simp [secW, List.range_succ]
def getSecB (l : List Int) (a : Int) : Bool := decide (0 ≤ a ∧ a < (l.length : Int) ∧ rd l a ≤ 12 ∧ a + 1 + 2 * rd l a ≤ (l.length : Int))
def getSecV (l : List Int) (a : Int) : List Int × Int × Bool := if getSecB l a = true then (secW l a.toNat (rd l a).toNat, a + 1 + 2 * rd l a, true) else ([], 0, false)
theorem byte_join {h l : Int} (h0 : 0 ≤ h ∧ h ≤ 255) (l0 : 0 ≤ l ∧ l ≤ 255) : Go.bits .or .i64 (h * 256) l = h * 256 + l := by
  have w : ∀ n : Int, 0 ≤ n → n < 2 ^ 16 → IntKind.i64.wrap n = n := by
    intro n h1 h2
    rw [IntKind.wrap_i64]
    have : (2 : Int) ^ 16 = 65536 := by decide
    omega
  have e16 : (2 : Int) ^ 16 = 65536 := by decide
  have e8 : (2 : Int) ^ 8 = 256 := by decide
  exact bits_join .i64 16 (by decide) w 8 (h * 256) l (by omega) (by omega) (by omega) (by omega) (by omega) (by omega)

def wordBytes (l : List Int) : List Int := l.flatMap (fun n => [n / 256, n % 256])
def putSecV (b s : List Int) : List Int := if secB s = true then b ++ [(s.length : Int) % 256] ++ wordBytes s else b
theorem wordBytes_cons (n : Int) (l : List Int) : wordBytes (n :: l) = [n / 256, n % 256] ++ wordBytes l := rfl
theorem secB_true {s : List Int} : secB s = true ↔ s.length ≤ 12 ∧ ∀ x ∈ s, 0 ≤ x ∧ x ≤ 65535 := by simp [secB, inB_true]
theorem putSecV_length (b s : List Int) : (putSecV b s).length ≤ b.length + 25 := by
  unfold putSecV
  split
  · rename_i h
    have hl : ∀ l : List Int, (wordBytes l).length = 2 * l.length := by
      intro l
      induction l with
      | nil => rfl
      | cons n l ih => rw [wordBytes_cons]; simp [ih]; omega
    have := (secB_true.1 h).1
    simp [hl]; omega
  · omega

theorem spec_l1In_eq (a lo hi : Int) : spec_l1In.f a lo hi = some (inB a lo hi) := by
  unfold spec_l1In.f inB
  split
  · congr 1; simp; omega
  · congr 1; simp; omega

theorem spec_l1Word_eq (a : Int) : spec_l1Word.f a = some (inB a 0 65535) := by
  unfold spec_l1Word.f
  rw [spec_l1In_eq]; rfl

theorem spec_l1Words_l (l : List Int) (hl : l.length ≤ 9223372036854775807) : ∀ (d i : Nat), i + d = l.length → Ev (fun k => spec_l1Words.l0 k l (i : Int)) ((l.drop i).all (inB · 0 65535)) := by
  intro d
  induction d with
  | zero =>
    intro i hi
    exact Ev.step (f := fun _ => some true) (fun k => by simp only [spec_l1Words.l0]; rw [if_neg (by omega)]) (ev_const (by rw [List.drop_of_length_le (by omega)]; rfl))
  | succ d ih =>
    intro i hi
    rw [List.drop_eq_getElem_cons (i := i) (by omega), List.all_cons]
    cases hb : inB (l[i]'(by omega)) 0 65535 with
    | true =>
      refine Ev.step (f := fun k => spec_l1Words.l0 k l ((i + 1 : Nat) : Int)) (fun k => ?_) (ev_val (ih (i + 1) (by omega)) (by simp))
      simp only [spec_l1Words.l0]
      rw [if_pos (by omega), if_pos (by omega), rd_nat l i (by omega), spec_l1Word_eq, hb, w64_succ (n := l.length) (by omega) hl]; rfl
    | false =>
      refine Ev.step (f := fun _ => some false) (fun k => ?_) (ev_const (by simp))
      simp only [spec_l1Words.l0]
      rw [if_pos (by omega), if_pos (by omega), rd_nat l i (by omega), spec_l1Word_eq, hb]; rfl
theorem spec_l1Words_ev (l : List Int) (hl : l.length ≤ 9223372036854775807) : Ev (fun k => spec_l1Words.f k l) (l.all (inB · 0 65535)) := spec_l1Words_l l hl l.length 0 (by omega)

theorem spec_SecOk_ev (l : List Int) (hl : l.length ≤ 9223372036854775807) : Ev (fun k => spec_SecOk.f k l) (secB l) := by
  unfold spec_SecOk.f
  by_cases h : (l.length : Int) ≤ 12
  · refine ev_pos h (Ev.bind (spec_l1Words_ev l hl) (ev_const ?_))
    have : l.length ≤ 12 := by omega
    simp [secB, this]
  · refine ev_neg h (ev_const ?_)
    have : ¬ l.length ≤ 12 := by omega
    simp [secB, this]

theorem spec_PutSec_l (s : List Int) (hb : ∀ x ∈ s, 0 ≤ x ∧ x ≤ 65535) (hs : s.length ≤ 12) : ∀ (d i : Nat) (x : List Int), i + d = s.length → x.length ≤ 1048700 + 2 * i → Ev (fun k => spec_PutSec.l0 k s x (i : Int)) (x ++ wordBytes (s.drop i)) := by
  intro d
  induction d with
  | zero =>
    intro i x hi hx
    refine ev_succ ?_
    simp only [spec_PutSec.l0]
    refine ev_neg (by omega) (ev_const ?_)
    rw [List.drop_of_length_le (by omega)]; simp [wordBytes]
  | succ d ih =>
    intro i x hi hx
    refine ev_succ ?_
    simp only [spec_PutSec.l0]
    have hi' : i < s.length := by omega
    have b := hb (s[i]) (List.getElem_mem hi')
    rw [rd_nat s i hi', Int.emod_eq_of_lt (a := s[i] / 256) (by omega) (by omega), w64_succ (n := s.length) (by omega) (by omega)]
    refine ev_pos (by omega) (ev_pos (by omega) (Ev.bind (Ev.now _) (ev_pos (by simp; omega) (ev_val (ih (i + 1) _ (by omega) (by simp; omega)) ?_))))
    rw [List.drop_eq_getElem_cons hi', wordBytes_cons]; simp
theorem spec_PutSec_ev (b s : List Int) (hb : b.length ≤ 1048576) (hs : s.length ≤ 1048576) : Ev (fun k => spec_PutSec.f k b s) (putSecV b s) := by
  unfold spec_PutSec.f
  refine Ev.bind (Ev.now _) (ev_pos (by simp; omega) (Ev.bind (Ev.now _) (Ev.bind (spec_SecOk_ev s (by omega)) ?_)))
  by_cases h : secB s = true
  · have := secB_true.1 h
    refine ev_pos h (ev_pos (by simp; omega) (ev_val (spec_PutSec_l s this.2 this.1 s.length 0 _ (by omega) (by simp; omega)) ?_))
    rw [putSecV, if_pos h]; simp
  · refine ev_neg h (ev_const ?_)
    rw [putSecV, if_neg h]; simp

theorem laws_toByteS_l (l : List Int) (hl : l.length ≤ 9223372036854775807) : ∀ (d i : Nat) (x : List Int), i + d = l.length → x.length = l.length → x.take i = l.take i → Ev (fun k => laws_toByteS.l0 k l x (i : Int)) l := by
  intro d
  induction d with
  | zero =>
    intro i x hi hx ht
    refine Ev.step (f := fun _ => some x) (fun k => by show laws_toByteS.l0 (k + 1) l x (i : Int) = _; rw [laws_toByteS.l0]; rw [if_neg (by omega)]) (ev_const ?_)
    rw [List.take_of_length_le (by omega), List.take_of_length_le (by omega)] at ht
    rw [ht]
  | succ d ih =>
    intro i x hi hx ht
    refine Ev.step (f := fun k => laws_toByteS.l0 k l (x.set i (l[i]'(by omega))) ((i + 1 : Nat) : Int)) (fun k => ?_) (ih (i + 1) (x.set i (l[i]'(by omega))) (by omega) (by simp [hx]) ?_)
    · simp only [laws_toByteS.l0]
      rw [if_pos (by omega), if_pos (by omega), if_pos (by omega), w64_succ (n := l.length) (by omega) hl, rd_nat l i (by omega)]
      rfl
    · exact take_set_succ (by omega) (by omega) ht
theorem laws_toByteS_ev (l : List Int) (hl : l.length ≤ 281474976710656) : Ev (fun k => laws_toByteS.f k l) l := by
  unfold laws_toByteS.f
  refine ev_pos (by omega) (ev_pos (by omega) ?_)
  exact laws_toByteS_l l (by omega) l.length 0 _ (by omega) (by simp) (by simp)

theorem laws_toIntS_l (l : List Int) (hl : l.length ≤ 9223372036854775807) : ∀ (d i : Nat) (x : List Int), i + d = l.length → x.length = l.length → x.take i = l.take i → Ev (fun k => laws_toIntS.l0 k l x (i : Int)) l := by
  intro d
  induction d with
  | zero =>
    intro i x hi hx ht
    refine Ev.step (f := fun _ => some x) (fun k => by show laws_toIntS.l0 (k + 1) l x (i : Int) = _; rw [laws_toIntS.l0]; rw [if_neg (by omega)]) (ev_const ?_)
    rw [List.take_of_length_le (by omega), List.take_of_length_le (by omega)] at ht
    rw [ht]
  | succ d ih =>
    intro i x hi hx ht
    refine Ev.step (f := fun k => laws_toIntS.l0 k l (x.set i (l[i]'(by omega))) ((i + 1 : Nat) : Int)) (fun k => ?_) (ih (i + 1) (x.set i (l[i]'(by omega))) (by omega) (by simp [hx]) ?_)
    · simp only [laws_toIntS.l0]
      rw [if_pos (by omega), if_pos (by omega), if_pos (by omega), w64_succ (n := l.length) (by omega) hl, rd_nat l i (by omega)]
      rfl
    · exact take_set_succ (by omega) (by omega) ht
theorem laws_toIntS_ev (l : List Int) (hl : l.length ≤ 35184372088832) : Ev (fun k => laws_toIntS.f k l) l := by
  unfold laws_toIntS.f
  refine ev_pos (by omega) (ev_pos (by omega) ?_)
  exact laws_toIntS_l l (by omega) l.length 0 _ (by omega) (by simp) (by simp)

theorem impl_within_eq (a lo hi : Int) : impl_within.f a lo hi = some (inB a lo hi) := by
  unfold impl_within.f inB
  split
  · congr 1; simp; omega
  · congr 1; simp; omega

theorem impl_isWord_eq (a : Int) : impl_isWord.f a = some (inB a 0 65535) := by
  unfold impl_isWord.f
  rw [impl_within_eq]; rfl

theorem impl_wordsOk_l (l : List Int) (hl : l.length ≤ 9223372036854775807) : ∀ (d i : Nat), i + d = l.length → Ev (fun k => impl_wordsOk.l0 k l (l.length : Int) (i : Int)) ((l.drop i).all (inB · 0 65535)) := by
  intro d
  induction d with
  | zero =>
    intro i hi
    exact Ev.step (f := fun _ => some true) (fun k => by simp only [impl_wordsOk.l0]; rw [if_neg (by omega)]) (ev_const (by rw [List.drop_of_length_le (by omega)]; rfl))
  | succ d ih =>
    intro i hi
    rw [List.drop_eq_getElem_cons (i := i) (by omega), List.all_cons]
    cases hb : inB (l[i]'(by omega)) 0 65535 with
    | true =>
      refine Ev.step (f := fun k => impl_wordsOk.l0 k l (l.length : Int) ((i + 1 : Nat) : Int)) (fun k => ?_) (ev_val (ih (i + 1) (by omega)) (by simp))
      simp only [impl_wordsOk.l0]
      rw [if_pos (by omega), if_pos (by omega), if_pos (by omega), rd_nat l i (by omega), impl_isWord_eq, hb, w64_succ (n := l.length) (by omega) hl]; rfl
    | false =>
      refine Ev.step (f := fun _ => some false) (fun k => ?_) (ev_const (by simp))
      simp only [impl_wordsOk.l0]
      rw [if_pos (by omega), if_pos (by omega), if_pos (by omega), rd_nat l i (by omega), impl_isWord_eq, hb]; rfl
theorem impl_wordsOk_ev (l : List Int) (hl : l.length ≤ 9223372036854775807) : Ev (fun k => impl_wordsOk.f k l) (l.all (inB · 0 65535)) := impl_wordsOk_l l hl l.length 0 (by omega)

theorem impl_SecOk_ev (l : List Int) (hl : l.length ≤ 9223372036854775807) : Ev (fun k => impl_SecOk.f k l) (secB l) := by
  unfold impl_SecOk.f
  by_cases h : (l.length : Int) ≤ 12
  · refine ev_pos h (Ev.bind (impl_wordsOk_ev l hl) (ev_const ?_))
    have : l.length ≤ 12 := by omega
    simp [secB, this]
  · refine ev_neg h (ev_const ?_)
    have : ¬ l.length ≤ 12 := by omega
    simp [secB, this]

theorem impl_PutSec_l (s : List Int) (hb : ∀ x ∈ s, 0 ≤ x ∧ x ≤ 65535) (hs : s.length ≤ 12) : ∀ (d i : Nat) (x : List Int), i + d = s.length → x.length ≤ 1048700 + 2 * i → Ev (fun k => impl_PutSec.l0 k x s (s.length : Int) (i : Int)) (x ++ wordBytes (s.drop i)) := by
  intro d
  induction d with
  | zero =>
    intro i x hi hx
    refine ev_succ ?_
    simp only [impl_PutSec.l0]
    refine ev_neg (by omega) (ev_const ?_)
    rw [List.drop_of_length_le (by omega)]; simp [wordBytes]
  | succ d ih =>
    intro i x hi hx
    refine ev_succ ?_
    simp only [impl_PutSec.l0]
    have hi' : i < s.length := by omega
    have b := hb (s[i]) (List.getElem_mem hi')
    have h1 : 0 ≤ s[i] / 256 ∧ s[i] / 256 ≤ 255 := by omega
    rw [rd_nat s i hi', Int.tdiv_eq_ediv_of_nonneg b.1, Int.tmod_eq_emod_of_nonneg b.1, w64 (n := s[i] / 256) (by omega) (by omega), Int.emod_eq_of_lt (a := s[i] / 256) (by omega) (by omega), Int.emod_emod_of_dvd _ (Int.dvd_refl 256), w64_succ (n := s.length) (by omega) (by omega)]
    refine ev_pos (by omega) (ev_pos (by omega) (ev_pos (by omega) (Ev.bind (Ev.now _) (ev_pos (by simp; omega) (ev_val (ih (i + 1) _ (by omega) (by simp; omega)) ?_)))))
    rw [List.drop_eq_getElem_cons hi', wordBytes_cons]; simp
theorem impl_PutSec_ev (b s : List Int) (hb : b.length ≤ 1048576) (hs : s.length ≤ 1048576) : Ev (fun k => impl_PutSec.f k b s) (putSecV b s) := by
  unfold impl_PutSec.f
  refine Ev.bind (Ev.now _) (ev_pos (by simp; omega) (Ev.bind (Ev.now _) (Ev.bind (impl_SecOk_ev s (by omega)) ?_)))
  by_cases h : secB s = true
  · have := secB_true.1 h
    refine ev_pos h (ev_pos (by simp; omega) (ev_val (impl_PutSec_l s this.2 this.1 s.length 0 _ (by omega) (by simp; omega)) ?_))
    rw [putSecV, if_pos h]; simp
  · refine ev_neg h (ev_const ?_)
    rw [putSecV, if_neg h]; simp

theorem laws_eqByteS_l (l : List Int) (hl : l.length ≤ 9223372036854775807) : ∀ (d i : Nat), i + d = l.length → Ev (fun k => laws_eqByteS.l0 k l l (i : Int)) true := by
  intro d
  induction d with
  | zero =>
    intro i hi
    exact Ev.step (f := fun _ => some true) (fun k => by simp only [laws_eqByteS.l0]; rw [if_neg (by omega)]) (Ev.now _)
  | succ d ih =>
    intro i hi
    refine Ev.step (f := fun k => laws_eqByteS.l0 k l l ((i + 1 : Nat) : Int)) (fun k => ?_) (ih (i + 1) (by omega))
    simp only [laws_eqByteS.l0]
    rw [if_pos (by omega), if_pos (by omega), if_pos (by omega), if_pos trivial, w64_succ (n := l.length) (by omega) hl]
theorem laws_eqByteS_ev (l : List Int) (hl : l.length ≤ 9223372036854775807) : Ev (fun k => laws_eqByteS.f k l l) true := by
  unfold laws_eqByteS.f
  exact ev_pos rfl (laws_eqByteS_l l hl l.length 0 (by omega))

theorem laws_eqIntS_l (l : List Int) (hl : l.length ≤ 9223372036854775807) : ∀ (d i : Nat), i + d = l.length → Ev (fun k => laws_eqIntS.l0 k l l (i : Int)) true := by
  intro d
  induction d with
  | zero =>
    intro i hi
    exact Ev.step (f := fun _ => some true) (fun k => by simp only [laws_eqIntS.l0]; rw [if_neg (by omega)]) (Ev.now _)
  | succ d ih =>
    intro i hi
    refine Ev.step (f := fun k => laws_eqIntS.l0 k l l ((i + 1 : Nat) : Int)) (fun k => ?_) (ih (i + 1) (by omega))
    simp only [laws_eqIntS.l0]
    rw [if_pos (by omega), if_pos (by omega), if_pos (by omega), if_pos trivial, w64_succ (n := l.length) (by omega) hl]
theorem laws_eqIntS_ev (l : List Int) (hl : l.length ≤ 9223372036854775807) : Ev (fun k => laws_eqIntS.f k l l) true := by
  unfold laws_eqIntS.f
  exact ev_pos rfl (laws_eqIntS_l l hl l.length 0 (by omega))

theorem laws_markByteS_l (n : Nat) (a : Int) (hn : n ≤ 9223372036854775807) (h0 : -9223372036854775808 ≤ a) (h1 : a + (n : Int) ≤ 9223372036854775807) : ∀ (d i : Nat) (x : List Int), i + d = n → x.length = n → x.take i = cntB a i → Ev (fun k => laws_markByteS.l0 k x (a + (i : Int)) (i : Int)) (a + (n : Int), cntB a n) := by
  intro d
  induction d with
  | zero =>
    intro i x hi hx ht
    obtain rfl : i = n := by omega
    refine Ev.step (f := fun _ => some (a + (i : Int), x)) (fun k => by simp only [laws_markByteS.l0]; rw [if_neg (by omega)]) (ev_const ?_)
    rw [List.take_of_length_le (by omega)] at ht
    rw [ht]
  | succ d ih =>
    intro i x hi hx ht
    refine Ev.step (f := fun k => laws_markByteS.l0 k (x.set i ((a + (i : Int)) % 256)) (a + ((i + 1 : Nat) : Int)) ((i + 1 : Nat) : Int)) (fun k => ?_) (ih (i + 1) (x.set i ((a + (i : Int)) % 256)) (by omega) (by simp [hx]) ?_)
    · simp only [laws_markByteS.l0]
      rw [if_pos (by omega), if_pos (by omega), w64_succ (n := n) (by omega) hn, w64 (n := a + (i : Int) + 1) (by omega) (by omega), show a + (i : Int) + 1 = a + ((i + 1 : Nat) : Int) by omega]
      rfl
    · rw [cntB_succ, List.take_succ_eq_append_getElem (by simp; omega), List.getElem_set_self, List.take_set_of_le (Nat.le_refl _), ht]
theorem laws_markByteS_ev (l : List Int) (a : Int) (h0 : -9223372036854775808 ≤ a) (h1 : a + (l.length : Int) ≤ 9223372036854775807) (hl : l.length ≤ 9223372036854775807) : Ev (fun k => laws_markByteS.f k l a) (a + (l.length : Int), cntB a l.length) := by
  have h := laws_markByteS_l l.length a hl h0 h1 l.length 0 l (by omega) rfl (by simp [cntB])
  unfold laws_markByteS.f
  simpa using h

theorem laws_markIntS_l (n : Nat) (a : Int) (hn : n ≤ 9223372036854775807) (h0 : -9223372036854775808 ≤ a) (h1 : a + (n : Int) ≤ 9223372036854775807) : ∀ (d i : Nat) (x : List Int), i + d = n → x.length = n → x.take i = cntL a i → Ev (fun k => laws_markIntS.l0 k x (a + (i : Int)) (i : Int)) (a + (n : Int), cntL a n) := by
  intro d
  induction d with
  | zero =>
    intro i x hi hx ht
    obtain rfl : i = n := by omega
    refine Ev.step (f := fun _ => some (a + (i : Int), x)) (fun k => by simp only [laws_markIntS.l0]; rw [if_neg (by omega)]) (ev_const ?_)
    rw [List.take_of_length_le (by omega)] at ht
    rw [ht]
  | succ d ih =>
    intro i x hi hx ht
    refine Ev.step (f := fun k => laws_markIntS.l0 k (x.set i (a + (i : Int))) (a + ((i + 1 : Nat) : Int)) ((i + 1 : Nat) : Int)) (fun k => ?_) (ih (i + 1) (x.set i (a + (i : Int))) (by omega) (by simp [hx]) ?_)
    · simp only [laws_markIntS.l0]
      rw [if_pos (by omega), if_pos (by omega), w64_succ (n := n) (by omega) hn, w64 (n := a + (i : Int) + 1) (by omega) (by omega), show a + (i : Int) + 1 = a + ((i + 1 : Nat) : Int) by omega]
      rfl
    · rw [cntL_succ, List.take_succ_eq_append_getElem (by simp; omega), List.getElem_set_self, List.take_set_of_le (Nat.le_refl _), ht]
theorem laws_markIntS_ev (l : List Int) (a : Int) (h0 : -9223372036854775808 ≤ a) (h1 : a + (l.length : Int) ≤ 9223372036854775807) (hl : l.length ≤ 9223372036854775807) : Ev (fun k => laws_markIntS.f k l a) (a + (l.length : Int), cntL a l.length) := by
  have h := laws_markIntS_l l.length a hl h0 h1 l.length 0 l (by omega) rfl (by simp [cntL])
  unfold laws_markIntS.f
  simpa using h

theorem laws_heldByteS_l (n : Nat) (a : Int) (hn : n ≤ 9223372036854775807) (h0 : -9223372036854775808 ≤ a) (h1 : a + (n : Int) ≤ 9223372036854775807) : ∀ (d i : Nat), i + d = n → Ev (fun k => laws_heldByteS.l0 k (cntB a n) (a + (i : Int)) (i : Int)) (a + (n : Int)) := by
  intro d
  have hc := cntB_length a n
  induction d with
  | zero =>
    intro i hi
    obtain rfl : i = n := by omega
    exact Ev.step (f := fun _ => some (a + (i : Int))) (fun k => by simp only [laws_heldByteS.l0]; rw [if_neg (by omega)]) (ev_const rfl)
  | succ d ih =>
    intro i hi
    refine Ev.step (f := fun k => laws_heldByteS.l0 k (cntB a n) (a + ((i + 1 : Nat) : Int)) ((i + 1 : Nat) : Int)) (fun k => ?_) (ih (i + 1) (by omega))
    simp only [laws_heldByteS.l0]
    rw [if_pos (by omega), if_pos (by omega), rd_nat _ i (by omega), cntB_get, if_pos rfl, w64_succ (n := n) (by omega) hn, w64 (n := a + (i : Int) + 1) (by omega) (by omega), show a + (i : Int) + 1 = a + ((i + 1 : Nat) : Int) by omega]
theorem laws_heldByteS_ev (n : Nat) (a : Int) (h0 : -9223372036854775808 ≤ a) (h1 : a + (n : Int) ≤ 9223372036854775807) (hn : n ≤ 9223372036854775807) : Ev (fun k => laws_heldByteS.f k (cntB a n) a) (a + (n : Int)) := by
  have h := laws_heldByteS_l n a hn h0 h1 n 0 (by omega)
  unfold laws_heldByteS.f
  simpa using h

theorem FnExactPutSec : ∀ (l0 : List (Int)) (l1 : List (Int)), (l0.length ≤ maxLen ∧ ∀ y ∈ l0, (Lit.int .u8 y).wf = true) → (l1.length ≤ maxLen ∧ ∀ y ∈ l1, (Lit.int .i64 y).wf = true) → ∃ k, laws_FnExactPutSec.f k l0 l1 = some true := by
  intro b s _ _
  refine Ev.rounds (r := true) ?_
  unfold laws_FnExactPutSec.f
  by_cases h : (b.length : Int) > 1048576
  · exact ev_pos h (Ev.now _)
  refine ev_neg h ?_
  by_cases h' : (s.length : Int) > 1048576
  · exact ev_pos h' (Ev.now _)
  have t := laws_toByteS_ev b (by omega)
  have u := laws_toIntS_ev s (by omega)
  have hs := spec_PutSec_ev b s (by omega) (by omega)
  have hi := impl_PutSec_ev b s (by omega) (by omega)
  have hlen := putSecV_length b s
  generalize putSecV b s = v at hs hi hlen
  have he := laws_eqByteS_ev v (by omega)
  have hm := laws_markByteS_ev v 1 (by omega) (by omega) (by omega)
  have hh := laws_heldByteS_ev v.length 1 (by omega) (by omega) (by omega)
  refine ev_neg h' (Ev.bind t (Ev.bind u (Ev.bind hs (Ev.bind t (Ev.bind u (Ev.bind hi (Ev.bind he (ev_pos (by trivial) (Ev.bind t (Ev.bind (laws_eqByteS_ev b (by omega)) (ev_pos (by trivial) (Ev.bind u (Ev.bind (laws_eqIntS_ev s (by omega)) (ev_pos (by trivial) (Ev.bind (laws_markByteS_ev b 1 (by omega) (by omega) (by omega)) (Ev.bind (laws_markIntS_ev s _ (by simp; omega) (by simp; omega) (by omega)) (ev_neg (by simp; omega) (Ev.bind he (ev_succ ?_)))))))))))))))))))
  simp only [laws_FnExactPutSec.j0]
  exact ev_neg (by simp) (Ev.bind hm (Ev.bind hh (ev_neg (by omega) (ev_pos (by trivial) (Ev.bind t (Ev.bind u (Ev.bind hi (Ev.bind he (ev_pos (by trivial) (Ev.bind hh (ev_neg (by omega) (ev_pos (by trivial) (Ev.now _)))))))))))))

end Go.Proofs.Ythojedbhcieopab.Pure
