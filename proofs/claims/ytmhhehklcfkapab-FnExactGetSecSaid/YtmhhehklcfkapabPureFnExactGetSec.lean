/- FnExactGetSec: for every input that the print speaks of the law comes to true, as plain numbers and lists. Conditions: none beyond those that the printed statement names. -/
import Derived.Test.YtmhhehklcfkapabPFnExactGetSecx3

namespace Go.Proofs.Ytmhhehklcfkapab.Pure
open Go.RowKit Go.Proofs.Ytmhhehklcfkapab.PFnExactGetSec Go.Proofs.YtmhhehklcfkapabW.PrintWords Go.Proofs.YtmhhehklcfkapabW.PrintLast
set_option linter.unusedVariables false
set_option linter.unusedSimpArgs false

/-! ### small laws: numbers, lists, rounds -/
theorem w64 {n : Int} (h0 : -9223372036854775808 ≤ n) (h1 : n ≤ 9223372036854775807) : wrap64 n = n := by unfold wrap64; omega
theorem w64_succ {i n : Nat} (hi : i < n) (hn : n ≤ 9223372036854775807) : wrap64 ((i : Int) + 1) = ((i + 1 : Nat) : Int) := by
  rw [w64 (by omega) (by omega)]; rfl
theorem rd_nat (l : List Int) (i : Nat) (h : i < l.length) : rd l (i : Int) = l[i] := by
  simp [rd, List.getD_eq_getElem?_getD, List.getElem?_eq_getElem h]
theorem wf_i64 {x : Int} (h : (Lit.int .i64 x).wf = true) : -9223372036854775808 ≤ x ∧ x ≤ 9223372036854775807 := by
  have h' : IntKind.i64.min ≤ x ∧ x ≤ IntKind.i64.max := by simpa [Lit.wf] using h
  exact h'
theorem ev_val {α : Type} {g : Nat → Option α} {r r' : α} (h : Ev g r) (e : r = r') : Ev g r' := e ▸ h
theorem ev_pos {α : Type} {c : Prop} [Decidable c] {g f : Nat → Option α} {r : α} (hc : c) (h : Ev g r) : Ev (fun k => if c then g k else f k) r := by
  simpa [hc] using h
theorem ev_neg {α : Type} {c : Prop} [Decidable c] {g f : Nat → Option α} {r : α} (hc : ¬ c) (h : Ev f r) : Ev (fun k => if c then g k else f k) r := by
  simpa [hc] using h
theorem ev_const {α : Type} {o : Option α} {r : α} (h : o = some r) : Ev (fun _ => o) r := ⟨0, fun _ _ => h⟩
theorem ev_unique {α : Type} {g : Nat → Option α} {r r' : α} (h : Ev g r) (h' : Ev g r') : r = r' := by
  obtain ⟨K, h⟩ := h
  obtain ⟨K', h'⟩ := h'
  have e := h (max K K') (by omega)
  rw [h' (max K K') (by omega)] at e
  exact (Option.some.inj e).symm
theorem take_set_succ {α : Type} {x l : List α} {i : Nat} (hx : i < x.length) (hl : i < l.length) (h : x.take i = l.take i) : (x.set i l[i]).take (i + 1) = l.take (i + 1) := by
  rw [List.take_succ_eq_append_getElem (by simpa using hx), List.take_succ_eq_append_getElem hl, List.getElem_set_self, List.take_set_of_le (Nat.le_refl _), h]
def inB (a lo hi : Int) : Bool := decide (lo ≤ a ∧ a ≤ hi)
theorem inB_true {a lo hi : Int} : inB a lo hi = true ↔ lo ≤ a ∧ a ≤ hi := by simp [inB]
theorem inB_false {a lo hi : Int} : inB a lo hi = false ↔ ¬ (lo ≤ a ∧ a ≤ hi) := by simp [inB]
theorem ev_succ {α : Type} {g : Nat → Option α} {r : α} (h : Ev (fun k => g (k + 1)) r) : Ev g r := Ev.step (fun _ => rfl) h
theorem rd_in {l : List Int} {lo hi : Int} (h : ∀ x ∈ l, lo ≤ x ∧ x ≤ hi) (h0 : lo ≤ 0 ∧ 0 ≤ hi) (i : Int) : lo ≤ rd l i ∧ rd l i ≤ hi := by
  unfold rd
  rw [List.getD_eq_getElem?_getD]
  cases hx : l[i.toNat]? with
  | none => simpa using h0
  | some x => simpa using h x (List.mem_of_getElem? hx)
theorem wf_u8 {x : Int} (h : (Lit.int .u8 x).wf = true) : 0 ≤ x ∧ x ≤ 255 := by
  have h' : IntKind.u8.min ≤ x ∧ x ≤ IntKind.u8.max := by simpa [Lit.wf] using h
  exact h'

/-! ### what the laws write into a list of numbers: a, a + 1, .. -/
def cntL (a : Int) (n : Nat) : List Int := (List.range n).map (fun (j : Nat) => a + (j : Int))
theorem cntL_length (a : Int) (n : Nat) : (cntL a n).length = n := by simp [cntL]
theorem cntL_succ (a : Int) (n : Nat) : cntL a (n + 1) = cntL a n ++ [a + (n : Int)] := by simp [cntL, List.range_succ]
theorem cntL_get (a : Int) (n i : Nat) (h : i < (cntL a n).length) : (cntL a n)[i] = a + (i : Int) := by simp [cntL]

def cntB (a : Int) (n : Nat) : List Int := (List.range n).map (fun (j : Nat) => (a + (j : Int)) % 256)
theorem cntB_length (a : Int) (n : Nat) : (cntB a n).length = n := by simp [cntB]
theorem cntB_succ (a : Int) (n : Nat) : cntB a (n + 1) = cntB a n ++ [(a + (n : Int)) % 256] := by simp [cntB, List.range_succ]
theorem cntB_get (a : Int) (n i : Nat) (h : i < (cntB a n).length) : (cntB a n)[i] = (a + (i : Int)) % 256 := by simp [cntB]

theorem spec_l1In_eq (a lo hi : Int) : spec_l1In.f a lo hi = some (inB a lo hi) := by
  unfold spec_l1In.f inB
  split
  · congr 1; simp; omega
  · congr 1; simp; omega

def secB (l : List Int) : Bool := decide (l.length ≤ 12) && l.all (inB · 0 65535)
/-! ### a sector's bytes -/
def secW (l : List Int) (at_ : Nat) (n : Nat) : List Int := (List.range n).map (fun (j : Nat) => rd l ((at_ + 1 + 2 * j : Nat) : Int) * 256 + rd l ((at_ + 2 + 2 * j : Nat) : Int))
theorem secW_length (l : List Int) (a n : Nat) : (secW l a n).length = n := by simp [secW]
theorem secW_succ (l : List Int) (a n : Nat) : secW l a (n + 1) = secW l a n ++ [rd l ((a + 1 + 2 * n : Nat) : Int) * 256 + rd l ((a + 2 + 2 * n : Nat) : Int)] := by simp [secW, List.range_succ]
def getSecB (l : List Int) (a : Int) : Bool := decide (0 ≤ a ∧ a < (l.length : Int) ∧ rd l a ≤ 12 ∧ a + 1 + 2 * rd l a ≤ (l.length : Int))
def getSecV (l : List Int) (a : Int) : List Int × Int × Bool := if getSecB l a = true then (secW l a.toNat (rd l a).toNat, a + 1 + 2 * rd l a, true) else ([], 0, false)
theorem byte_join {h l : Int} (h0 : 0 ≤ h ∧ h ≤ 255) (l0 : 0 ≤ l ∧ l ≤ 255) : Go.bits .or .i64 (h * 256) l = h * 256 + l := by
  have w : ∀ n : Int, 0 ≤ n → n < 2 ^ 16 → IntKind.i64.wrap n = n := by
    intro n h1 h2
    rw [IntKind.wrap_i64]
    have : (2 : Int) ^ 16 = 65536 := by decide
    omega
  have e16 : (2 : Int) ^ 16 = 65536 := by decide
  have e8 : (2 : Int) ^ 8 = 256 := by decide
  exact bits_join .i64 16 (by decide) w 8 (h * 256) l (by omega) (by omega) (by omega) (by omega) (by omega) (by omega)

theorem spec_GetSec_l (l : List Int) (hb : ∀ x ∈ l, 0 ≤ x ∧ x ≤ 255) (hl : l.length ≤ 1048576) (a n : Nat) (hn : n ≤ 12) (h : a + 1 + 2 * n ≤ l.length) : ∀ (d i : Nat), i + d = n → Ev (fun k => spec_GetSec.l0 k l (a : Int) (n : Int) (secW l a i) (i : Int)) (secW l a n, (a : Int) + 1 + 2 * (n : Int), true) := by
  intro d
  induction d with
  | zero =>
    intro i hi
    obtain rfl : i = n := by omega
    refine ev_succ ?_
    simp only [spec_GetSec.l0]
    refine ev_neg (by omega) (ev_const ?_)
    rw [w64 (n := (a : Int) + 1) (by omega) (by omega), w64 (n := 2 * (i : Int)) (by omega) (by omega), w64 (by omega) (by omega)]
  | succ d ih =>
    intro i hi
    refine ev_succ ?_
    simp only [spec_GetSec.l0]
    have b1 := rd_in hb (by omega) ((a + 1 + 2 * i : Nat) : Int)
    have b2 := rd_in hb (by omega) ((a + 2 + 2 * i : Nat) : Int)
    have e1 : wrap64 (wrap64 ((a : Int) + 1) + wrap64 (2 * (i : Int))) = ((a + 1 + 2 * i : Nat) : Int) := by
      rw [w64 (n := (a : Int) + 1) (by omega) (by omega), w64 (n := 2 * (i : Int)) (by omega) (by omega), w64 (by omega) (by omega)]; omega
    have e2 : wrap64 (wrap64 ((a : Int) + 2) + wrap64 (2 * (i : Int))) = ((a + 2 + 2 * i : Nat) : Int) := by
      rw [w64 (n := (a : Int) + 2) (by omega) (by omega), w64 (n := 2 * (i : Int)) (by omega) (by omega), w64 (by omega) (by omega)]; omega
    rw [e1, e2, w64 (n := rd l ((a + 1 + 2 * i : Nat) : Int)) (by omega) (by omega), w64 (n := rd l ((a + 2 + 2 * i : Nat) : Int)) (by omega) (by omega), w64 (n := _ * 256) (by omega) (by omega), byte_join b1 b2, ← secW_succ, w64_succ (n := n) (by omega) (by omega)]
    have hs := secW_length l a i
    refine ev_pos (by omega) (ev_pos (by omega) (ev_pos (by omega) (ev_pos (by omega) (ev_pos (by omega) (ev_pos (by omega) (ih (i + 1) (by omega)))))))
theorem spec_GetSec_ev (l : List Int) (hb : ∀ x ∈ l, 0 ≤ x ∧ x ≤ 255) (hl : l.length ≤ 1048576) (a : Int) : Ev (fun k => spec_GetSec.f k l a) (getSecV l a) := by
  unfold spec_GetSec.f
  rw [w64 (n := (l.length : Int) - 1) (by omega) (by omega), spec_l1In_eq]
  cases hi : inB a 0 ((l.length : Int) - 1) with
  | false =>
    have h := inB_false.1 hi
    have h' : ¬ getSecB l a = true := by simp only [getSecB, decide_eq_true_eq]; omega
    exact Ev.bind (Ev.now false) (ev_neg (by simp) (ev_const (by rw [getSecV, if_neg h'])))
  | true =>
    have h := inB_true.1 hi
    have b0 := rd_in hb (by omega) a
    obtain ⟨a, rfl⟩ : ∃ m : Nat, a = m := ⟨a.toNat, by omega⟩
    obtain ⟨n, hn⟩ : ∃ n : Nat, rd l (a : Int) = n := ⟨(rd l (a : Int)).toNat, by omega⟩
    refine Ev.bind (Ev.now true) (ev_pos rfl (ev_pos (by omega) (ev_pos (by omega) ?_)))
    rw [hn] at b0
    rw [hn, w64 (n := (n : Int)) (by omega) (by omega), w64 (n := 2 * (n : Int)) (by omega) (by omega), w64 (n := (l.length : Int) - (a : Int)) (by omega) (by omega), w64 (n := (l.length : Int) - (a : Int) - 1) (by omega) (by omega)]
    by_cases h1 : (n : Int) > 12
    · have h' : ¬ getSecB l (a : Int) = true := by simp only [getSecB, decide_eq_true_eq, hn]; omega
      refine ev_pos h1 (ev_succ ?_)
      simp only [spec_GetSec.j0]
      exact ev_pos trivial (ev_const (by rw [getSecV, if_neg h']))
    · refine ev_neg h1 (ev_succ ?_)
      simp only [spec_GetSec.j0]
      by_cases h2 : 2 * (n : Int) > (l.length : Int) - (a : Int) - 1
      · have h' : ¬ getSecB l (a : Int) = true := by simp only [getSecB, decide_eq_true_eq, hn]; omega
        exact ev_pos (decide_eq_true h2) (ev_const (by rw [getSecV, if_neg h']))
      · have h' : getSecB l (a : Int) = true := by simp only [getSecB, decide_eq_true_eq, hn]; omega
        refine ev_neg (by simp; omega) ?_
        rw [getSecV, if_pos h', hn]
        exact spec_GetSec_l l hb hl a n (by omega) (by omega) n 0 (by omega)

theorem laws_toByteS_l (l : List Int) (hl : l.length ≤ 9223372036854775807) : ∀ (d i : Nat) (x : List Int), i + d = l.length → x.length = l.length → x.take i = l.take i → Ev (fun k => laws_toByteS.l0 k l x (i : Int)) l := by
  intro d
  induction d with
  | zero =>
    intro i x hi hx ht
    refine Ev.step (f := fun _ => some x) (fun k => by show laws_toByteS.l0 (k + 1) l x (i : Int) = _; rw [laws_toByteS.l0]; rw [if_neg (by omega)]) (ev_const ?_)
    rw [List.take_of_length_le (by omega), List.take_of_length_le (by omega)] at ht
    rw [ht]
  | succ d ih =>
    intro i x hi hx ht
    refine Ev.step (f := fun k => laws_toByteS.l0 k l (x.set i (l[i]'(by omega))) ((i + 1 : Nat) : Int)) (fun k => ?_) (ih (i + 1) (x.set i (l[i]'(by omega))) (by omega) (by simp [hx]) ?_)
    · simp only [laws_toByteS.l0]
      rw [if_pos (by omega), if_pos (by omega), if_pos (by omega), w64_succ (n := l.length) (by omega) hl, rd_nat l i (by omega)]
      rfl
    · exact take_set_succ (by omega) (by omega) ht
theorem laws_toByteS_ev (l : List Int) (hl : l.length ≤ 281474976710656) : Ev (fun k => laws_toByteS.f k l) l := by
  unfold laws_toByteS.f
  refine ev_pos (by omega) (ev_pos (by omega) ?_)
  exact laws_toByteS_l l (by omega) l.length 0 _ (by omega) (by simp) (by simp)

theorem impl_within_eq (a lo hi : Int) : impl_within.f a lo hi = some (inB a lo hi) := by
  unfold impl_within.f inB
  split
  · congr 1; simp; omega
  · congr 1; simp; omega

theorem impl_GetSec_l (l : List Int) (hb : ∀ x ∈ l, 0 ≤ x ∧ x ≤ 255) (hl : l.length ≤ 1048576) (a n : Nat) (hn : n ≤ 12) (h : a + 1 + 2 * n ≤ l.length) : ∀ (d i : Nat), i + d = n → Ev (fun k => impl_GetSec.l0 k l ((a + 1 + 2 * n : Nat) : Int) (secW l a i) ((a + 1 + 2 * i : Nat) : Int)) (secW l a n, (a : Int) + 1 + 2 * (n : Int), true) := by
  intro d
  induction d with
  | zero =>
    intro i hi
    obtain rfl : i = n := by omega
    refine ev_succ ?_
    simp only [impl_GetSec.l0]
    refine ev_neg (by omega) (ev_const ?_)
    rw [show ((a + 1 + 2 * i : Nat) : Int) = (a : Int) + 1 + 2 * (i : Int) by omega]
  | succ d ih =>
    intro i hi
    refine ev_succ ?_
    simp only [impl_GetSec.l0]
    have b1 := rd_in hb (by omega) ((a + 1 + 2 * i : Nat) : Int)
    have b2 := rd_in hb (by omega) ((a + 2 + 2 * i : Nat) : Int)
    have e2 : wrap64 (((a + 1 + 2 * i : Nat) : Int) + 1) = ((a + 2 + 2 * i : Nat) : Int) := by
      rw [w64 (by omega) (by omega)]; omega
    have e3 : wrap64 (((a + 1 + 2 * i : Nat) : Int) + 2) = ((a + 1 + 2 * (i + 1) : Nat) : Int) := by
      rw [w64 (by omega) (by omega)]; omega
    rw [e2, e3, w64 (n := rd l ((a + 1 + 2 * i : Nat) : Int)) (by omega) (by omega), w64 (n := rd l ((a + 2 + 2 * i : Nat) : Int)) (by omega) (by omega), w64 (n := _ * 256) (by omega) (by omega), w64 (n := _ * 256 + _) (by omega) (by omega), ← secW_succ]
    have hs := secW_length l a i
    refine ev_pos (by omega) (ev_pos (by omega) (ev_pos (by omega) (ev_pos (by omega) (ev_pos (by omega) (ev_pos (by omega) (ih (i + 1) (by omega)))))))
theorem impl_GetSec_ev (l : List Int) (hb : ∀ x ∈ l, 0 ≤ x ∧ x ≤ 255) (hl : l.length ≤ 1048576) (a : Int) : Ev (fun k => impl_GetSec.f k l a) (getSecV l a) := by
  unfold impl_GetSec.f
  rw [w64 (n := (l.length : Int) - 1) (by omega) (by omega), impl_within_eq]
  cases hi : inB a 0 ((l.length : Int) - 1) with
  | false =>
    have h := inB_false.1 hi
    have h' : ¬ getSecB l a = true := by simp only [getSecB, decide_eq_true_eq]; omega
    exact Ev.bind (Ev.now false) (ev_neg (by simp) (ev_const (by rw [getSecV, if_neg h'])))
  | true =>
    have h := inB_true.1 hi
    have b0 := rd_in hb (by omega) a
    obtain ⟨a, rfl⟩ : ∃ m : Nat, a = m := ⟨a.toNat, by omega⟩
    obtain ⟨n, hn⟩ : ∃ n : Nat, rd l (a : Int) = n := ⟨(rd l (a : Int)).toNat, by omega⟩
    refine Ev.bind (Ev.now true) (ev_pos rfl (ev_pos (by omega) (ev_pos (by omega) ?_)))
    rw [hn] at b0
    rw [hn, w64 (n := (n : Int)) (by omega) (by omega), w64 (n := 2 * (n : Int)) (by omega) (by omega), w64 (n := (a : Int) + 1) (by omega) (by omega), w64 (n := (a : Int) + 1 + 2 * (n : Int)) (by omega) (by omega)]
    by_cases h1 : (n : Int) > 12
    · have h' : ¬ getSecB l (a : Int) = true := by simp only [getSecB, decide_eq_true_eq, hn]; omega
      refine ev_pos h1 (ev_succ ?_)
      simp only [impl_GetSec.j0]
      exact ev_pos trivial (ev_const (by rw [getSecV, if_neg h']))
    · refine ev_neg h1 (ev_succ ?_)
      simp only [impl_GetSec.j0]
      by_cases h2 : (a : Int) + 1 + 2 * (n : Int) > (l.length : Int)
      · have h' : ¬ getSecB l (a : Int) = true := by simp only [getSecB, decide_eq_true_eq, hn]; omega
        exact ev_pos (decide_eq_true h2) (ev_const (by rw [getSecV, if_neg h']))
      · have h' : getSecB l (a : Int) = true := by simp only [getSecB, decide_eq_true_eq, hn]; omega
        refine ev_neg (by simp; omega) ?_
        rw [getSecV, if_pos h', hn, w64 (n := (a : Int) + 1) (by omega) (by omega)]
        exact impl_GetSec_l l hb hl a n (by omega) (by omega) n 0 (by omega)

theorem laws_eqIntS_l (l : List Int) (hl : l.length ≤ 9223372036854775807) : ∀ (d i : Nat), i + d = l.length → Ev (fun k => laws_eqIntS.l0 k l l (i : Int)) true := by
  intro d
  induction d with
  | zero =>
    intro i hi
    exact Ev.step (f := fun _ => some true) (fun k => by simp only [laws_eqIntS.l0]; rw [if_neg (by omega)]) (Ev.now _)
  | succ d ih =>
    intro i hi
    refine Ev.step (f := fun k => laws_eqIntS.l0 k l l ((i + 1 : Nat) : Int)) (fun k => ?_) (ih (i + 1) (by omega))
    simp only [laws_eqIntS.l0]
    rw [if_pos (by omega), if_pos (by omega), if_pos (by omega), if_pos trivial, w64_succ (n := l.length) (by omega) hl]
theorem laws_eqIntS_ev (l : List Int) (hl : l.length ≤ 9223372036854775807) : Ev (fun k => laws_eqIntS.f k l l) true := by
  unfold laws_eqIntS.f
  exact ev_pos rfl (laws_eqIntS_l l hl l.length 0 (by omega))

theorem laws_eqByteS_l (l : List Int) (hl : l.length ≤ 9223372036854775807) : ∀ (d i : Nat), i + d = l.length → Ev (fun k => laws_eqByteS.l0 k l l (i : Int)) true := by
  intro d
  induction d with
  | zero =>
    intro i hi
    exact Ev.step (f := fun _ => some true) (fun k => by simp only [laws_eqByteS.l0]; rw [if_neg (by omega)]) (Ev.now _)
  | succ d ih =>
    intro i hi
    refine Ev.step (f := fun k => laws_eqByteS.l0 k l l ((i + 1 : Nat) : Int)) (fun k => ?_) (ih (i + 1) (by omega))
    simp only [laws_eqByteS.l0]
    rw [if_pos (by omega), if_pos (by omega), if_pos (by omega), if_pos trivial, w64_succ (n := l.length) (by omega) hl]
theorem laws_eqByteS_ev (l : List Int) (hl : l.length ≤ 9223372036854775807) : Ev (fun k => laws_eqByteS.f k l l) true := by
  unfold laws_eqByteS.f
  exact ev_pos rfl (laws_eqByteS_l l hl l.length 0 (by omega))

theorem laws_markByteS_l (n : Nat) (a : Int) (hn : n ≤ 9223372036854775807) (h0 : -9223372036854775808 ≤ a) (h1 : a + (n : Int) ≤ 9223372036854775807) : ∀ (d i : Nat) (x : List Int), i + d = n → x.length = n → x.take i = cntB a i → Ev (fun k => laws_markByteS.l0 k x (a + (i : Int)) (i : Int)) (a + (n : Int), cntB a n) := by
  intro d
  induction d with
  | zero =>
    intro i x hi hx ht
    obtain rfl : i = n := by omega
    refine Ev.step (f := fun _ => some (a + (i : Int), x)) (fun k => by simp only [laws_markByteS.l0]; rw [if_neg (by omega)]) (ev_const ?_)
    rw [List.take_of_length_le (by omega)] at ht
    rw [ht]
  | succ d ih =>
    intro i x hi hx ht
    refine Ev.step (f := fun k => laws_markByteS.l0 k (x.set i ((a + (i : Int)) % 256)) (a + ((i + 1 : Nat) : Int)) ((i + 1 : Nat) : Int)) (fun k => ?_) (ih (i + 1) (x.set i ((a + (i : Int)) % 256)) (by omega) (by simp [hx]) ?_)
    · simp only [laws_markByteS.l0]
      rw [if_pos (by omega), if_pos (by omega), w64_succ (n := n) (by omega) hn, w64 (n := a + (i : Int) + 1) (by omega) (by omega), show a + (i : Int) + 1 = a + ((i + 1 : Nat) : Int) by omega]
      rfl
    · rw [cntB_succ, List.take_succ_eq_append_getElem (by simp; omega), List.getElem_set_self, List.take_set_of_le (Nat.le_refl _), ht]
theorem laws_markByteS_ev (l : List Int) (a : Int) (h0 : -9223372036854775808 ≤ a) (h1 : a + (l.length : Int) ≤ 9223372036854775807) (hl : l.length ≤ 9223372036854775807) : Ev (fun k => laws_markByteS.f k l a) (a + (l.length : Int), cntB a l.length) := by
  have h := laws_markByteS_l l.length a hl h0 h1 l.length 0 l (by omega) rfl (by simp [cntB])
  unfold laws_markByteS.f
  simpa using h

theorem laws_markIntS_l (n : Nat) (a : Int) (hn : n ≤ 9223372036854775807) (h0 : -9223372036854775808 ≤ a) (h1 : a + (n : Int) ≤ 9223372036854775807) : ∀ (d i : Nat) (x : List Int), i + d = n → x.length = n → x.take i = cntL a i → Ev (fun k => laws_markIntS.l0 k x (a + (i : Int)) (i : Int)) (a + (n : Int), cntL a n) := by
  intro d
  induction d with
  | zero =>
    intro i x hi hx ht
    obtain rfl : i = n := by omega
    refine Ev.step (f := fun _ => some (a + (i : Int), x)) (fun k => by simp only [laws_markIntS.l0]; rw [if_neg (by omega)]) (ev_const ?_)
    rw [List.take_of_length_le (by omega)] at ht
    rw [ht]
  | succ d ih =>
    intro i x hi hx ht
    refine Ev.step (f := fun k => laws_markIntS.l0 k (x.set i (a + (i : Int))) (a + ((i + 1 : Nat) : Int)) ((i + 1 : Nat) : Int)) (fun k => ?_) (ih (i + 1) (x.set i (a + (i : Int))) (by omega) (by simp [hx]) ?_)
    · simp only [laws_markIntS.l0]
      rw [if_pos (by omega), if_pos (by omega), w64_succ (n := n) (by omega) hn, w64 (n := a + (i : Int) + 1) (by omega) (by omega), show a + (i : Int) + 1 = a + ((i + 1 : Nat) : Int) by omega]
      rfl
    · rw [cntL_succ, List.take_succ_eq_append_getElem (by simp; omega), List.getElem_set_self, List.take_set_of_le (Nat.le_refl _), ht]
theorem laws_markIntS_ev (l : List Int) (a : Int) (h0 : -9223372036854775808 ≤ a) (h1 : a + (l.length : Int) ≤ 9223372036854775807) (hl : l.length ≤ 9223372036854775807) : Ev (fun k => laws_markIntS.f k l a) (a + (l.length : Int), cntL a l.length) := by
  have h := laws_markIntS_l l.length a hl h0 h1 l.length 0 l (by omega) rfl (by simp [cntL])
  unfold laws_markIntS.f
  simpa using h

theorem laws_heldIntS_l (n : Nat) (a : Int) (hn : n ≤ 9223372036854775807) (h0 : -9223372036854775808 ≤ a) (h1 : a + (n : Int) ≤ 9223372036854775807) : ∀ (d i : Nat), i + d = n → Ev (fun k => laws_heldIntS.l0 k (cntL a n) (a + (i : Int)) (i : Int)) (a + (n : Int)) := by
  intro d
  have hc := cntL_length a n
  induction d with
  | zero =>
    intro i hi
    obtain rfl : i = n := by omega
    exact Ev.step (f := fun _ => some (a + (i : Int))) (fun k => by simp only [laws_heldIntS.l0]; rw [if_neg (by omega)]) (ev_const rfl)
  | succ d ih =>
    intro i hi
    refine Ev.step (f := fun k => laws_heldIntS.l0 k (cntL a n) (a + ((i + 1 : Nat) : Int)) ((i + 1 : Nat) : Int)) (fun k => ?_) (ih (i + 1) (by omega))
    simp only [laws_heldIntS.l0]
    rw [if_pos (by omega), if_pos (by omega), rd_nat _ i (by omega), cntL_get, if_pos rfl, w64_succ (n := n) (by omega) hn, w64 (n := a + (i : Int) + 1) (by omega) (by omega), show a + (i : Int) + 1 = a + ((i + 1 : Nat) : Int) by omega]
theorem laws_heldIntS_ev (n : Nat) (a : Int) (h0 : -9223372036854775808 ≤ a) (h1 : a + (n : Int) ≤ 9223372036854775807) (hn : n ≤ 9223372036854775807) : Ev (fun k => laws_heldIntS.f k (cntL a n) a) (a + (n : Int)) := by
  have h := laws_heldIntS_l n a hn h0 h1 n 0 (by omega)
  unfold laws_heldIntS.f
  simpa using h

theorem FnExactGetSec : ∀ (l0 : List (Int)) (a1 : Int), (l0.length ≤ maxLen ∧ ∀ y ∈ l0, (Lit.int .u8 y).wf = true) → (Lit.int .i64 a1).wf = true → ∃ k, laws_FnExactGetSec.f k l0 a1 = some true := by
  intro l a hl0 _
  refine Ev.rounds (r := true) ?_
  have hb : ∀ x ∈ l, 0 ≤ x ∧ x ≤ 255 := fun x hx => wf_u8 (hl0.2 x hx)
  unfold laws_FnExactGetSec.f
  by_cases h : (l.length : Int) > 1048576
  · exact ev_pos h (Ev.now _)
  have t := laws_toByteS_ev l (by omega)
  have hs := spec_GetSec_ev l hb (by omega) a
  have hi := impl_GetSec_ev l hb (by omega) a
  have hlen : (getSecV l a).1.length ≤ 12 := by
    unfold getSecV
    split
    · rename_i h'
      simp only [getSecB, decide_eq_true_eq] at h'
      simp only [secW_length]; omega
    · simp
  generalize getSecV l a = v at hs hi hlen
  obtain ⟨v0, v1, v2⟩ := v
  have hlen : v0.length ≤ 12 := hlen
  have he := laws_eqIntS_ev v0 (by omega)
  have hm := laws_markIntS_ev v0 1 (by omega) (by omega) (by omega)
  have hh := laws_heldIntS_ev v0.length 1 (by omega) (by omega) (by omega)
  refine ev_neg h (Ev.bind t (Ev.bind hs (Ev.bind t (Ev.bind hi (Ev.bind he (ev_pos rfl (ev_pos rfl (ev_succ ?_))))))))
  simp only [laws_FnExactGetSec.j0]
  refine ev_neg (by simp) (Ev.bind t (Ev.bind (laws_eqByteS_ev l (by omega)) (ev_pos (by trivial) (Ev.bind (laws_markByteS_ev l 1 (by omega) (by omega) (by omega)) (ev_neg (by simp; omega) (Ev.bind he (ev_pos (by trivial) (ev_pos (by trivial) (ev_succ ?_)))))))))
  simp only [laws_FnExactGetSec.j1]
  refine ev_neg (by simp) (Ev.bind hm (Ev.bind hh (ev_neg (by simp; omega) (ev_pos (by trivial) (Ev.bind t (Ev.bind hi (Ev.bind he (ev_pos (by trivial) (ev_pos (by trivial) (ev_succ ?_))))))))))
  simp only [laws_FnExactGetSec.j2]
  exact ev_neg (by simp) (Ev.bind hh (ev_neg (by simp; omega) (ev_pos (by trivial) (Ev.now _))))

end Go.Proofs.Ytmhhehklcfkapab.Pure
