/- FnExactGetSuper: for every input that the print speaks of the law comes to true, as plain numbers and lists. Conditions: none beyond those that the printed statement names. -/
import Derived.Test.YtmhhehklcfkapabPFnExactGetSuperx5

namespace Go.Proofs.Ytmhhehklcfkapab.Pure
open Go.RowKit Go.Proofs.Ytmhhehklcfkapab.PFnExactGetSuper Go.Proofs.YtmhhehklcfkapabW.PrintWords Go.Proofs.YtmhhehklcfkapabW.PrintLast
set_option linter.unusedVariables false
set_option linter.unusedSimpArgs false

/-! ### small laws: numbers, lists, rounds -/
theorem w64 {n : Int} (h0 : -9223372036854775808 ≤ n) (h1 : n ≤ 9223372036854775807) : wrap64 n = n := by unfold wrap64; omega
theorem w64_succ {i n : Nat} (hi : i < n) (hn : n ≤ 9223372036854775807) : wrap64 ((i : Int) + 1) = ((i + 1 : Nat) : Int) := by
  rw [w64 (by omega) (by omega)]; rfl
theorem rd_nat (l : List Int) (i : Nat) (h : i < l.length) : rd l (i : Int) = l[i] := by
  simp [rd, List.getD_eq_getElem?_getD, List.getElem?_eq_getElem h]
theorem wf_i64 {x : Int} (h : (Lit.int .i64 x).wf = true) : -9223372036854775808 ≤ x ∧ x ≤ 9223372036854775807 := by
  have h' : IntKind.i64.min ≤ x ∧ x ≤ IntKind.i64.max := by simpa [Lit.wf] using h
  exact h'
theorem ev_val {α : Type} {g : Nat → Option α} {r r' : α} (h : Ev g r) (e : r = r') : Ev g r' := e ▸ h
theorem ev_pos {α : Type} {c : Prop} [Decidable c] {g f : Nat → Option α} {r : α} (hc : c) (h : Ev g r) : Ev (fun k => if c then g k else f k) r := by
  simpa [hc] using h
theorem ev_neg {α : Type} {c : Prop} [Decidable c] {g f : Nat → Option α} {r : α} (hc : ¬ c) (h : Ev f r) : Ev (fun k => if c then g k else f k) r := by
  simpa [hc] using h
theorem ev_const {α : Type} {o : Option α} {r : α} (h : o = some r) : Ev (fun _ => o) r := ⟨0, fun _ _ => h⟩
theorem ev_unique {α : Type} {g : Nat → Option α} {r r' : α} (h : Ev g r) (h' : Ev g r') : r = r' := by
  obtain ⟨K, h⟩ := h
  obtain ⟨K', h'⟩ := h'
  have e := h (max K K') (by omega)
  rw [h' (max K K') (by omega)] at e
  exact (Option.some.inj e).symm
theorem take_set_succ {α : Type} {x l : List α} {i : Nat} (hx : i < x.length) (hl : i < l.length) (h : x.take i = l.take i) : (x.set i l[i]).take (i + 1) = l.take (i + 1) := by
  rw [List.take_succ_eq_append_getElem (by simpa using hx), List.take_succ_eq_append_getElem hl, List.getElem_set_self, List.take_set_of_le (Nat.le_refl _), h]
def inB (a lo hi : Int) : Bool := decide (lo ≤ a ∧ a ≤ hi)
theorem inB_true {a lo hi : Int} : inB a lo hi = true ↔ lo ≤ a ∧ a ≤ hi := by simp [inB]
theorem inB_false {a lo hi : Int} : inB a lo hi = false ↔ ¬ (lo ≤ a ∧ a ≤ hi) := by simp [inB]
theorem ev_succ {α : Type} {g : Nat → Option α} {r : α} (h : Ev (fun k => g (k + 1)) r) : Ev g r := Ev.step (fun _ => rfl) h
theorem rd_in {l : List Int} {lo hi : Int} (h : ∀ x ∈ l, lo ≤ x ∧ x ≤ hi) (h0 : lo ≤ 0 ∧ 0 ≤ hi) (i : Int) : lo ≤ rd l i ∧ rd l i ≤ hi := by
  unfold rd
  rw [List.getD_eq_getElem?_getD]
  cases hx : l[i.toNat]? with
  | none => simpa using h0
  | some x => simpa using h x (List.mem_of_getElem? hx)
theorem wf_u8 {x : Int} (h : (Lit.int .u8 x).wf = true) : 0 ≤ x ∧ x ≤ 255 := by
  have h' : IntKind.u8.min ≤ x ∧ x ≤ IntKind.u8.max := by simpa [Lit.wf] using h
  exact h'

theorem laws_eqIntS_l (l : List Int) (hl : l.length ≤ 9223372036854775807) : ∀ (d i : Nat), i + d = l.length → Ev (fun k => laws_eqIntS.l0 k l l (i : Int)) true := by
  intro d
  induction d with
  | zero =>
    intro i hi
    exact Ev.step (f := fun _ => some true) (fun k => by simp only [laws_eqIntS.l0]; rw [if_neg (by omega)]) (Ev.now _)
  | succ d ih =>
    intro i hi
    refine Ev.step (f := fun k => laws_eqIntS.l0 k l l ((i + 1 : Nat) : Int)) (fun k => ?_) (ih (i + 1) (by omega))
    simp only [laws_eqIntS.l0]
    rw [if_pos (by omega), if_pos (by omega), if_pos (by omega), if_pos trivial, w64_succ (n := l.length) (by omega) hl]
theorem laws_eqIntS_ev (l : List Int) (hl : l.length ≤ 9223372036854775807) : Ev (fun k => laws_eqIntS.f k l l) true := by
  unfold laws_eqIntS.f
  exact ev_pos rfl (laws_eqIntS_l l hl l.length 0 (by omega))

theorem spec_l1In_eq (a lo hi : Int) : spec_l1In.f a lo hi = some (inB a lo hi) := by
  unfold spec_l1In.f inB
  split
  · congr 1; simp; omega
  · congr 1; simp; omega

/-! ### where blocks are -/
def geoB (n s : Int) : Bool := inB n 3 5 && inB s 1 8
theorem geoB_true {n s : Int} : geoB n s = true ↔ (3 ≤ n ∧ n ≤ 5) ∧ 1 ≤ s ∧ s ≤ 8 := by simp [geoB, inB_true]
def strB (n s st : Int) : Bool := geoB n s && inB st 0 (s - 1)
theorem strB_true {n s st : Int} : strB n s st = true ↔ ((3 ≤ n ∧ n ≤ 5) ∧ 1 ≤ s ∧ s ≤ 8) ∧ 0 ≤ st ∧ st ≤ s - 1 := by simp [strB, geoB_true, inB_true]
def parV (n s st : Int) : Int := if strB n s st = true then n - 1 - st % n else -1
theorem parV_in {n s st : Int} (h : strB n s st = true) : 0 ≤ parV n s st ∧ parV n s st ≤ n - 1 := by
  have := strB_true.1 h
  have h1 := Int.emod_nonneg st (b := n) (by omega)
  have h2 := Int.emod_lt_of_pos st (b := n) (by omega)
  rw [parV, if_pos h]; omega
def diskV (n s st i : Int) : Int := if strB n s st = true ∧ inB i 0 (n - 2) = true then (parV n s st + 1 + i) % n else -1
def blocksV (n s : Int) : Int := if geoB n s = true then s * (n - 1) else 0
theorem blocksV_in (n s : Int) : 0 ≤ blocksV n s ∧ blocksV n s ≤ 32 := by
  unfold blocksV
  split
  · rename_i h
    have := geoB_true.1 h
    have h1 : 0 ≤ s * (n - 1) := Int.mul_nonneg (by omega) (by omega)
    have h2 : s * (n - 1) ≤ 8 * (n - 1) := Int.mul_le_mul_of_nonneg_right (by omega) (by omega)
    omega
  · omega
def blkB (n s b : Int) : Bool := inB b 0 (blocksV n s - 1)
theorem blkB_geo {n s b : Int} (h : blkB n s b = true) : ((3 ≤ n ∧ n ≤ 5) ∧ 1 ≤ s ∧ s ≤ 8) ∧ 0 ≤ b ∧ b < s * (n - 1) := by
  have h' := inB_true.1 h
  by_cases hg : geoB n s = true
  · rw [blocksV, if_pos hg] at h'
    exact ⟨geoB_true.1 hg, by omega⟩
  · rw [blocksV, if_neg hg] at h'
    omega
def stripeV (n s b : Int) : Int := if blkB n s b = true then b / (n - 1) else -1
def indexV (n s b : Int) : Int := if blkB n s b = true then b % (n - 1) else -1
def blockAtV (n s st i : Int) : Int := if strB n s st = true ∧ inB i 0 (n - 2) = true then st * (n - 1) + i else -1

theorem spec_GeoOk_eq (n s : Int) : spec_GeoOk.f n s = some (geoB n s) := by
  unfold spec_GeoOk.f geoB
  rw [spec_l1In_eq, spec_l1In_eq]
  cases inB n 3 5 <;> simp

/-! ### what a disk knows -/
def superB (id gen role n s tail lost built : Int) : Bool := geoB n s && inB id 1 60000 && inB gen 0 60000 && inB role 0 (n - 1) && inB tail 0 60000 && inB lost (-1) (n - 1) && inB built 0 s && (decide (lost ≥ 0) || decide (built = 0))
theorem superB_true {id gen role n s tail lost built : Int} : superB id gen role n s tail lost built = true ↔ (((((((((3 ≤ n ∧ n ≤ 5) ∧ 1 ≤ s ∧ s ≤ 8) ∧ 1 ≤ id ∧ id ≤ 60000) ∧ 0 ≤ gen ∧ gen ≤ 60000) ∧ 0 ≤ role ∧ role ≤ n - 1) ∧ 0 ≤ tail ∧ tail ≤ 60000) ∧ -1 ≤ lost ∧ lost ≤ n - 1) ∧ 0 ≤ built ∧ built ≤ s) ∧ (lost ≥ 0 ∨ built = 0)) := by
  simp [superB, geoB_true, inB_true]
def putSuperV (id gen role n s tail lost built : Int) : List Int := if superB id gen role n s tail lost built = true then [21317, id, gen, role, n, s, tail, lost + 1, built] else []

theorem spec_SuperOk_ev (id gen role n s tail lost built : Int) : Ev (fun k => spec_SuperOk.f k id gen role n s tail lost built) (superB id gen role n s tail lost built) := by
  refine ⟨1, fun k hk => ?_⟩
  obtain ⟨m, rfl⟩ : ∃ m, k = m + 1 := ⟨k - 1, by omega⟩
  simp only [spec_SuperOk.f, spec_SuperOk.j0, spec_GeoOk_eq, spec_l1In_eq, Option.bind_some]
  cases hg : geoB n s with
  | false => simp [superB, hg]
  | true =>
    have := geoB_true.1 hg
    simp only [w64 (n := n - 1) (by omega) (by omega), superB, hg]
    cases inB id 1 60000 <;> cases inB gen 0 60000 <;> cases inB role 0 (n - 1) <;> cases inB tail 0 60000 <;> cases inB lost (-1) (n - 1) <;> cases inB built 0 s <;> simp
    split <;> rename_i h <;> simp [h]
    by_cases e : built = 0 <;> simp [e]

def getSuperB (l : List Int) : Bool := decide (l.length = 9 ∧ rd l 0 = 21317) && superB (rd l 1) (rd l 2) (rd l 3) (rd l 4) (rd l 5) (rd l 6) (rd l 7 - 1) (rd l 8)
def getSuperV (l : List Int) : Int × Int × Int × Int × Int × Int × Int × Int × Bool :=
  if getSuperB l = true then (rd l 1, rd l 2, rd l 3, rd l 4, rd l 5, rd l 6, rd l 7 - 1, rd l 8, true) else (0, 0, 0, 0, 0, 0, 0, 0, false)
/-- One below a 64-bit number, as Go has it: out of what is right only where the number is the least. -/
theorem superB_wrap {a b c d e f g h : Int} (hg : -9223372036854775808 ≤ g ∧ g ≤ 9223372036854775807) : superB a b c d e f (wrap64 (g - 1)) h = superB a b c d e f (g - 1) h := by
  by_cases e1 : g = -9223372036854775808
  · subst e1
    have e2 : wrap64 (-9223372036854775808 - 1) = 9223372036854775807 := by unfold wrap64; omega
    rw [e2]
    have h1 : superB a b c d e f 9223372036854775807 h = false := by
      rw [Bool.eq_false_iff]; intro h'; have := superB_true.1 h'; omega
    have h2 : superB a b c d e f (-9223372036854775808 - 1) h = false := by
      rw [Bool.eq_false_iff]; intro h'; have := superB_true.1 h'; omega
    rw [h1, h2]
  · rw [w64 (by omega) (by omega)]

theorem spec_GetSuper_ev (l : List Int) (hb : ∀ x ∈ l, -9223372036854775808 ≤ x ∧ x ≤ 9223372036854775807) : Ev (fun k => spec_GetSuper.f k l) (getSuperV l) := by
  unfold spec_GetSuper.f
  by_cases h9 : (l.length : Int) = 9
  · refine ev_pos h9 (ev_pos (by omega) (ev_succ ?_))
    simp only [spec_GetSuper.j0]
    by_cases h0 : rd l 0 = 21317
    · refine ev_neg (by simp [h0]) (ev_pos (by omega) (ev_pos (by omega) (ev_pos (by omega) (ev_pos (by omega) (ev_pos (by omega) (ev_pos (by omega) (ev_pos (by omega) (ev_pos (by omega) (Ev.bind (spec_SuperOk_ev _ _ _ _ _ _ _ _) (ev_const ?_))))))))))
      have b7 := rd_in hb (by omega) 7
      rw [superB_wrap b7]
      have e : getSuperB l = superB (rd l 1) (rd l 2) (rd l 3) (rd l 4) (rd l 5) (rd l 6) (rd l 7 - 1) (rd l 8) := by
        have : l.length = 9 := by omega
        simp [getSuperB, h0, this]
      unfold getSuperV
      rw [e]
      by_cases hs : superB (rd l 1) (rd l 2) (rd l 3) (rd l 4) (rd l 5) (rd l 6) (rd l 7 - 1) (rd l 8) = true
      · have := superB_true.1 hs
        rw [if_pos hs, if_pos hs, w64 (by omega) (by omega)]
      · rw [if_neg hs, if_neg hs]
    · refine ev_pos (by simp [h0]) (ev_const ?_)
      have : ¬ getSuperB l = true := by simp [getSuperB, h0]
      rw [getSuperV, if_neg this]
  · refine ev_neg h9 (ev_succ ?_)
    simp only [spec_GetSuper.j0]
    refine ev_pos (by trivial) (ev_const ?_)
    have h9' : ¬ l.length = 9 := by omega
    have : ¬ getSuperB l = true := by simp [getSuperB, h9']
    rw [getSuperV, if_neg this]

theorem laws_toIntS_l (l : List Int) (hl : l.length ≤ 9223372036854775807) : ∀ (d i : Nat) (x : List Int), i + d = l.length → x.length = l.length → x.take i = l.take i → Ev (fun k => laws_toIntS.l0 k l x (i : Int)) l := by
  intro d
  induction d with
  | zero =>
    intro i x hi hx ht
    refine Ev.step (f := fun _ => some x) (fun k => by show laws_toIntS.l0 (k + 1) l x (i : Int) = _; rw [laws_toIntS.l0]; rw [if_neg (by omega)]) (ev_const ?_)
    rw [List.take_of_length_le (by omega), List.take_of_length_le (by omega)] at ht
    rw [ht]
  | succ d ih =>
    intro i x hi hx ht
    refine Ev.step (f := fun k => laws_toIntS.l0 k l (x.set i (l[i]'(by omega))) ((i + 1 : Nat) : Int)) (fun k => ?_) (ih (i + 1) (x.set i (l[i]'(by omega))) (by omega) (by simp [hx]) ?_)
    · simp only [laws_toIntS.l0]
      rw [if_pos (by omega), if_pos (by omega), if_pos (by omega), w64_succ (n := l.length) (by omega) hl, rd_nat l i (by omega)]
      rfl
    · exact take_set_succ (by omega) (by omega) ht
theorem laws_toIntS_ev (l : List Int) (hl : l.length ≤ 35184372088832) : Ev (fun k => laws_toIntS.f k l) l := by
  unfold laws_toIntS.f
  refine ev_pos (by omega) (ev_pos (by omega) ?_)
  exact laws_toIntS_l l (by omega) l.length 0 _ (by omega) (by simp) (by simp)

theorem impl_within_eq (a lo hi : Int) : impl_within.f a lo hi = some (inB a lo hi) := by
  unfold impl_within.f inB
  split
  · congr 1; simp; omega
  · congr 1; simp; omega

theorem impl_GeoOk_eq (n s : Int) : impl_GeoOk.f n s = some (geoB n s) := by
  unfold impl_GeoOk.f geoB
  rw [impl_within_eq, impl_within_eq]
  cases inB n 3 5 <;> simp

theorem impl_lostOk_eq {n s lost built : Int} (h0 : -9223372036854775807 ≤ n) (h1 : n ≤ 9223372036854775807) : impl_lostOk.f n s lost built = some (inB lost (-1) (n - 1) && inB built 0 s && (decide (lost ≥ 0) || decide (built = 0))) := by
  unfold impl_lostOk.f
  rw [w64 (by omega) (by omega), impl_within_eq, impl_within_eq]
  cases hl : inB lost (-1) (n - 1) <;> cases inB built 0 s <;> simp
  have := inB_true.1 hl
  split
  · simp_all
  · rename_i hb
    by_cases e : lost = -1
    · subst e; simp [hb]
    · have : 0 ≤ lost := by omega
      simp [this, e]

theorem impl_SuperOk_eq (id gen role n s tail lost built : Int) : impl_SuperOk.f id gen role n s tail lost built = some (superB id gen role n s tail lost built) := by
  simp only [impl_SuperOk.f, impl_GeoOk_eq, impl_within_eq, Option.bind_some]
  cases hg : geoB n s with
  | false => cases inB id 1 60000 <;> cases inB gen 0 60000 <;> cases inB tail 0 60000 <;> simp [superB, hg]
  | true =>
    have := geoB_true.1 hg
    simp only [w64 (n := n - 1) (by omega) (by omega), superB, hg]
    rw [impl_lostOk_eq (by omega) (by omega)]
    cases inB id 1 60000 <;> cases inB gen 0 60000 <;> cases inB role 0 (n - 1) <;> cases inB tail 0 60000 <;> cases inB lost (-1) (n - 1) <;> cases inB built 0 s <;> simp

theorem impl_GetSuper_ev (l : List Int) (hb : ∀ x ∈ l, -9223372036854775808 ≤ x ∧ x ≤ 9223372036854775807) : Ev (fun k => impl_GetSuper.f k l) (getSuperV l) := by
  unfold impl_GetSuper.f
  by_cases h9 : (l.length : Int) = 9
  · refine ev_pos h9 (ev_pos (by omega) (ev_succ ?_))
    simp only [impl_GetSuper.j0]
    by_cases h0 : rd l 0 = 21317
    · refine ev_neg (by simp [h0]) (ev_pos (by omega) (ev_pos (by omega) (ev_pos (by omega) (ev_pos (by omega) (ev_pos (by omega) (ev_pos (by omega) (ev_pos (by omega) (ev_pos (by omega) (Ev.bind (ev_const (impl_SuperOk_eq _ _ _ _ _ _ _ _)) (ev_const ?_))))))))))
      have b7 := rd_in hb (by omega) 7
      rw [superB_wrap b7]
      have e : getSuperB l = superB (rd l 1) (rd l 2) (rd l 3) (rd l 4) (rd l 5) (rd l 6) (rd l 7 - 1) (rd l 8) := by
        have : l.length = 9 := by omega
        simp [getSuperB, h0, this]
      unfold getSuperV
      rw [e]
      by_cases hs : superB (rd l 1) (rd l 2) (rd l 3) (rd l 4) (rd l 5) (rd l 6) (rd l 7 - 1) (rd l 8) = true
      · have := superB_true.1 hs
        rw [if_pos hs, if_pos hs, w64 (by omega) (by omega)]
      · rw [if_neg hs, if_neg hs]
    · refine ev_pos (by simp [h0]) (ev_const ?_)
      have : ¬ getSuperB l = true := by simp [getSuperB, h0]
      rw [getSuperV, if_neg this]
  · refine ev_neg h9 (ev_succ ?_)
    simp only [impl_GetSuper.j0]
    refine ev_pos (by trivial) (ev_const ?_)
    have h9' : ¬ l.length = 9 := by omega
    have : ¬ getSuperB l = true := by simp [getSuperB, h9']
    rw [getSuperV, if_neg this]

theorem FnExactGetSuper : ∀ (l0 : List (Int)), (l0.length ≤ maxLen ∧ ∀ y ∈ l0, (Lit.int .i64 y).wf = true) → ∃ k, laws_FnExactGetSuper.f k l0 = some true := by
  intro l hl0
  refine Ev.rounds (r := true) ?_
  have hb : ∀ x ∈ l, -9223372036854775808 ≤ x ∧ x ≤ 9223372036854775807 := fun x hx => wf_i64 (hl0.2 x hx)
  unfold laws_FnExactGetSuper.f
  by_cases h : (l.length : Int) > 1048576
  · exact ev_pos h (Ev.now _)
  have t := laws_toIntS_ev l (by omega)
  refine ev_neg h (Ev.bind t (Ev.bind (spec_GetSuper_ev l hb) (Ev.bind t (Ev.bind (impl_GetSuper_ev l hb) (Ev.bind (a := true) (ev_const (by simp [laws_eqSuper.f])) (ev_pos rfl (ev_succ ?_)))))))
  simp only [laws_FnExactGetSuper.j0]
  exact ev_neg (by simp) (Ev.bind t (Ev.bind (laws_eqIntS_ev l (by omega)) (Ev.now _)))

end Go.Proofs.Ytmhhehklcfkapab.Pure
