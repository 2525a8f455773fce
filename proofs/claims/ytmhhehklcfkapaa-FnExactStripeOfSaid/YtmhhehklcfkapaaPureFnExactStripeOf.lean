/- FnExactStripeOf: for every input that the print speaks of the law comes to true, as plain numbers and lists. Conditions: none beyond those that the printed statement names. -/
import Derived.Test.YtmhhehklcfkapaaPFnExactStripeOfx1

namespace Go.Proofs.Ytmhhehklcfkapaa.Pure
open Go.RowKit Go.Proofs.Ytmhhehklcfkapaa.PFnExactStripeOf Go.Proofs.YtmhhehklcfkapaaW.PrintWords Go.Proofs.YtmhhehklcfkapaaW.PrintLast
set_option linter.unusedVariables false
set_option linter.unusedSimpArgs false

/-! ### small laws: numbers, lists, rounds -/
theorem w64 {n : Int} (h0 : -9223372036854775808 ≤ n) (h1 : n ≤ 9223372036854775807) : wrap64 n = n := by unfold wrap64; omega
theorem w64_succ {i n : Nat} (hi : i < n) (hn : n ≤ 9223372036854775807) : wrap64 ((i : Int) + 1) = ((i + 1 : Nat) : Int) := by
  rw [w64 (by omega) (by omega)]; rfl
theorem rd_nat (l : List Int) (i : Nat) (h : i < l.length) : rd l (i : Int) = l[i] := by
  simp [rd, List.getD_eq_getElem?_getD, List.getElem?_eq_getElem h]
theorem wf_i64 {x : Int} (h : (Lit.int .i64 x).wf = true) : -9223372036854775808 ≤ x ∧ x ≤ 9223372036854775807 := by
  have h' : IntKind.i64.min ≤ x ∧ x ≤ IntKind.i64.max := by simpa [Lit.wf] using h
  exact h'
theorem ev_val {α : Type} {g : Nat → Option α} {r r' : α} (h : Ev g r) (e : r = r') : Ev g r' := e ▸ h
theorem ev_pos {α : Type} {c : Prop} [Decidable c] {g f : Nat → Option α} {r : α} (hc : c) (h : Ev g r) : Ev (fun k => if c then g k else f k) r := by
  simpa [hc] using h
theorem ev_neg {α : Type} {c : Prop} [Decidable c] {g f : Nat → Option α} {r : α} (hc : ¬ c) (h : Ev f r) : Ev (fun k => if c then g k else f k) r := by
  simpa [hc] using h
theorem ev_const {α : Type} {o : Option α} {r : α} (h : o = some r) : Ev (fun _ => o) r := ⟨0, fun _ _ => h⟩
theorem ev_unique {α : Type} {g : Nat → Option α} {r r' : α} (h : Ev g r) (h' : Ev g r') : r = r' := by
  obtain ⟨K, h⟩ := h
  obtain ⟨K', h'⟩ := h'
  have e := h (max K K') (by omega)
  rw [h' (max K K') (by omega)] at e
  exact (Option.some.inj e).symm
theorem take_set_succ {α : Type} {x l : List α} {i : Nat} (hx : i < x.length) (hl : i < l.length) (h : x.take i = l.take i) : (x.set i l[i]).take (i + 1) = l.take (i + 1) := by
  rw [List.take_succ_eq_append_getElem (by simpa using hx), List.take_succ_eq_append_getElem hl, List.getElem_set_self, List.take_set_of_le (Nat.le_refl _), h]
def inB (a lo hi : Int) : Bool := decide (lo ≤ a ∧ a ≤ hi)
theorem inB_true {a lo hi : Int} : inB a lo hi = true ↔ lo ≤ a ∧ a ≤ hi := by simp [inB]
theorem inB_false {a lo hi : Int} : inB a lo hi = false ↔ ¬ (lo ≤ a ∧ a ≤ hi) := by simp [inB]
theorem ev_succ {α : Type} {g : Nat → Option α} {r : α} (h : Ev (fun k => g (k + 1)) r) : Ev g r := Ev.step (fun _ => rfl) h
theorem rd_in {l : List Int} {lo hi : Int} (h : ∀ x ∈ l, lo ≤ x ∧ x ≤ hi) (h0 : lo ≤ 0 ∧ 0 ≤ hi) (i : Int) : lo ≤ rd l i ∧ rd l i ≤ hi := by
  unfold rd
  rw [List.getD_eq_getElem?_getD]
  cases hx : l[i.toNat]? with
  | none => simpa using h0
  | some x => simpa using h x (List.mem_of_getElem? hx)
theorem wf_u8 {x : Int} (h : (Lit.int .u8 x).wf = true) : 0 ≤ x ∧ x ≤ 255 := by
  have h' : IntKind.u8.min ≤ x ∧ x ≤ IntKind.u8.max := by simpa [Lit.wf] using h
  exact h'

theorem spec_l1In_eq (a lo hi : Int) : spec_l1In.f a lo hi = some (inB a lo hi) := by
  unfold spec_l1In.f inB
  split
  · congr 1; simp; omega
  · congr 1; simp; omega

/-! ### where blocks are -/
def geoB (n s : Int) : Bool := inB n 3 5 && inB s 1 8
theorem geoB_true {n s : Int} : geoB n s = true ↔ (3 ≤ n ∧ n ≤ 5) ∧ 1 ≤ s ∧ s ≤ 8 := by simp [geoB, inB_true]
def strB (n s st : Int) : Bool := geoB n s && inB st 0 (s - 1)
theorem strB_true {n s st : Int} : strB n s st = true ↔ ((3 ≤ n ∧ n ≤ 5) ∧ 1 ≤ s ∧ s ≤ 8) ∧ 0 ≤ st ∧ st ≤ s - 1 := by simp [strB, geoB_true, inB_true]
def parV (n s st : Int) : Int := if strB n s st = true then n - 1 - st % n else -1
theorem parV_in {n s st : Int} (h : strB n s st = true) : 0 ≤ parV n s st ∧ parV n s st ≤ n - 1 := by
  have := strB_true.1 h
  have h1 := Int.emod_nonneg st (b := n) (by omega)
  have h2 := Int.emod_lt_of_pos st (b := n) (by omega)
  rw [parV, if_pos h]; omega
def diskV (n s st i : Int) : Int := if strB n s st = true ∧ inB i 0 (n - 2) = true then (parV n s st + 1 + i) % n else -1
def blocksV (n s : Int) : Int := if geoB n s = true then s * (n - 1) else 0
theorem blocksV_in (n s : Int) : 0 ≤ blocksV n s ∧ blocksV n s ≤ 32 := by
  unfold blocksV
  split
  · rename_i h
    have := geoB_true.1 h
    have h1 : 0 ≤ s * (n - 1) := Int.mul_nonneg (by omega) (by omega)
    have h2 : s * (n - 1) ≤ 8 * (n - 1) := Int.mul_le_mul_of_nonneg_right (by omega) (by omega)
    omega
  · omega
def blkB (n s b : Int) : Bool := inB b 0 (blocksV n s - 1)
theorem blkB_geo {n s b : Int} (h : blkB n s b = true) : ((3 ≤ n ∧ n ≤ 5) ∧ 1 ≤ s ∧ s ≤ 8) ∧ 0 ≤ b ∧ b < s * (n - 1) := by
  have h' := inB_true.1 h
  by_cases hg : geoB n s = true
  · rw [blocksV, if_pos hg] at h'
    exact ⟨geoB_true.1 hg, by omega⟩
  · rw [blocksV, if_neg hg] at h'
    omega
def stripeV (n s b : Int) : Int := if blkB n s b = true then b / (n - 1) else -1
def indexV (n s b : Int) : Int := if blkB n s b = true then b % (n - 1) else -1
def blockAtV (n s st i : Int) : Int := if strB n s st = true ∧ inB i 0 (n - 2) = true then st * (n - 1) + i else -1

theorem spec_GeoOk_eq (n s : Int) : spec_GeoOk.f n s = some (geoB n s) := by
  unfold spec_GeoOk.f geoB
  rw [spec_l1In_eq, spec_l1In_eq]
  cases inB n 3 5 <;> simp

theorem spec_Blocks_eq (n s : Int) : spec_Blocks.f n s = some (blocksV n s) := by
  unfold spec_Blocks.f
  have hb := blocksV_in n s
  rw [spec_GeoOk_eq]
  by_cases h : geoB n s = true
  · have := geoB_true.1 h
    rw [blocksV, if_pos h] at hb
    simp only [h, Option.bind_some, if_true]
    rw [w64 (n := n - 1) (by omega) (by omega), w64 (by omega) (by omega), blocksV, if_pos h]
  · simp [h, blocksV]

theorem spec_StripeOf_eq (n s b : Int) : spec_StripeOf.f n s b = some (stripeV n s b) := by
  unfold spec_StripeOf.f
  have hb := blocksV_in n s
  rw [spec_Blocks_eq]
  simp only [Option.bind_some]
  rw [w64 (n := blocksV n s - 1) (by omega) (by omega), spec_l1In_eq]
  by_cases h : blkB n s b = true
  · have := blkB_geo h
    have h' : inB b 0 (blocksV n s - 1) = true := h
    simp only [h', Option.bind_some, if_true]
    have h1 : 0 ≤ b / (n - 1) := Int.ediv_nonneg (by omega) (by omega)
    have h2 : b / (n - 1) ≤ b := Int.ediv_le_self _ (by omega)
    rw [w64 (n := n - 1) (by omega) (by omega), if_neg (by omega), Int.tdiv_eq_ediv_of_nonneg (by omega), stripeV, if_pos h]
    try rw [w64 (by omega) (by have := inB_true.1 h'; omega)]
  · have h' : ¬ inB b 0 (blocksV n s - 1) = true := h
    simp [h', stripeV, h]

theorem impl_within_eq (a lo hi : Int) : impl_within.f a lo hi = some (inB a lo hi) := by
  unfold impl_within.f inB
  split
  · congr 1; simp; omega
  · congr 1; simp; omega

theorem impl_GeoOk_eq (n s : Int) : impl_GeoOk.f n s = some (geoB n s) := by
  unfold impl_GeoOk.f geoB
  rw [impl_within_eq, impl_within_eq]
  cases inB n 3 5 <;> simp

theorem impl_Blocks_eq (n s : Int) : impl_Blocks.f n s = some (blocksV n s) := by
  unfold impl_Blocks.f
  have hb := blocksV_in n s
  rw [impl_GeoOk_eq]
  by_cases h : geoB n s = true
  · have := geoB_true.1 h
    rw [blocksV, if_pos h] at hb
    simp only [h, Option.bind_some, if_true]
    rw [w64 (n := n - 1) (by omega) (by omega), w64 (by omega) (by omega), blocksV, if_pos h]
  · simp [h, blocksV]

theorem impl_hasBlock_eq (n s b : Int) : impl_hasBlock.f n s b = some (blkB n s b) := by
  unfold impl_hasBlock.f
  have hb := blocksV_in n s
  rw [impl_Blocks_eq]
  simp only [Option.bind_some]
  rw [w64 (n := blocksV n s - 1) (by omega) (by omega), impl_within_eq]; rfl

theorem impl_StripeOf_eq (n s b : Int) : impl_StripeOf.f n s b = some (stripeV n s b) := by
  unfold impl_StripeOf.f
  have hb := blocksV_in n s
  rw [impl_hasBlock_eq]
  by_cases h : blkB n s b = true
  · have := blkB_geo h
    have h' : inB b 0 (blocksV n s - 1) = true := h
    simp only [h, Option.bind_some, if_true]
    have h1 : 0 ≤ b / (n - 1) := Int.ediv_nonneg (by omega) (by omega)
    have h2 : b / (n - 1) ≤ b := Int.ediv_le_self _ (by omega)
    rw [w64 (n := n - 1) (by omega) (by omega), if_neg (by omega), Int.tdiv_eq_ediv_of_nonneg (by omega), stripeV, if_pos h]
    rw [w64 (by omega) (by have := inB_true.1 h'; omega)]
  · simp [h, stripeV]

theorem FnExactStripeOf : ∀ (a0_0 : Int) (a0_1 : Int) (a1 : Int), (Lit.int .i64 a0_0).wf = true → (Lit.int .i64 a0_1).wf = true → (Lit.int .i64 a1).wf = true → laws_FnExactStripeOf.f a0_0 a0_1 a1 = some true := by
  intro a0_0 a0_1 a1 _ _ _
  simp [laws_FnExactStripeOf.f, laws_toGeo.f, spec_StripeOf_eq, impl_StripeOf_eq]

end Go.Proofs.Ytmhhehklcfkapaa.Pure
