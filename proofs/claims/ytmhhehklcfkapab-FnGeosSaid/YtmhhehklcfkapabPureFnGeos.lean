/- FnGeos: for every input that the print speaks of the law comes to true, as plain numbers and lists. Conditions: none beyond those that the printed statement names. -/
import Derived.Test.YtmhhehklcfkapabQFnGeosx2
import Derived.Test.YtmhhehklcfkapabWalkFnGeos

namespace Go.Proofs.Ytmhhehklcfkapab.Pure
open Go.RowKit Go.Proofs.Ytmhhehklcfkapab.PFnGeos Go.Proofs.YtmhhehklcfkapabW.PrintWords Go.Proofs.YtmhhehklcfkapabW.PrintLast
set_option linter.unusedVariables false
set_option linter.unusedSimpArgs false

/-! ### small laws: numbers, lists, rounds -/
theorem w64 {n : Int} (h0 : -9223372036854775808 ≤ n) (h1 : n ≤ 9223372036854775807) : wrap64 n = n := by unfold wrap64; omega
theorem w64_succ {i n : Nat} (hi : i < n) (hn : n ≤ 9223372036854775807) : wrap64 ((i : Int) + 1) = ((i + 1 : Nat) : Int) := by
  rw [w64 (by omega) (by omega)]; rfl
theorem rd_nat (l : List Int) (i : Nat) (h : i < l.length) : rd l (i : Int) = l[i] := by
  simp [rd, List.getD_eq_getElem?_getD, List.getElem?_eq_getElem h]
theorem wf_i64 {x : Int} (h : (Lit.int .i64 x).wf = true) : -9223372036854775808 ≤ x ∧ x ≤ 9223372036854775807 := by
  have h' : IntKind.i64.min ≤ x ∧ x ≤ IntKind.i64.max := by simpa [Lit.wf] using h
  exact h'
theorem ev_val {α : Type} {g : Nat → Option α} {r r' : α} (h : Ev g r) (e : r = r') : Ev g r' := e ▸ h
theorem ev_pos {α : Type} {c : Prop} [Decidable c] {g f : Nat → Option α} {r : α} (hc : c) (h : Ev g r) : Ev (fun k => if c then g k else f k) r := by
  simpa [hc] using h
theorem ev_neg {α : Type} {c : Prop} [Decidable c] {g f : Nat → Option α} {r : α} (hc : ¬ c) (h : Ev f r) : Ev (fun k => if c then g k else f k) r := by
  simpa [hc] using h
theorem ev_const {α : Type} {o : Option α} {r : α} (h : o = some r) : Ev (fun _ => o) r := ⟨0, fun _ _ => h⟩
theorem ev_unique {α : Type} {g : Nat → Option α} {r r' : α} (h : Ev g r) (h' : Ev g r') : r = r' := by
  obtain ⟨K, h⟩ := h
  obtain ⟨K', h'⟩ := h'
  have e := h (max K K') (by omega)
  rw [h' (max K K') (by omega)] at e
  exact (Option.some.inj e).symm
theorem take_set_succ {α : Type} {x l : List α} {i : Nat} (hx : i < x.length) (hl : i < l.length) (h : x.take i = l.take i) : (x.set i l[i]).take (i + 1) = l.take (i + 1) := by
  rw [List.take_succ_eq_append_getElem (by simpa using hx), List.take_succ_eq_append_getElem hl, List.getElem_set_self, List.take_set_of_le (Nat.le_refl _), h]
def inB (a lo hi : Int) : Bool := decide (lo ≤ a ∧ a ≤ hi)
theorem inB_true {a lo hi : Int} : inB a lo hi = true ↔ lo ≤ a ∧ a ≤ hi := by simp [inB]
theorem inB_false {a lo hi : Int} : inB a lo hi = false ↔ ¬ (lo ≤ a ∧ a ≤ hi) := by simp [inB]
theorem ev_succ {α : Type} {g : Nat → Option α} {r : α} (h : Ev (fun k => g (k + 1)) r) : Ev g r := Ev.step (fun _ => rfl) h
theorem rd_in {l : List Int} {lo hi : Int} (h : ∀ x ∈ l, lo ≤ x ∧ x ≤ hi) (h0 : lo ≤ 0 ∧ 0 ≤ hi) (i : Int) : lo ≤ rd l i ∧ rd l i ≤ hi := by
  unfold rd
  rw [List.getD_eq_getElem?_getD]
  cases hx : l[i.toNat]? with
  | none => simpa using h0
  | some x => simpa using h x (List.mem_of_getElem? hx)
theorem wf_u8 {x : Int} (h : (Lit.int .u8 x).wf = true) : 0 ≤ x ∧ x ≤ 255 := by
  have h' : IntKind.u8.min ≤ x ∧ x ≤ IntKind.u8.max := by simpa [Lit.wf] using h
  exact h'

/-! ### where blocks are -/
def geoB (n s : Int) : Bool := inB n 3 5 && inB s 1 8
theorem geoB_true {n s : Int} : geoB n s = true ↔ (3 ≤ n ∧ n ≤ 5) ∧ 1 ≤ s ∧ s ≤ 8 := by simp [geoB, inB_true]
def strB (n s st : Int) : Bool := geoB n s && inB st 0 (s - 1)
theorem strB_true {n s st : Int} : strB n s st = true ↔ ((3 ≤ n ∧ n ≤ 5) ∧ 1 ≤ s ∧ s ≤ 8) ∧ 0 ≤ st ∧ st ≤ s - 1 := by simp [strB, geoB_true, inB_true]
def parV (n s st : Int) : Int := if strB n s st = true then n - 1 - st % n else -1
theorem parV_in {n s st : Int} (h : strB n s st = true) : 0 ≤ parV n s st ∧ parV n s st ≤ n - 1 := by
  have := strB_true.1 h
  have h1 := Int.emod_nonneg st (b := n) (by omega)
  have h2 := Int.emod_lt_of_pos st (b := n) (by omega)
  rw [parV, if_pos h]; omega
def diskV (n s st i : Int) : Int := if strB n s st = true ∧ inB i 0 (n - 2) = true then (parV n s st + 1 + i) % n else -1
def blocksV (n s : Int) : Int := if geoB n s = true then s * (n - 1) else 0
theorem blocksV_in (n s : Int) : 0 ≤ blocksV n s ∧ blocksV n s ≤ 32 := by
  unfold blocksV
  split
  · rename_i h
    have := geoB_true.1 h
    have h1 : 0 ≤ s * (n - 1) := Int.mul_nonneg (by omega) (by omega)
    have h2 : s * (n - 1) ≤ 8 * (n - 1) := Int.mul_le_mul_of_nonneg_right (by omega) (by omega)
    omega
  · omega
def blkB (n s b : Int) : Bool := inB b 0 (blocksV n s - 1)
theorem blkB_geo {n s b : Int} (h : blkB n s b = true) : ((3 ≤ n ∧ n ≤ 5) ∧ 1 ≤ s ∧ s ≤ 8) ∧ 0 ≤ b ∧ b < s * (n - 1) := by
  have h' := inB_true.1 h
  by_cases hg : geoB n s = true
  · rw [blocksV, if_pos hg] at h'
    exact ⟨geoB_true.1 hg, by omega⟩
  · rw [blocksV, if_neg hg] at h'
    omega
def stripeV (n s b : Int) : Int := if blkB n s b = true then b / (n - 1) else -1
def indexV (n s b : Int) : Int := if blkB n s b = true then b % (n - 1) else -1
def blockAtV (n s st i : Int) : Int := if strB n s st = true ∧ inB i 0 (n - 2) = true then st * (n - 1) + i else -1

theorem laws_big_eq (l : List Int) : laws_big.f l = some (decide ((l.length : Int) > 1048576)) := rfl

/-! ### the draws: a cursor over the bytes of the code -/
def Cur (b : List Int) (i : Int) : Prop := 0 ≤ i ∧ i ≤ (b.length : Int) ∧ b.length ≤ 1048576 ∧ ∀ x ∈ b, 0 ≤ x ∧ x ≤ 255
theorem band_eq (x m : Int) : Go.bits .and .i64 x m = IntKind.i64.wrap ((BitVec.ofInt 64 x &&& BitVec.ofInt 64 m).toNat : Int) := rfl
theorem band_le (x : Int) (m : Nat) (hm : m < 9223372036854775808) : 0 ≤ Go.bits .and .i64 x (m : Int) ∧ Go.bits .and .i64 x (m : Int) ≤ m := by
  rw [band_eq, IntKind.wrap_i64, BitVec.toNat_and]
  have h : (BitVec.ofInt 64 (m : Int)).toNat = m := by
    rw [BitVec.toNat_ofInt]; omega
  rw [h]
  have := Nat.and_le_right (n := (BitVec.ofInt 64 x).toNat) (m := m)
  omega

theorem spec_l1New_l (l : List Int) (hl : l.length ≤ 1048576) : ∀ (d i : Nat) (a : Int), i + d = l.length → ∃ h, Ev (fun k => spec_l1New.l0 k l a (i : Int)) (l, 0, h) := by
  intro d
  induction d with
  | zero =>
    intro i a hi
    refine ⟨a, ev_succ ?_⟩
    simp only [spec_l1New.l0]
    exact ev_neg (by omega) (Ev.now _)
  | succ d ih =>
    intro i a hi
    by_cases h4 : (i : Int) < 4000
    · obtain ⟨h, e⟩ := ih (i + 1) (Go.bits .and .i64 (wrap64 ((wrap64 ((wrap64 (a * 137)) + (wrap64 (rd l (i : Int))))) + 11)) 1073741823) (by omega)
      refine ⟨h, ev_succ ?_⟩
      simp only [spec_l1New.l0]
      rw [w64_succ (n := l.length) (by omega) (by omega)]
      exact ev_pos (by omega) (ev_pos h4 (ev_pos (by omega) e))
    · refine ⟨a, ev_succ ?_⟩
      simp only [spec_l1New.l0]
      exact ev_pos (by omega) (ev_neg h4 (Ev.now _))
theorem spec_l1New_ev (l : List Int) (hl : l.length ≤ 1048576) (hb : ∀ x ∈ l, 0 ≤ x ∧ x ≤ 255) : ∃ h, Ev (fun k => spec_l1New.f k l) (l, 0, h) ∧ Cur l 0 := by
  obtain ⟨h, e⟩ := spec_l1New_l l hl l.length 0 (wrap64 (770770 + (l.length : Int))) (by omega)
  exact ⟨h, e, by unfold Cur; exact ⟨by omega, by omega, hl, hb⟩⟩

theorem spec_l1Byte_ok {b : List Int} {i : Int} (h : Int) (c : Cur b i) : ∃ x i' h', spec_l1Byte.f b i h = some (x, i', h') ∧ Cur b i' ∧ 0 ≤ x ∧ x ≤ 255 := by
  obtain ⟨c0, c1, c2, c3⟩ := c
  unfold spec_l1Byte.f
  by_cases hi : i < (b.length : Int)
  · rw [if_pos hi, if_pos c0, w64 (n := i + 1) (by omega) (by omega)]
    have h1 := band_le (wrap64 ((Go.bits .and .i64 (Go.bits .xor .i64 ((wrap64 ((wrap64 (h * 6364136223846793005)) + 1442695040888963407)) / 8589934592) ((wrap64 ((wrap64 (h * 6364136223846793005)) + 1442695040888963407)) / 140737488355328)) 255) + (wrap64 (rd b i)))) 255 (by omega)
    exact ⟨_, _, _, rfl, ⟨by omega, by omega, c2, c3⟩, h1⟩
  · rw [if_neg hi]
    have h1 := band_le (Go.bits .xor .i64 ((wrap64 ((wrap64 (h * 6364136223846793005)) + 1442695040888963407)) / 8589934592) ((wrap64 ((wrap64 (h * 6364136223846793005)) + 1442695040888963407)) / 140737488355328)) 255 (by omega)
    exact ⟨_, _, _, rfl, ⟨c0, c1, c2, c3⟩, h1⟩

theorem spec_l1Below_ok {b : List Int} {i : Int} (h : Int) (c : Cur b i) (n : Int) : ∃ x i' h', spec_l1Below.f b i h n = some (x, i', h') ∧ Cur b i' ∧ 0 ≤ x ∧ (0 < n → x < n) ∧ (n ≤ 0 → x = 0) := by
  unfold spec_l1Below.f
  by_cases h0 : n ≤ 0
  · rw [if_pos h0]
    exact ⟨_, _, _, rfl, c, by omega, by omega, fun _ => rfl⟩
  rw [if_neg h0]
  by_cases h1 : n ≤ 256
  · rw [if_pos h1]
    obtain ⟨x, i1, h1, e, c1, x0, x1⟩ := spec_l1Byte_ok h c
    rw [e]
    simp only [Option.bind_some]
    rw [if_neg (by omega), Int.tmod_eq_emod_of_nonneg x0]
    exact ⟨_, _, _, rfl, c1, Int.emod_nonneg _ (by omega), fun _ => Int.emod_lt_of_pos _ (by omega), by omega⟩
  · rw [if_neg h1]
    obtain ⟨x, i1, h1, e, c1, x0, x1⟩ := spec_l1Byte_ok h c
    obtain ⟨y, i2, h2, e2, c2, y0, y1⟩ := spec_l1Byte_ok h1 c1
    obtain ⟨z, i3, h3, e3, c3, z0, z1⟩ := spec_l1Byte_ok h2 c2
    rw [e]; simp only [Option.bind_some]
    rw [e2]; simp only [Option.bind_some]
    rw [e3]; simp only [Option.bind_some]
    rw [if_neg (by omega), w64 (n := x * 65536) (by omega) (by omega), w64 (n := y * 256) (by omega) (by omega), w64 (n := x * 65536 + y * 256) (by omega) (by omega), w64 (by omega) (by omega), Int.tmod_eq_emod_of_nonneg (by omega)]
    exact ⟨_, _, _, rfl, c3, Int.emod_nonneg _ (by omega), fun _ => Int.emod_lt_of_pos _ (by omega), by omega⟩

theorem spec_l3Geo_ok {b : List Int} {i : Int} (h : Int) (c : Cur b i) : ∃ n s i' h', spec_l3Geo.f b i h = some (n, s, i', h') ∧ Cur b i' ∧ 3 ≤ n ∧ n ≤ 5 ∧ 1 ≤ s ∧ s ≤ 8 := by
  unfold spec_l3Geo.f
  obtain ⟨x, i1, h1, e1, c1, x0, x1, _⟩ := spec_l1Below_ok h c 3
  obtain ⟨y, i2, h2, e2, c2, y0, y1, _⟩ := spec_l1Below_ok h1 c1 8
  have := x1 (by omega)
  have := y1 (by omega)
  rw [e1]; simp only [Option.bind_some]
  rw [e2]; simp only [Option.bind_some]
  rw [w64 (n := 3 + x) (by omega) (by omega), w64 (n := 1 + y) (by omega) (by omega)]
  exact ⟨_, _, _, _, rfl, c2, by omega, by omega, by omega, by omega⟩

theorem spec_DrawGeo_ok (l : List Int) (hl : l.length ≤ 1048576) (hb : ∀ x ∈ l, 0 ≤ x ∧ x ≤ 255) : ∃ n s st i, Ev (fun k => spec_DrawGeo.f k l) (n, s, st, i) ∧ 3 ≤ n ∧ n ≤ 5 ∧ 1 ≤ s ∧ s ≤ 8 ∧ 0 ≤ st ∧ st < s ∧ 0 ≤ i ∧ i < n - 1 := by
  unfold spec_DrawGeo.f
  obtain ⟨h, e, c⟩ := spec_l1New_ev l hl hb
  obtain ⟨n, s, i1, h1, e1, c1, n0, n1, s0, s1⟩ := spec_l3Geo_ok h c
  obtain ⟨x, i2, h2, e2, c2, x0, x1, _⟩ := spec_l1Below_ok h1 c1 s
  obtain ⟨y, i3, h3, e3, c3, y0, y1, _⟩ := spec_l1Below_ok h2 c2 (n - 1)
  have := x1 (by omega)
  have := y1 (by omega)
  exact ⟨n, s, x, y, Ev.bind e (Ev.bind (ev_const e1) (Ev.bind (ev_const e2) (Ev.bind (a := (y, i3, h3)) (ev_const (by rw [w64 (by omega) (by omega)]; exact e3)) (Ev.now _)))), n0, n1, s0, s1, x0, by omega, y0, by omega⟩

theorem impl_within_eq (a lo hi : Int) : impl_within.f a lo hi = some (inB a lo hi) := by
  unfold impl_within.f inB
  split
  · congr 1; simp; omega
  · congr 1; simp; omega

theorem impl_GeoOk_eq (n s : Int) : impl_GeoOk.f n s = some (geoB n s) := by
  unfold impl_GeoOk.f geoB
  rw [impl_within_eq, impl_within_eq]
  cases inB n 3 5 <;> simp

theorem impl_hasStripe_eq (n s st : Int) : impl_hasStripe.f n s st = some (strB n s st) := by
  unfold impl_hasStripe.f strB
  rw [impl_GeoOk_eq]
  cases h : geoB n s with
  | false => simp
  | true =>
    have := geoB_true.1 h
    simp only [Option.bind_some, if_true, Bool.true_and]
    rw [w64 (by omega) (by omega), impl_within_eq]; rfl

theorem impl_BlockAt_eq (n s st i : Int) : impl_BlockAt.f n s st i = some (blockAtV n s st i) := by
  unfold impl_BlockAt.f
  rw [impl_hasStripe_eq]
  by_cases h : strB n s st = true
  · have := strB_true.1 h
    simp only [h, Option.bind_some, if_true]
    rw [w64 (n := n - 2) (by omega) (by omega), impl_within_eq]
    by_cases h' : inB i 0 (n - 2) = true
    · have := inB_true.1 h'
      have h1 : 0 ≤ st * (n - 1) := Int.mul_nonneg (by omega) (by omega)
      have h2 : st * (n - 1) ≤ 7 * (n - 1) := Int.mul_le_mul_of_nonneg_right (by omega) (by omega)
      simp only [h', Option.bind_some, if_true]
      rw [w64 (n := n - 1) (by omega) (by omega), w64 (n := st * (n - 1)) (by omega) (by omega), w64 (by omega) (by omega), blockAtV, if_pos ⟨h, h'⟩]
    · simp [h', blockAtV]
  · simp [h, blockAtV]

theorem impl_ParityOf_eq (n s st : Int) : impl_ParityOf.f n s st = some (parV n s st) := by
  unfold impl_ParityOf.f
  rw [impl_hasStripe_eq]
  by_cases h : strB n s st = true
  · have b := parV_in h
    have := strB_true.1 h
    rw [parV, if_pos h] at b
    simp only [h, Option.bind_some, if_true]
    rw [if_neg (by omega), Int.tmod_eq_emod_of_nonneg (by omega), w64 (n := n - 1) (by omega) (by omega), w64 (by omega) (by omega), parV, if_pos h]
  · simp [h, parV]

theorem impl_DiskOf_eq (n s st i : Int) : impl_DiskOf.f n s st i = some (diskV n s st i) := by
  unfold impl_DiskOf.f
  rw [impl_hasStripe_eq]
  by_cases h : strB n s st = true
  · have b := parV_in h
    have := strB_true.1 h
    simp only [h, Option.bind_some, if_true]
    rw [w64 (n := n - 2) (by omega) (by omega), impl_within_eq]
    by_cases h' : inB i 0 (n - 2) = true
    · have := inB_true.1 h'
      simp only [h', Option.bind_some, if_true]
      rw [impl_ParityOf_eq]
      simp only [Option.bind_some]
      rw [if_neg (by omega), w64 (n := parV n s st + 1) (by omega) (by omega), w64 (by omega) (by omega), Int.tmod_eq_emod_of_nonneg (by omega), diskV, if_pos ⟨h, h'⟩]
    · simp [h', diskV]
  · simp [h, diskV]

theorem impl_Blocks_eq (n s : Int) : impl_Blocks.f n s = some (blocksV n s) := by
  unfold impl_Blocks.f
  have hb := blocksV_in n s
  rw [impl_GeoOk_eq]
  by_cases h : geoB n s = true
  · have := geoB_true.1 h
    rw [blocksV, if_pos h] at hb
    simp only [h, Option.bind_some, if_true]
    rw [w64 (n := n - 1) (by omega) (by omega), w64 (by omega) (by omega), blocksV, if_pos h]
  · simp [h, blocksV]

theorem impl_hasBlock_eq (n s b : Int) : impl_hasBlock.f n s b = some (blkB n s b) := by
  unfold impl_hasBlock.f
  have hb := blocksV_in n s
  rw [impl_Blocks_eq]
  simp only [Option.bind_some]
  rw [w64 (n := blocksV n s - 1) (by omega) (by omega), impl_within_eq]; rfl

theorem impl_StripeOf_eq (n s b : Int) : impl_StripeOf.f n s b = some (stripeV n s b) := by
  unfold impl_StripeOf.f
  have hb := blocksV_in n s
  rw [impl_hasBlock_eq]
  by_cases h : blkB n s b = true
  · have := blkB_geo h
    have h' : inB b 0 (blocksV n s - 1) = true := h
    simp only [h, Option.bind_some, if_true]
    have h1 : 0 ≤ b / (n - 1) := Int.ediv_nonneg (by omega) (by omega)
    have h2 : b / (n - 1) ≤ b := Int.ediv_le_self _ (by omega)
    rw [w64 (n := n - 1) (by omega) (by omega), if_neg (by omega), Int.tdiv_eq_ediv_of_nonneg (by omega), stripeV, if_pos h]
    rw [w64 (by omega) (by have := inB_true.1 h'; omega)]
  · simp [h, stripeV]

theorem impl_IndexOf_eq (n s b : Int) : impl_IndexOf.f n s b = some (indexV n s b) := by
  unfold impl_IndexOf.f
  rw [impl_hasBlock_eq]
  by_cases h : blkB n s b = true
  · have := blkB_geo h
    simp only [h, Option.bind_some, if_true]
    rw [w64 (n := n - 1) (by omega) (by omega), if_neg (by omega), Int.tmod_eq_emod_of_nonneg (by omega), indexV, if_pos h]
  · simp [h, indexV]

open Go.Proofs.Ytmhhehklcfkapab.WalkFnGeos (diskP seenP walk walk_big)
theorem disk_of {n s st : Int} (h : strB n s st = true) (j : Nat) (hj : (j : Int) < n - 1) : diskV n s st j = diskP n (parV n s st) j := by
  have hi : inB (j : Int) 0 (n - 2) = true := inB_true.2 ⟨by omega, by omega⟩
  rw [diskV, if_pos ⟨h, hi⟩]; rfl
theorem diskP_in {n p : Int} (hn : 0 < n) (j : Int) : 0 ≤ diskP n p j ∧ diskP n p j < n := ⟨Int.emod_nonneg _ (by omega), Int.emod_lt_of_pos _ hn⟩
theorem w64_small {x : Int} (h0 : 0 ≤ x) (h1 : x ≤ 100) : wrap64 x = x := w64 (by omega) (by omega)
theorem seen_bits (n p : Int) (n3 : 3 ≤ n) (n5 : n ≤ 5) (p0 : 0 ≤ p) (p1 : p < n) (j : Nat) (hj : (j : Int) < n - 1) :
    (Go.bits BinOp.and IntKind.i64 (seenP n p j / 2 ^ (diskP n p j).toNat) 1 == 1) = false := by
  have hn : n = 3 ∨ n = 4 ∨ n = 5 := by omega
  have hp : p = 0 ∨ p = 1 ∨ p = 2 ∨ p = 3 ∨ p = 4 := by omega
  have hj' : j = 0 ∨ j = 1 ∨ j = 2 ∨ j = 3 := by omega
  rcases hn with rfl | rfl | rfl <;> rcases hp with rfl | rfl | rfl | rfl | rfl <;> rcases hj' with rfl | rfl | rfl | rfl <;> first | omega | decide +kernel
theorem seen_all (n p : Int) (n3 : 3 ≤ n) (n5 : n ≤ 5) (p0 : 0 ≤ p) (p1 : p < n) (j : Nat) (hj : n = (j : Int) + 1) : seenP n p j = wrap64 (wrap64 (2 ^ (j + 1)) - 1) := by
  have hp : p = 0 ∨ p = 1 ∨ p = 2 ∨ p = 3 ∨ p = 4 := by omega
  have hj' : j = 2 ∨ j = 3 ∨ j = 4 := by omega
  rcases hj' with rfl | rfl | rfl <;> subst hj <;> rcases hp with rfl | rfl | rfl | rfl | rfl <;> first | omega | decide +kernel
theorem par_next {n s st : Int} (h : strB n s st = true) (h' : ¬ st + 1 = s) : parV n s (st + 1) = (parV n s st + n - 1) % n ∧ 0 ≤ parV n s (st + 1) := by
  have h0 := strB_true.1 h
  have h1 : strB n s (st + 1) = true := strB_true.2 ⟨h0.1, by omega, by omega⟩
  refine ⟨?_, (parV_in h1).1⟩
  rw [parV, if_pos h1, parV, if_pos h]
  have hn : n = 3 ∨ n = 4 ∨ n = 5 := by omega
  rcases hn with rfl | rfl | rfl <;> omega
theorem block_back {n s st i : Int} (h : strB n s st = true) (hi : 0 ≤ i) (hi' : i < n - 1) : stripeV n s (blockAtV n s st i) = st ∧ indexV n s (blockAtV n s st i) = i ∧ 0 ≤ blockAtV n s st i ∧ blockAtV n s st i < blocksV n s := by
  have h0 := strB_true.1 h
  have hI : inB i 0 (n - 2) = true := inB_true.2 ⟨hi, by omega⟩
  have hg : geoB n s = true := geoB_true.2 h0.1
  have hb : blockAtV n s st i = st * (n - 1) + i := by rw [blockAtV, if_pos ⟨h, hI⟩]
  have hbl : blocksV n s = s * (n - 1) := by rw [blocksV, if_pos hg]
  have m0 : 0 ≤ st * (n - 1) := Int.mul_nonneg (by omega) (by omega)
  have m1 : st * (n - 1) ≤ (s - 1) * (n - 1) := Int.mul_le_mul_of_nonneg_right (by omega) (by omega)
  have m2 : (s - 1) * (n - 1) = s * (n - 1) - (n - 1) := by rw [Int.sub_mul]; omega
  have hB : blkB n s (st * (n - 1) + i) = true := by rw [blkB, inB_true, hbl]; omega
  rw [hb, hbl, stripeV, if_pos hB, indexV, if_pos hB]
  refine ⟨?_, ?_, by omega, by omega⟩
  · rw [Int.add_comm, Int.add_mul_ediv_right _ _ (by omega), Int.ediv_eq_zero_of_lt hi hi']; omega
  · rw [Int.add_comm, Int.add_mul_emod_self_right, Int.emod_eq_of_lt hi hi']
theorem FnGeos_calls (A0 : Option Addr) (c0 : Nat) (l : List Int) (w : World) (hr : Kd.C (Kd.int .u8) w A0 l.length l) (hc : l.length ≤ c0) (hl0 : l.length ≤ maxLen ∧ ∀ y ∈ l, (Lit.int .u8 y).wf = true) :
    Calls Try.prog 7 #[.slice A0 l.length c0] w fun e w' => e = .returned (.bool true) ∧ Below w.heap.size w w' := by
  have hb : ∀ x ∈ l, 0 ≤ x ∧ x ≤ 255 := fun x hx => wf_u8 (hl0.2 x hx)
  by_cases h : (l.length : Int) > 1048576
  · exact walk_big A0 c0 l w hr hc (by rw [laws_big_eq, decide_eq_true h])
  obtain ⟨n, s, st, i, e, n3, n5, s1, s8, st0, st1, i0, i1⟩ := spec_DrawGeo_ok l (by omega) hb
  obtain ⟨k, ek⟩ := e.rounds
  have hs : strB n s st = true := strB_true.2 ⟨⟨⟨n3, n5⟩, s1, s8⟩, st0, by omega⟩
  have hp := parV_in hs
  have bb := block_back hs i0 i1
  refine walk k A0 c0 l w hr hc (by rw [laws_big_eq, decide_eq_false h]) n s st i ek _ _ (impl_BlockAt_eq n s st i) (impl_ParityOf_eq n s st) n3 n5 hp.1 (by omega) (fun j hj => by rw [impl_DiskOf_eq, disk_of hs j hj]) (fun j hj => ?_)
    (blocksV n s) _ (impl_Blocks_eq n s) (by rw [impl_StripeOf_eq, bb.1]) (by rw [impl_IndexOf_eq, bb.2.1]) (impl_ParityOf_eq n s (st + 1)) (by rw [impl_GeoOk_eq, geoB_true.2 ⟨⟨n3, n5⟩, s1, s8⟩]) bb.2.2.1 bb.2.2.2 st0 st1 s8 (fun j hj => seen_all n _ n3 n5 hp.1 (by omega) j hj) (fun e1 => ?_) (fun e1 => par_next hs e1)
  · have := diskP_in (p := parV n s st) (by omega : 0 < n) (j : Int)
    exact ⟨this.1, this.2, seen_bits n _ n3 n5 hp.1 (by omega) j hj⟩
  · have : ¬ strB n s (st + 1) = true := by rw [strB_true]; omega
    rw [parV, if_neg this]

end Go.Proofs.Ytmhhehklcfkapab.Pure
