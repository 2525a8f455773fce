/- FnGeosBent: for every input that the print speaks of the law comes to true, as plain numbers and lists. Conditions: none beyond those that the printed statement names. -/
import Derived.Test.YtlmnmcfieagmbaaQFnGeosBentx3
import Derived.Test.YtlmnmcfieagmbaaWalkGeosBent

namespace Go.Proofs.Ytlmnmcfieagmbaa.Pure
open Go.RowKit Go.Proofs.Ytlmnmcfieagmbaa.PFnGeosBent Go.Proofs.YtlmnmcfieagmbaaW.PrintWords Go.Proofs.YtlmnmcfieagmbaaW.PrintLast
set_option linter.unusedVariables false
set_option linter.unusedSimpArgs false

/-! ### small laws: numbers, lists, rounds -/
theorem w64 {n : Int} (h0 : -9223372036854775808 ≤ n) (h1 : n ≤ 9223372036854775807) : wrap64 n = n := by unfold wrap64; omega
theorem w64_succ {i n : Nat} (hi : i < n) (hn : n ≤ 9223372036854775807) : wrap64 ((i : Int) + 1) = ((i + 1 : Nat) : Int) := by
  rw [w64 (by omega) (by omega)]; rfl
theorem rd_nat (l : List Int) (i : Nat) (h : i < l.length) : rd l (i : Int) = l[i] := by
  simp [rd, List.getD_eq_getElem?_getD, List.getElem?_eq_getElem h]
theorem wf_i64 {x : Int} (h : (Lit.int .i64 x).wf = true) : -9223372036854775808 ≤ x ∧ x ≤ 9223372036854775807 := by
  have h' : IntKind.i64.min ≤ x ∧ x ≤ IntKind.i64.max := by simpa [Lit.wf] using h
  exact h'
theorem ev_val {α : Type} {g : Nat → Option α} {r r' : α} (h : Ev g r) (e : r = r') : Ev g r' := e ▸ h
theorem ev_pos {α : Type} {c : Prop} [Decidable c] {g f : Nat → Option α} {r : α} (hc : c) (h : Ev g r) : Ev (fun k => if c then g k else f k) r := by
  simpa [hc] using h
theorem ev_neg {α : Type} {c : Prop} [Decidable c] {g f : Nat → Option α} {r : α} (hc : ¬ c) (h : Ev f r) : Ev (fun k => if c then g k else f k) r := by
  simpa [hc] using h
theorem ev_const {α : Type} {o : Option α} {r : α} (h : o = some r) : Ev (fun _ => o) r := ⟨0, fun _ _ => h⟩
theorem ev_unique {α : Type} {g : Nat → Option α} {r r' : α} (h : Ev g r) (h' : Ev g r') : r = r' := by
  obtain ⟨K, h⟩ := h
  obtain ⟨K', h'⟩ := h'
  have e := h (max K K') (by omega)
  rw [h' (max K K') (by omega)] at e
  exact (Option.some.inj e).symm
theorem take_set_succ {α : Type} {x l : List α} {i : Nat} (hx : i < x.length) (hl : i < l.length) (h : x.take i = l.take i) : (x.set i l[i]).take (i + 1) = l.take (i + 1) := by
  rw [List.take_succ_eq_append_getElem (by simpa using hx), List.take_succ_eq_append_getElem hl, List.getElem_set_self, List.take_set_of_le (Nat.le_refl _), h]
def inB (a lo hi : Int) : Bool := decide (lo ≤ a ∧ a ≤ hi)
theorem inB_true {a lo hi : Int} : inB a lo hi = true ↔ lo ≤ a ∧ a ≤ hi := by simp [inB]
theorem inB_false {a lo hi : Int} : inB a lo hi = false ↔ ¬ (lo ≤ a ∧ a ≤ hi) := by simp [inB]
theorem ev_succ {α : Type} {g : Nat → Option α} {r : α} (h : Ev (fun k => g (k + 1)) r) : Ev g r := Ev.step (fun _ => rfl) h
theorem rd_in {l : List Int} {lo hi : Int} (h : ∀ x ∈ l, lo ≤ x ∧ x ≤ hi) (h0 : lo ≤ 0 ∧ 0 ≤ hi) (i : Int) : lo ≤ rd l i ∧ rd l i ≤ hi := by
  unfold rd
  rw [List.getD_eq_getElem?_getD]
  cases hx : l[i.toNat]? with
  | none => simpa using h0
  | some x => simpa using h x (List.mem_of_getElem? hx)
theorem wf_u8 {x : Int} (h : (Lit.int .u8 x).wf = true) : 0 ≤ x ∧ x ≤ 255 := by
  have h' : IntKind.u8.min ≤ x ∧ x ≤ IntKind.u8.max := by simpa [Lit.wf] using h
  exact h'

/-! ### where blocks are -/
def geoB (n s : Int) : Bool := inB n 3 5 && inB s 1 8
theorem geoB_true {n s : Int} : geoB n s = true ↔ (3 ≤ n ∧ n ≤ 5) ∧ 1 ≤ s ∧ s ≤ 8 := by simp [geoB, inB_true]
def strB (n s st : Int) : Bool := geoB n s && inB st 0 (s - 1)
theorem strB_true {n s st : Int} : strB n s st = true ↔ ((3 ≤ n ∧ n ≤ 5) ∧ 1 ≤ s ∧ s ≤ 8) ∧ 0 ≤ st ∧ st ≤ s - 1 := by simp [strB, geoB_true, inB_true]
def parV (n s st : Int) : Int := if strB n s st = true then n - 1 - st % n else -1
theorem parV_in {n s st : Int} (h : strB n s st = true) : 0 ≤ parV n s st ∧ parV n s st ≤ n - 1 := by
  have := strB_true.1 h
  have h1 := Int.emod_nonneg st (b := n) (by omega)
  have h2 := Int.emod_lt_of_pos st (b := n) (by omega)
  rw [parV, if_pos h]; omega
def diskV (n s st i : Int) : Int := if strB n s st = true ∧ inB i 0 (n - 2) = true then (parV n s st + 1 + i) % n else -1
def blocksV (n s : Int) : Int := if geoB n s = true then s * (n - 1) else 0
theorem blocksV_in (n s : Int) : 0 ≤ blocksV n s ∧ blocksV n s ≤ 32 := by
  unfold blocksV
  split
  · rename_i h
    have := geoB_true.1 h
    have h1 : 0 ≤ s * (n - 1) := Int.mul_nonneg (by omega) (by omega)
    have h2 : s * (n - 1) ≤ 8 * (n - 1) := Int.mul_le_mul_of_nonneg_right (by omega) (by omega)
    omega
  · omega
def blkB (n s b : Int) : Bool := inB b 0 (blocksV n s - 1)
theorem blkB_geo {n s b : Int} (h : blkB n s b = true) : ((3 ≤ n ∧ n ≤ 5) ∧ 1 ≤ s ∧ s ≤ 8) ∧ 0 ≤ b ∧ b < s * (n - 1) := by
  have h' := inB_true.1 h
  by_cases hg : geoB n s = true
  · rw [blocksV, if_pos hg] at h'
    exact ⟨geoB_true.1 hg, by omega⟩
  · rw [blocksV, if_neg hg] at h'
    omega
def stripeV (n s b : Int) : Int := if blkB n s b = true then b / (n - 1) else -1
def indexV (n s b : Int) : Int := if blkB n s b = true then b % (n - 1) else -1
def blockAtV (n s st i : Int) : Int := if strB n s st = true ∧ inB i 0 (n - 2) = true then st * (n - 1) + i else -1

/-! ### xor of 64-bit numbers -/
def W64 (x : Int) : Prop := -9223372036854775808 ≤ x ∧ x ≤ 9223372036854775807
theorem bx_eq (x y : Int) : Go.bits .xor .i64 x y = (BitVec.ofInt 64 x ^^^ BitVec.ofInt 64 y).toInt := by
  have h : Go.bits .xor .i64 x y = IntKind.i64.wrap ((BitVec.ofInt 64 x ^^^ BitVec.ofInt 64 y).toNat : Int) := rfl
  rw [h, IntKind.wrap_i64, BitVec.toInt_eq_toNat_cond]
  have := (BitVec.ofInt 64 x ^^^ BitVec.ofInt 64 y).isLt
  split <;> omega
theorem ofInt_bx (x y : Int) : BitVec.ofInt 64 (Go.bits .xor .i64 x y) = BitVec.ofInt 64 x ^^^ BitVec.ofInt 64 y := by
  rw [bx_eq, BitVec.ofInt_toInt]
theorem toInt_ofInt64 {x : Int} (h : W64 x) : (BitVec.ofInt 64 x).toInt = x := by
  rw [BitVec.toInt_ofInt]
  have := h.1; have := h.2
  rw [Int.bmod_def]
  omega
theorem W64_toInt (v : BitVec 64) : W64 v.toInt := by
  rw [BitVec.toInt_eq_toNat_cond]
  have := v.isLt
  unfold W64
  split <;> omega
theorem W64_bx (x y : Int) : W64 (Go.bits .xor .i64 x y) := by rw [bx_eq]; exact W64_toInt _
theorem W64_zero : W64 0 := by unfold W64; omega
def xorL (a : Int) (l : List Int) : Int := l.foldl (fun x n => Go.bits .xor .i64 x n) a
def xv (l : List Int) : BitVec 64 := l.foldr (fun n v => BitVec.ofInt 64 n ^^^ v) 0
theorem xorL_cons (a n : Int) (l : List Int) : xorL a (n :: l) = xorL (Go.bits .xor .i64 a n) l := rfl
theorem xorL_xv : ∀ (l : List Int) (a : Int), W64 a → xorL a l = (BitVec.ofInt 64 a ^^^ xv l).toInt
  | [], a, h => by show a = _; simp [xv, toInt_ofInt64 h]
  | n :: l, a, h => by
    rw [xorL_cons, xorL_xv l _ (W64_bx a n), ofInt_bx, BitVec.xor_assoc]; rfl
theorem W64_xorL {a : Int} (h : W64 a) (l : List Int) : W64 (xorL a l) := by rw [xorL_xv l a h]; exact W64_toInt _
theorem xor_back (a b : BitVec 64) : (a ^^^ b) ^^^ b = a := by rw [BitVec.xor_assoc, BitVec.xor_self, BitVec.xor_zero]
/-- All but the k-th (i: the place of the first). -/
def skipL : Int → List Int → Nat → Int → Int
  | a, [], _, _ => a
  | a, n :: l, i, k => if (i : Int) = k then skipL a l (i + 1) k else skipL (Go.bits .xor .i64 a n) l (i + 1) k
theorem skipL_out : ∀ (l : List Int) (a : Int) (i : Nat) (k : Int), (k < i ∨ (i : Int) + l.length ≤ k) → skipL a l i k = xorL a l
  | [], a, i, k, _ => rfl
  | n :: l, a, i, k, h => by
    rw [List.length_cons] at h
    rw [skipL, if_neg (by omega), skipL_out l _ (i + 1) k (by omega), xorL_cons]
theorem skip_alg (a n v : BitVec 64) : a ^^^ n ^^^ v ^^^ n = a ^^^ v := by
  rw [BitVec.xor_assoc a, BitVec.xor_comm n, ← BitVec.xor_assoc, xor_back]
theorem skipL_in (l : List Int) : ∀ (a : Int) (i : Nat) (k : Nat), W64 a → (h : k < l.length) → skipL a l i ((i + k : Nat) : Int) = Go.bits .xor .i64 (xorL a l) l[k] := by
  induction l with
  | nil => intro a i k _ h; simp at h
  | cons n l ih =>
    intro a i k w h
    cases k with
    | zero =>
      rw [skipL, if_pos (by omega), skipL_out l a (i + 1) _ (by omega), List.getElem_cons_zero, xorL_cons, bx_eq (xorL _ l), xorL_xv _ _ (W64_bx _ _), BitVec.ofInt_toInt, ofInt_bx, xorL_xv _ _ w, skip_alg]
    | succ k =>
      have h' : k < l.length := by simpa using h
      rw [skipL, if_neg (by omega), show ((i + (k + 1) : Nat) : Int) = ((i + 1 + k : Nat) : Int) by omega, ih _ (i + 1) k (W64_bx _ _) h', xorL_cons, List.getElem_cons_succ]
theorem bx_back {x : Int} (h : W64 x) (n : Int) : Go.bits .xor .i64 (Go.bits .xor .i64 x n) n = x := by
  rw [bx_eq (Go.bits .xor .i64 x n), ofInt_bx, xor_back, toInt_ofInt64 h]
theorem bx_zero {x : Int} (h : W64 x) : Go.bits .xor .i64 0 x = x := by
  rw [bx_eq, show BitVec.ofInt 64 0 = 0 from rfl]
  simp [toInt_ofInt64 h]
theorem xorL_append (a : Int) (l m : List Int) : xorL a (l ++ m) = xorL (xorL a l) m := by simp [xorL]

theorem laws_big_eq (l : List Int) : laws_big.f l = some (decide ((l.length : Int) > 1048576)) := rfl

/-! ### the draws: a cursor over the bytes of the code -/
def Cur (b : List Int) (i : Int) : Prop := 0 ≤ i ∧ i ≤ (b.length : Int) ∧ b.length ≤ 1048576 ∧ ∀ x ∈ b, 0 ≤ x ∧ x ≤ 255
theorem band_eq (x m : Int) : Go.bits .and .i64 x m = IntKind.i64.wrap ((BitVec.ofInt 64 x &&& BitVec.ofInt 64 m).toNat : Int) := rfl
theorem band_le (x : Int) (m : Nat) (hm : m < 9223372036854775808) : 0 ≤ Go.bits .and .i64 x (m : Int) ∧ Go.bits .and .i64 x (m : Int) ≤ m := by
  rw [band_eq, IntKind.wrap_i64, BitVec.toNat_and]
  have h : (BitVec.ofInt 64 (m : Int)).toNat = m := by
    rw [BitVec.toNat_ofInt]; omega
  rw [h]
  have := Nat.and_le_right (n := (BitVec.ofInt 64 x).toNat) (m := m)
  omega

theorem spec_l1New_l (l : List Int) (hl : l.length ≤ 1048576) : ∀ (d i : Nat) (a : Int), i + d = l.length → ∃ h, Ev (fun k => spec_l1New.l0 k l a (i : Int)) (l, 0, h) := by
  intro d
  induction d with
  | zero =>
    intro i a hi
    refine ⟨a, ev_succ ?_⟩
    simp only [spec_l1New.l0]
    exact ev_neg (by omega) (Ev.now _)
  | succ d ih =>
    intro i a hi
    by_cases h4 : (i : Int) < 4000
    · obtain ⟨h, e⟩ := ih (i + 1) (Go.bits .and .i64 (wrap64 ((wrap64 ((wrap64 (a * 137)) + (wrap64 (rd l (i : Int))))) + 11)) 1073741823) (by omega)
      refine ⟨h, ev_succ ?_⟩
      simp only [spec_l1New.l0]
      rw [w64_succ (n := l.length) (by omega) (by omega)]
      exact ev_pos (by omega) (ev_pos h4 (ev_pos (by omega) e))
    · refine ⟨a, ev_succ ?_⟩
      simp only [spec_l1New.l0]
      exact ev_pos (by omega) (ev_neg h4 (Ev.now _))
theorem spec_l1New_ev (l : List Int) (hl : l.length ≤ 1048576) (hb : ∀ x ∈ l, 0 ≤ x ∧ x ≤ 255) : ∃ h, Ev (fun k => spec_l1New.f k l) (l, 0, h) ∧ Cur l 0 := by
  obtain ⟨h, e⟩ := spec_l1New_l l hl l.length 0 (wrap64 (770770 + (l.length : Int))) (by omega)
  exact ⟨h, e, by unfold Cur; exact ⟨by omega, by omega, hl, hb⟩⟩

theorem spec_l1Byte_ok {b : List Int} {i : Int} (h : Int) (c : Cur b i) : ∃ x i' h', spec_l1Byte.f b i h = some (x, i', h') ∧ Cur b i' ∧ 0 ≤ x ∧ x ≤ 255 := by
  obtain ⟨c0, c1, c2, c3⟩ := c
  unfold spec_l1Byte.f
  by_cases hi : i < (b.length : Int)
  · rw [if_pos hi, if_pos c0, w64 (n := i + 1) (by omega) (by omega)]
    have h1 := band_le (wrap64 ((Go.bits .and .i64 (Go.bits .xor .i64 ((wrap64 ((wrap64 (h * 6364136223846793005)) + 1442695040888963407)) / 8589934592) ((wrap64 ((wrap64 (h * 6364136223846793005)) + 1442695040888963407)) / 140737488355328)) 255) + (wrap64 (rd b i)))) 255 (by omega)
    exact ⟨_, _, _, rfl, ⟨by omega, by omega, c2, c3⟩, h1⟩
  · rw [if_neg hi]
    have h1 := band_le (Go.bits .xor .i64 ((wrap64 ((wrap64 (h * 6364136223846793005)) + 1442695040888963407)) / 8589934592) ((wrap64 ((wrap64 (h * 6364136223846793005)) + 1442695040888963407)) / 140737488355328)) 255 (by omega)
    exact ⟨_, _, _, rfl, ⟨c0, c1, c2, c3⟩, h1⟩

theorem spec_l1Below_ok {b : List Int} {i : Int} (h : Int) (c : Cur b i) (n : Int) : ∃ x i' h', spec_l1Below.f b i h n = some (x, i', h') ∧ Cur b i' ∧ 0 ≤ x ∧ (0 < n → x < n) ∧ (n ≤ 0 → x = 0) := by
  unfold spec_l1Below.f
  by_cases h0 : n ≤ 0
  · rw [if_pos h0]
    exact ⟨_, _, _, rfl, c, by omega, by omega, fun _ => rfl⟩
  rw [if_neg h0]
  by_cases h1 : n ≤ 256
  · rw [if_pos h1]
    obtain ⟨x, i1, h1, e, c1, x0, x1⟩ := spec_l1Byte_ok h c
    rw [e]
    simp only [Option.bind_some]
    rw [if_neg (by omega), Int.tmod_eq_emod_of_nonneg x0]
    exact ⟨_, _, _, rfl, c1, Int.emod_nonneg _ (by omega), fun _ => Int.emod_lt_of_pos _ (by omega), by omega⟩
  · rw [if_neg h1]
    obtain ⟨x, i1, h1, e, c1, x0, x1⟩ := spec_l1Byte_ok h c
    obtain ⟨y, i2, h2, e2, c2, y0, y1⟩ := spec_l1Byte_ok h1 c1
    obtain ⟨z, i3, h3, e3, c3, z0, z1⟩ := spec_l1Byte_ok h2 c2
    rw [e]; simp only [Option.bind_some]
    rw [e2]; simp only [Option.bind_some]
    rw [e3]; simp only [Option.bind_some]
    rw [if_neg (by omega), w64 (n := x * 65536) (by omega) (by omega), w64 (n := y * 256) (by omega) (by omega), w64 (n := x * 65536 + y * 256) (by omega) (by omega), w64 (by omega) (by omega), Int.tmod_eq_emod_of_nonneg (by omega)]
    exact ⟨_, _, _, rfl, c3, Int.emod_nonneg _ (by omega), fun _ => Int.emod_lt_of_pos _ (by omega), by omega⟩

theorem spec_l1Int_ok {b : List Int} {i : Int} (h : Int) (c : Cur b i) (l : List Int) (hl : 0 < l.length) : ∃ x i' h', spec_l1Int.f b i h l = some (x, i', h') ∧ Cur b i' ∧ x ∈ l := by
  unfold spec_l1Int.f
  obtain ⟨x, i1, h1, e, c1, x0, x1, _⟩ := spec_l1Below_ok h c (l.length : Int)
  rw [e]; simp only [Option.bind_some]
  have := x1 (by omega)
  rw [if_pos x0, if_pos this]
  refine ⟨_, _, _, rfl, c1, ?_⟩
  obtain ⟨j, rfl⟩ : ∃ j : Nat, x = j := ⟨x.toNat, by omega⟩
  rw [rd_nat l j (by omega)]
  exact List.getElem_mem _

theorem spec_l3Geo_ok {b : List Int} {i : Int} (h : Int) (c : Cur b i) : ∃ n s i' h', spec_l3Geo.f b i h = some (n, s, i', h') ∧ Cur b i' ∧ 3 ≤ n ∧ n ≤ 5 ∧ 1 ≤ s ∧ s ≤ 8 := by
  unfold spec_l3Geo.f
  obtain ⟨x, i1, h1, e1, c1, x0, x1, _⟩ := spec_l1Below_ok h c 3
  obtain ⟨y, i2, h2, e2, c2, y0, y1, _⟩ := spec_l1Below_ok h1 c1 8
  have := x1 (by omega)
  have := y1 (by omega)
  rw [e1]; simp only [Option.bind_some]
  rw [e2]; simp only [Option.bind_some]
  rw [w64 (n := 3 + x) (by omega) (by omega), w64 (n := 1 + y) (by omega) (by omega)]
  exact ⟨_, _, _, _, rfl, c2, by omega, by omega, by omega, by omega⟩

theorem spec_l3Any_ok {b : List Int} {i : Int} (h : Int) (c : Cur b i) : ∃ n s i' h', spec_l3Any.f b i h = some (n, s, i', h') ∧ Cur b i' := by
  unfold spec_l3Any.f
  obtain ⟨n, s, i1, h1, e1, c1, _⟩ := spec_l3Geo_ok h c
  obtain ⟨y, i2, h2, e2, c2, y0, y1, _⟩ := spec_l1Below_ok h1 c1 8
  obtain ⟨u, i3, h3, e3, c3, _⟩ := spec_l1Int_ok h2 c2 ([0, 2, 6, (-1)] : List Int) (by decide)
  obtain ⟨v, i4, h4, e4, c4, _⟩ := spec_l1Int_ok h2 c2 ([0, 9, (-1)] : List Int) (by decide)
  rw [e1]; simp only [Option.bind_some]
  rw [e2]; simp only [Option.bind_some]
  by_cases y0 : y = 0
  · rw [if_pos y0, e3]; exact ⟨_, _, _, _, rfl, c3⟩
  by_cases y1 : y = 1
  · rw [if_neg y0, if_pos y1, e4]; exact ⟨_, _, _, _, rfl, c4⟩
  · rw [if_neg y0, if_neg y1]; exact ⟨_, _, _, _, rfl, c2⟩

theorem spec_DrawGeoOk_ok (l : List Int) (hl : l.length ≤ 1048576) (hb : ∀ x ∈ l, 0 ≤ x ∧ x ≤ 255) : ∃ n s, Ev (fun k => spec_DrawGeoOk.f k l) (n, s) := by
  unfold spec_DrawGeoOk.f
  obtain ⟨h, e, c⟩ := spec_l1New_ev l hl hb
  obtain ⟨n, s, i1, h1, e1, c1⟩ := spec_l3Any_ok h c
  exact ⟨n, s, Ev.bind e (Ev.bind (ev_const e1) (Ev.now _))⟩

theorem spec_DrawDiskOf_ok (l : List Int) (hl : l.length ≤ 1048576) (hb : ∀ x ∈ l, 0 ≤ x ∧ x ≤ 255) : ∃ n s a b, Ev (fun k => spec_DrawDiskOf.f k l) (n, s, a, b) := by
  unfold spec_DrawDiskOf.f
  obtain ⟨h, e, c⟩ := spec_l1New_ev l hl hb
  obtain ⟨n, s, i1, h1, e1, c1⟩ := spec_l3Any_ok h c
  obtain ⟨a, i2, h2, e2, c2, _⟩ := spec_l1Int_ok h1 c1 ([0, 1, 2, 3, 5, 8, (-1)] : List Int) (by decide)
  obtain ⟨b, i3, h3, e3, c3, _⟩ := spec_l1Int_ok h2 c2 ([0, 1, 2, 3, 4, (-1)] : List Int) (by decide)
  exact ⟨n, s, a, b, Ev.bind e (Ev.bind (ev_const e1) (Ev.bind (ev_const e2) (Ev.bind (ev_const e3) (Ev.now _))))⟩

theorem spec_DrawStripeOf_ok (l : List Int) (hl : l.length ≤ 1048576) (hb : ∀ x ∈ l, 0 ≤ x ∧ x ≤ 255) : ∃ n s a, Ev (fun k => spec_DrawStripeOf.f k l) (n, s, a) := by
  unfold spec_DrawStripeOf.f
  obtain ⟨h, e, c⟩ := spec_l1New_ev l hl hb
  obtain ⟨n, s, i1, h1, e1, c1⟩ := spec_l3Any_ok h c
  obtain ⟨a, i2, h2, e2, c2, _⟩ := spec_l1Int_ok h1 c1 ([0, 1, 2, 3, 5, 8, 13, 31, 32, (-1)] : List Int) (by decide)
  exact ⟨n, s, a, Ev.bind e (Ev.bind (ev_const e1) (Ev.bind (ev_const e2) (Ev.now _)))⟩

theorem spec_l1Draw_ok {b : List Int} {i : Int} (h : Int) (c : Cur b i) : ∃ x i' h', spec_l1Draw.f b i h = some (x, i', h') ∧ Cur b i' ∧ 0 ≤ x ∧ x ≤ 65535 := by
  unfold spec_l1Draw.f
  obtain ⟨x, i1, h1, e, c1, hx⟩ := spec_l1Int_ok h c ([0, 1, 2, 7, 255, 256, 4660, 65535] : List Int) (by decide)
  rw [e]; simp only [Option.bind_some]
  refine ⟨_, _, _, rfl, c1, ?_⟩
  simp only [List.mem_cons, List.not_mem_nil, or_false] at hx
  omega

theorem spec_l1Sec_l {b : List Int} : ∀ (n : Nat) (i h : Int) (x : List Int), Cur b i → n + x.length ≤ 100 → (∀ y ∈ x, 0 ≤ y ∧ y ≤ 65535) → ∃ s i' h', Ev (fun k => spec_l1Sec.l0 k x (n : Int) b i h) (s, i', h') ∧ Cur b i' ∧ s.length = n + x.length ∧ ∀ y ∈ s, 0 ≤ y ∧ y ≤ 65535 := by
  intro n
  induction n with
  | zero =>
    intro i h x c hx hb
    refine ⟨x, i, h, ev_succ ?_, c, by omega, hb⟩
    simp only [spec_l1Sec.l0]
    exact ev_neg (by omega) (Ev.now _)
  | succ n ih =>
    intro i h x c hx hb
    obtain ⟨y, i1, h1, e, c1, y0, y1⟩ := spec_l1Draw_ok h c
    obtain ⟨s, i2, h2, e2, c2, sl, sb⟩ := ih i1 h1 (x ++ [y]) c1 (by simp; omega) (fun z hz => by
      rcases List.mem_append.1 hz with hz | hz
      · exact hb z hz
      · simp at hz; subst hz; exact ⟨y0, y1⟩)
    refine ⟨s, i2, h2, ev_succ ?_, c2, by simp at sl; omega, sb⟩
    simp only [spec_l1Sec.l0]
    refine ev_pos (by omega) ?_
    rw [e, w64 (by omega) (by omega), show ((n + 1 : Nat) : Int) - 1 = (n : Int) by omega]
    exact Ev.bind (Ev.now _) (ev_pos (by omega) e2)
theorem spec_l1Sec_ok {b : List Int} {i : Int} (h : Int) (c : Cur b i) : ∃ s i' h', Ev (fun k => spec_l1Sec.f k b i h) (s, i', h') ∧ Cur b i' ∧ s.length ≤ 4 ∧ ∀ y ∈ s, 0 ≤ y ∧ y ≤ 65535 := by
  unfold spec_l1Sec.f
  obtain ⟨x, i1, h1, e, c1, x0, x1, _⟩ := spec_l1Below_ok h c 5
  have := x1 (by omega)
  obtain ⟨j, rfl⟩ : ∃ j : Nat, x = j := ⟨x.toNat, by omega⟩
  obtain ⟨s, i2, h2, e2, c2, sl, sb⟩ := spec_l1Sec_l (b := b) j i1 h1 [] c1 (by simp; omega) (by simp)
  rw [e]
  exact ⟨s, i2, h2, Ev.bind (Ev.now _) e2, c2, by simp at sl; omega, sb⟩

theorem spec_l1Any_ok {b : List Int} {i : Int} (h : Int) (c : Cur b i) : ∃ s i' h', Ev (fun k => spec_l1Any.f k b i h) (s, i', h') ∧ Cur b i' ∧ s.length ≤ 13 ∧ ∀ y ∈ s, -1 ≤ y ∧ y ≤ 65536 := by
  unfold spec_l1Any.f
  obtain ⟨s, i1, h1, e1, c1, sl, sb⟩ := spec_l1Sec_ok h c
  obtain ⟨x, i2, h2, e2, c2, x0, x1, _⟩ := spec_l1Below_ok h1 c1 10
  have := x1 (by omega)
  by_cases a0 : x = 0
  · obtain ⟨y, i3, h3, e3, c3, hy⟩ := spec_l1Int_ok h2 c2 ([(-1), 65536] : List Int) (by decide)
    refine ⟨s ++ [y], i3, h3, Ev.bind e1 (Ev.bind (ev_const e2) (ev_pos a0 (Ev.bind (ev_const e3) (ev_pos (by simp; omega) (Ev.now _))))), c3, by simp; omega, fun z hz => ?_⟩
    simp only [List.mem_cons, List.not_mem_nil, or_false] at hy
    rcases List.mem_append.1 hz with hz | hz
    · have := sb z hz; omega
    · simp at hz; omega
  by_cases a1 : x = 1
  · obtain ⟨y, i3, h3, e3, c3, y0, y1, _⟩ := spec_l1Below_ok h2 c2 2
    have := y1 (by omega)
    refine ⟨List.replicate (12 + y).toNat 0, i3, h3, Ev.bind e1 (Ev.bind (ev_const e2) (ev_neg a0 (ev_pos a1 (Ev.bind (ev_const e3) ?_)))), c3, by simp; omega, fun z hz => by have := (List.mem_replicate.1 hz).2; omega⟩
    simp only
    rw [w64 (by omega) (by omega)]
    exact ev_pos (by omega) (ev_pos (by omega) (Ev.now _))
  · exact ⟨s, i2, h2, Ev.bind e1 (Ev.bind (ev_const e2) (ev_neg a0 (ev_neg a1 (Ev.now _)))), c2, by omega, fun z hz => by have := sb z hz; omega⟩

theorem spec_DrawMissingWord_ok (l : List Int) (hl : l.length ≤ 1048576) (hb : ∀ x ∈ l, 0 ≤ x ∧ x ≤ 255) : ∃ m a, Ev (fun k => spec_DrawMissingWord.f k l) (m, a) ∧ m.length ≤ 13 := by
  unfold spec_DrawMissingWord.f
  obtain ⟨h, e, c⟩ := spec_l1New_ev l hl hb
  obtain ⟨m, i1, h1, e1, c1, ml, _⟩ := spec_l1Any_ok h c
  obtain ⟨a, i2, h2, e2, c2, _⟩ := spec_l1Int_ok h1 c1 ([0, 1, 2, 3, (-1)] : List Int) (by decide)
  exact ⟨m, a, Ev.bind e (Ev.bind e1 (Ev.bind (ev_const e2) (Ev.now _))), ml⟩

theorem spec_DrawParityOf_ok (l : List Int) (hl : l.length ≤ 1048576) (hb : ∀ x ∈ l, 0 ≤ x ∧ x ≤ 255) : ∃ n s a, Ev (fun k => spec_DrawParityOf.f k l) (n, s, a) := by
  unfold spec_DrawParityOf.f
  obtain ⟨h, e, c⟩ := spec_l1New_ev l hl hb
  obtain ⟨n, s, i1, h1, e1, c1⟩ := spec_l3Any_ok h c
  obtain ⟨a, i2, h2, e2, c2, _⟩ := spec_l1Int_ok h1 c1 ([0, 1, 2, 3, 5, 7, 8, (-1)] : List Int) (by decide)
  exact ⟨n, s, a, Ev.bind e (Ev.bind (ev_const e1) (Ev.bind (ev_const e2) (Ev.now _)))⟩

theorem impl_within_eq (a lo hi : Int) : impl_within.f a lo hi = some (inB a lo hi) := by
  unfold impl_within.f inB
  split
  · congr 1; simp; omega
  · congr 1; simp; omega

theorem impl_GeoOk_eq (n s : Int) : impl_GeoOk.f n s = some (geoB n s) := by
  unfold impl_GeoOk.f geoB
  rw [impl_within_eq, impl_within_eq]
  cases inB n 3 5 <;> simp

theorem spec_l1In_eq (a lo hi : Int) : spec_l1In.f a lo hi = some (inB a lo hi) := by
  unfold spec_l1In.f inB
  split
  · congr 1; simp; omega
  · congr 1; simp; omega

theorem spec_GeoOk_eq (n s : Int) : spec_GeoOk.f n s = some (geoB n s) := by
  unfold spec_GeoOk.f geoB
  rw [spec_l1In_eq, spec_l1In_eq]
  cases inB n 3 5 <;> simp

theorem impl_hasStripe_eq (n s st : Int) : impl_hasStripe.f n s st = some (strB n s st) := by
  unfold impl_hasStripe.f strB
  rw [impl_GeoOk_eq]
  cases h : geoB n s with
  | false => simp
  | true =>
    have := geoB_true.1 h
    simp only [Option.bind_some, if_true, Bool.true_and]
    rw [w64 (by omega) (by omega), impl_within_eq]; rfl

theorem impl_ParityOf_eq (n s st : Int) : impl_ParityOf.f n s st = some (parV n s st) := by
  unfold impl_ParityOf.f
  rw [impl_hasStripe_eq]
  by_cases h : strB n s st = true
  · have b := parV_in h
    have := strB_true.1 h
    rw [parV, if_pos h] at b
    simp only [h, Option.bind_some, if_true]
    rw [if_neg (by omega), Int.tmod_eq_emod_of_nonneg (by omega), w64 (n := n - 1) (by omega) (by omega), w64 (by omega) (by omega), parV, if_pos h]
  · simp [h, parV]

theorem impl_DiskOf_eq (n s st i : Int) : impl_DiskOf.f n s st i = some (diskV n s st i) := by
  unfold impl_DiskOf.f
  rw [impl_hasStripe_eq]
  by_cases h : strB n s st = true
  · have b := parV_in h
    have := strB_true.1 h
    simp only [h, Option.bind_some, if_true]
    rw [w64 (n := n - 2) (by omega) (by omega), impl_within_eq]
    by_cases h' : inB i 0 (n - 2) = true
    · have := inB_true.1 h'
      simp only [h', Option.bind_some, if_true]
      rw [impl_ParityOf_eq]
      simp only [Option.bind_some]
      rw [if_neg (by omega), w64 (n := parV n s st + 1) (by omega) (by omega), w64 (by omega) (by omega), Int.tmod_eq_emod_of_nonneg (by omega), diskV, if_pos ⟨h, h'⟩]
    · simp [h', diskV]
  · simp [h, diskV]

theorem spec_l3Stripe_eq (n s st : Int) : spec_l3Stripe.f n s st = some (strB n s st) := by
  unfold spec_l3Stripe.f strB
  rw [spec_GeoOk_eq]
  cases h : geoB n s with
  | false => simp
  | true =>
    have := geoB_true.1 h
    simp only [Option.bind_some, if_true, Bool.true_and]
    rw [w64 (by omega) (by omega), spec_l1In_eq]; rfl

theorem spec_ParityOf_eq (n s st : Int) : spec_ParityOf.f n s st = some (parV n s st) := by
  unfold spec_ParityOf.f
  rw [spec_l3Stripe_eq]
  by_cases h : strB n s st = true
  · have b := parV_in h
    have := strB_true.1 h
    rw [parV, if_pos h] at b
    simp only [h, Option.bind_some, if_true]
    rw [if_neg (by omega), Int.tmod_eq_emod_of_nonneg (by omega), w64 (n := n - 1) (by omega) (by omega), w64 (by omega) (by omega), parV, if_pos h]
  · simp [h, parV]

theorem spec_DiskOf_eq (n s st i : Int) : spec_DiskOf.f n s st i = some (diskV n s st i) := by
  unfold spec_DiskOf.f
  rw [spec_l3Stripe_eq]
  by_cases h : strB n s st = true
  · have b := parV_in h
    have := strB_true.1 h
    simp only [h, Option.bind_some, if_true]
    rw [w64 (n := n - 2) (by omega) (by omega), spec_l1In_eq]
    by_cases h' : inB i 0 (n - 2) = true
    · have := inB_true.1 h'
      simp only [h', Option.bind_some, if_true]
      rw [spec_ParityOf_eq]
      simp only [Option.bind_some]
      rw [if_neg (by omega), w64 (n := parV n s st + 1) (by omega) (by omega), w64 (by omega) (by omega), Int.tmod_eq_emod_of_nonneg (by omega), diskV, if_pos ⟨h, h'⟩]
    · simp [h', diskV]
  · simp [h, diskV]

theorem impl_BlockAt_eq (n s st i : Int) : impl_BlockAt.f n s st i = some (blockAtV n s st i) := by
  unfold impl_BlockAt.f
  rw [impl_hasStripe_eq]
  by_cases h : strB n s st = true
  · have := strB_true.1 h
    simp only [h, Option.bind_some, if_true]
    rw [w64 (n := n - 2) (by omega) (by omega), impl_within_eq]
    by_cases h' : inB i 0 (n - 2) = true
    · have := inB_true.1 h'
      have h1 : 0 ≤ st * (n - 1) := Int.mul_nonneg (by omega) (by omega)
      have h2 : st * (n - 1) ≤ 7 * (n - 1) := Int.mul_le_mul_of_nonneg_right (by omega) (by omega)
      simp only [h', Option.bind_some, if_true]
      rw [w64 (n := n - 1) (by omega) (by omega), w64 (n := st * (n - 1)) (by omega) (by omega), w64 (by omega) (by omega), blockAtV, if_pos ⟨h, h'⟩]
    · simp [h', blockAtV]
  · simp [h, blockAtV]

theorem spec_BlockAt_eq (n s st i : Int) : spec_BlockAt.f n s st i = some (blockAtV n s st i) := by
  unfold spec_BlockAt.f
  rw [spec_l3Stripe_eq]
  by_cases h : strB n s st = true
  · have := strB_true.1 h
    simp only [h, Option.bind_some, if_true]
    rw [w64 (n := n - 2) (by omega) (by omega), spec_l1In_eq]
    by_cases h' : inB i 0 (n - 2) = true
    · have := inB_true.1 h'
      have h1 : 0 ≤ st * (n - 1) := Int.mul_nonneg (by omega) (by omega)
      have h2 : st * (n - 1) ≤ 7 * (n - 1) := Int.mul_le_mul_of_nonneg_right (by omega) (by omega)
      simp only [h', Option.bind_some, if_true]
      rw [w64 (n := n - 1) (by omega) (by omega), w64 (n := st * (n - 1)) (by omega) (by omega), w64 (by omega) (by omega), blockAtV, if_pos ⟨h, h'⟩]
    · simp [h', blockAtV]
  · simp [h, blockAtV]

theorem impl_Blocks_eq (n s : Int) : impl_Blocks.f n s = some (blocksV n s) := by
  unfold impl_Blocks.f
  have hb := blocksV_in n s
  rw [impl_GeoOk_eq]
  by_cases h : geoB n s = true
  · have := geoB_true.1 h
    rw [blocksV, if_pos h] at hb
    simp only [h, Option.bind_some, if_true]
    rw [w64 (n := n - 1) (by omega) (by omega), w64 (by omega) (by omega), blocksV, if_pos h]
  · simp [h, blocksV]

theorem impl_hasBlock_eq (n s b : Int) : impl_hasBlock.f n s b = some (blkB n s b) := by
  unfold impl_hasBlock.f
  have hb := blocksV_in n s
  rw [impl_Blocks_eq]
  simp only [Option.bind_some]
  rw [w64 (n := blocksV n s - 1) (by omega) (by omega), impl_within_eq]; rfl

theorem impl_StripeOf_eq (n s b : Int) : impl_StripeOf.f n s b = some (stripeV n s b) := by
  unfold impl_StripeOf.f
  have hb := blocksV_in n s
  rw [impl_hasBlock_eq]
  by_cases h : blkB n s b = true
  · have := blkB_geo h
    have h' : inB b 0 (blocksV n s - 1) = true := h
    simp only [h, Option.bind_some, if_true]
    have h1 : 0 ≤ b / (n - 1) := Int.ediv_nonneg (by omega) (by omega)
    have h2 : b / (n - 1) ≤ b := Int.ediv_le_self _ (by omega)
    rw [w64 (n := n - 1) (by omega) (by omega), if_neg (by omega), Int.tdiv_eq_ediv_of_nonneg (by omega), stripeV, if_pos h]
    rw [w64 (by omega) (by have := inB_true.1 h'; omega)]
  · simp [h, stripeV]

theorem spec_Blocks_eq (n s : Int) : spec_Blocks.f n s = some (blocksV n s) := by
  unfold spec_Blocks.f
  have hb := blocksV_in n s
  rw [spec_GeoOk_eq]
  by_cases h : geoB n s = true
  · have := geoB_true.1 h
    rw [blocksV, if_pos h] at hb
    simp only [h, Option.bind_some, if_true]
    rw [w64 (n := n - 1) (by omega) (by omega), w64 (by omega) (by omega), blocksV, if_pos h]
  · simp [h, blocksV]

theorem spec_StripeOf_eq (n s b : Int) : spec_StripeOf.f n s b = some (stripeV n s b) := by
  unfold spec_StripeOf.f
  have hb := blocksV_in n s
  rw [spec_Blocks_eq]
  simp only [Option.bind_some]
  rw [w64 (n := blocksV n s - 1) (by omega) (by omega), spec_l1In_eq]
  by_cases h : blkB n s b = true
  · have := blkB_geo h
    have h' : inB b 0 (blocksV n s - 1) = true := h
    simp only [h', Option.bind_some, if_true]
    have h1 : 0 ≤ b / (n - 1) := Int.ediv_nonneg (by omega) (by omega)
    have h2 : b / (n - 1) ≤ b := Int.ediv_le_self _ (by omega)
    rw [w64 (n := n - 1) (by omega) (by omega), if_neg (by omega), Int.tdiv_eq_ediv_of_nonneg (by omega), stripeV, if_pos h]
    try rw [w64 (by omega) (by have := inB_true.1 h'; omega)]
  · have h' : ¬ inB b 0 (blocksV n s - 1) = true := h
    simp [h', stripeV, h]

theorem impl_IndexOf_eq (n s b : Int) : impl_IndexOf.f n s b = some (indexV n s b) := by
  unfold impl_IndexOf.f
  rw [impl_hasBlock_eq]
  by_cases h : blkB n s b = true
  · have := blkB_geo h
    simp only [h, Option.bind_some, if_true]
    rw [w64 (n := n - 1) (by omega) (by omega), if_neg (by omega), Int.tmod_eq_emod_of_nonneg (by omega), indexV, if_pos h]
  · simp [h, indexV]

theorem spec_IndexOf_eq (n s b : Int) : spec_IndexOf.f n s b = some (indexV n s b) := by
  unfold spec_IndexOf.f
  have hb := blocksV_in n s
  rw [spec_Blocks_eq]
  simp only [Option.bind_some]
  rw [w64 (n := blocksV n s - 1) (by omega) (by omega), spec_l1In_eq]
  by_cases h : blkB n s b = true
  · have := blkB_geo h
    have h' : inB b 0 (blocksV n s - 1) = true := h
    simp only [h', Option.bind_some, if_true]
    rw [w64 (n := n - 1) (by omega) (by omega), if_neg (by omega), Int.tmod_eq_emod_of_nonneg (by omega), indexV, if_pos h]
  · have h' : ¬ inB b 0 (blocksV n s - 1) = true := h
    simp [h', indexV, h]

theorem impl_XorOf_l (l : List Int) (hl : l.length ≤ 9223372036854775807) : ∀ (d i : Nat) (a : Int), i + d = l.length → Ev (fun k => impl_XorOf.l0 k a l (l.length : Int) (i : Int)) (xorL a (l.drop i)) := by
  intro d
  induction d with
  | zero =>
    intro i a hi
    exact Ev.step (f := fun _ => some a) (fun k => by simp only [impl_XorOf.l0]; rw [if_neg (by omega)]) (ev_const (by rw [List.drop_of_length_le (by omega)]; rfl))
  | succ d ih =>
    intro i a hi
    refine Ev.step (f := fun k => impl_XorOf.l0 k (Go.bits .xor .i64 a (l[i]'(by omega))) l (l.length : Int) ((i + 1 : Nat) : Int)) (fun k => ?_) (ev_val (ih (i + 1) _ (by omega)) ?_)
    · simp only [impl_XorOf.l0]
      rw [if_pos (by omega), if_pos (by omega), if_pos (by omega), w64_succ (n := l.length) (by omega) hl, rd_nat l i (by omega)]
    · rw [List.drop_eq_getElem_cons (i := i) (by omega)]; rfl
theorem impl_XorOf_ev (l : List Int) (hl : l.length ≤ 9223372036854775807) : Ev (fun k => impl_XorOf.f k l) (xorL 0 l) := impl_XorOf_l l hl l.length 0 0 (by omega)

theorem impl_MissingWord_ev (l : List Int) (q : Int) (hl : l.length ≤ 9223372036854775807) : Ev (fun k => impl_MissingWord.f k l q) (skipL 0 l 0 q) := by
  unfold impl_MissingWord.f
  refine Ev.bind (impl_XorOf_ev l hl) ?_
  rw [impl_within_eq, w64 (by omega) (by omega)]
  by_cases h : 0 ≤ q ∧ q ≤ (l.length : Int) - 1
  · obtain ⟨j, rfl⟩ : ∃ j : Nat, q = j := ⟨q.toNat, by omega⟩
    rw [inB_true.2 h]
    refine Ev.bind (Ev.now true) (ev_pos rfl (ev_pos (by omega) (ev_pos (by omega) (ev_const ?_))))
    rw [rd_nat l j (by omega), ← skipL_in l 0 0 j W64_zero (by omega), Nat.zero_add]
  · rw [inB_false.2 h]
    refine Ev.bind (Ev.now false) (ev_neg (by simp) (ev_const ?_))
    rw [skipL_out l 0 0 q (by omega)]

theorem spec_MissingWord_l (l : List Int) (q : Int) (hl : l.length ≤ 9223372036854775807) : ∀ (d i : Nat) (a : Int), i + d = l.length → Ev (fun k => spec_MissingWord.l0 k l q a (i : Int)) (skipL a (l.drop i) i q) := by
  intro d
  induction d with
  | zero =>
    intro i a hi
    exact Ev.step (f := fun _ => some a) (fun k => by simp only [spec_MissingWord.l0]; rw [if_neg (by omega)]) (ev_const (by rw [List.drop_of_length_le (by omega)]; rfl))
  | succ d ih =>
    intro i a hi
    rw [List.drop_eq_getElem_cons (i := i) (by omega), skipL]
    by_cases e : (i : Int) = q
    · rw [if_pos e]
      refine Ev.step (f := fun k => spec_MissingWord.l0 k l q a ((i + 1 : Nat) : Int)) (fun k => ?_) (ih (i + 1) a (by omega))
      simp only [spec_MissingWord.l0]
      rw [if_pos (by omega), if_pos e, w64_succ (n := l.length) (by omega) hl]
    · rw [if_neg e]
      refine Ev.step (f := fun k => spec_MissingWord.l0 k l q (Go.bits .xor .i64 a (l[i]'(by omega))) ((i + 1 : Nat) : Int)) (fun k => ?_) (ih (i + 1) _ (by omega))
      simp only [spec_MissingWord.l0]
      rw [if_pos (by omega), if_neg e, if_pos (by omega), w64_succ (n := l.length) (by omega) hl, rd_nat l i (by omega)]
theorem spec_MissingWord_ev (l : List Int) (q : Int) (hl : l.length ≤ 9223372036854775807) : Ev (fun k => spec_MissingWord.f k l q) (skipL 0 l 0 q) := spec_MissingWord_l l q hl l.length 0 0 (by omega)

open Go.Proofs.Ytlmnmcfieagmbaa.WalkGeosBent (walk walk_big)
theorem FnGeosBent_calls (A0 : Option Addr) (c0 : Nat) (l : List Int) (w : World) (hr : Kd.C (Kd.int .u8) w A0 l.length l) (hc : l.length ≤ c0) (hl0 : l.length ≤ maxLen ∧ ∀ y ∈ l, (Lit.int .u8 y).wf = true) :
    Calls Try.prog 10 #[.slice A0 l.length c0] w fun e w' => e = .returned (.bool true) ∧ Below w.heap.size w w' := by
  have hb : ∀ x ∈ l, 0 ≤ x ∧ x ≤ 255 := fun x hx => wf_u8 (hl0.2 x hx)
  by_cases h : (l.length : Int) > 1048576
  · exact walk_big A0 c0 l w hr hc (by rw [laws_big_eq, decide_eq_true h])
  obtain ⟨gn, gs, K1, e1⟩ := spec_DrawGeoOk_ok l (by omega) hb
  obtain ⟨hn, hs, hst, hi, K2, e2⟩ := spec_DrawDiskOf_ok l (by omega) hb
  obtain ⟨kn, ks, kb, K3, e3⟩ := spec_DrawStripeOf_ok l (by omega) hb
  obtain ⟨ml, mq, ⟨K4, e4⟩, hm⟩ := spec_DrawMissingWord_ok l (by omega) hb
  obtain ⟨pn, ps, pt, K5, e5⟩ := spec_DrawParityOf_ok l (by omega) hb
  obtain ⟨K6, e6⟩ := impl_MissingWord_ev ml mq (by omega)
  obtain ⟨K7, e7⟩ := spec_MissingWord_ev ml mq (by omega)
  let k := K1 + K2 + K3 + K4 + K5 + K6 + K7
  exact walk k A0 c0 l w hr hc (by rw [laws_big_eq, decide_eq_false h]) gn gs (e1 k (by omega)) hn hs hst hi (e2 k (by omega)) kn ks kb (e3 k (by omega)) ml mq (e4 k (by omega)) pn ps pt (e5 k (by omega))
    _ (impl_GeoOk_eq _ _) (spec_GeoOk_eq _ _) _ (impl_DiskOf_eq _ _ _ _) (spec_DiskOf_eq _ _ _ _) _ (impl_BlockAt_eq _ _ _ _) (spec_BlockAt_eq _ _ _ _) _ (impl_StripeOf_eq _ _ _) (spec_StripeOf_eq _ _ _)
    _ (impl_IndexOf_eq _ _ _) (spec_IndexOf_eq _ _ _) _ (e6 k (by omega)) (e7 k (by omega)) _ (impl_ParityOf_eq _ _ _) (spec_ParityOf_eq _ _ _) _ (impl_Blocks_eq _ _) (spec_Blocks_eq _ _)

end Go.Proofs.Ytlmnmcfieagmbaa.Pure
