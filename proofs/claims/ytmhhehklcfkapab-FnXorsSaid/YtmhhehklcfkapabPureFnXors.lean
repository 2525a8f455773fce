/- FnXors: for every input that the print speaks of the law comes to true, as plain numbers and lists. Conditions: none beyond those that the printed statement names. -/
import Derived.Test.YtmhhehklcfkapabQFnXorsx3

namespace Go.Proofs.Ytmhhehklcfkapab.Pure
open Go.RowKit Go.Proofs.Ytmhhehklcfkapab.PFnXors Go.Proofs.YtmhhehklcfkapabW.PrintWords Go.Proofs.YtmhhehklcfkapabW.PrintLast
set_option linter.unusedVariables false
set_option linter.unusedSimpArgs false

/-! ### small laws: numbers, lists, rounds -/
theorem w64 {n : Int} (h0 : -9223372036854775808 ≤ n) (h1 : n ≤ 9223372036854775807) : wrap64 n = n := by unfold wrap64; omega
theorem w64_succ {i n : Nat} (hi : i < n) (hn : n ≤ 9223372036854775807) : wrap64 ((i : Int) + 1) = ((i + 1 : Nat) : Int) := by
  rw [w64 (by omega) (by omega)]; rfl
theorem rd_nat (l : List Int) (i : Nat) (h : i < l.length) : rd l (i : Int) = l[i] := by
  simp [rd, List.getD_eq_getElem?_getD, List.getElem?_eq_getElem h]
theorem wf_i64 {x : Int} (h : (Lit.int .i64 x).wf = true) : -9223372036854775808 ≤ x ∧ x ≤ 9223372036854775807 := by
  have h' : IntKind.i64.min ≤ x ∧ x ≤ IntKind.i64.max := by simpa [Lit.wf] using h
  exact h'
theorem ev_val {α : Type} {g : Nat → Option α} {r r' : α} (h : Ev g r) (e : r = r') : Ev g r' := e ▸ h
theorem ev_pos {α : Type} {c : Prop} [Decidable c] {g f : Nat → Option α} {r : α} (hc : c) (h : Ev g r) : Ev (fun k => if c then g k else f k) r := by
  simpa [hc] using h
theorem ev_neg {α : Type} {c : Prop} [Decidable c] {g f : Nat → Option α} {r : α} (hc : ¬ c) (h : Ev f r) : Ev (fun k => if c then g k else f k) r := by
  simpa [hc] using h
theorem ev_const {α : Type} {o : Option α} {r : α} (h : o = some r) : Ev (fun _ => o) r := ⟨0, fun _ _ => h⟩
theorem ev_unique {α : Type} {g : Nat → Option α} {r r' : α} (h : Ev g r) (h' : Ev g r') : r = r' := by
  obtain ⟨K, h⟩ := h
  obtain ⟨K', h'⟩ := h'
  have e := h (max K K') (by omega)
  rw [h' (max K K') (by omega)] at e
  exact (Option.some.inj e).symm
theorem take_set_succ {α : Type} {x l : List α} {i : Nat} (hx : i < x.length) (hl : i < l.length) (h : x.take i = l.take i) : (x.set i l[i]).take (i + 1) = l.take (i + 1) := by
  rw [List.take_succ_eq_append_getElem (by simpa using hx), List.take_succ_eq_append_getElem hl, List.getElem_set_self, List.take_set_of_le (Nat.le_refl _), h]
def inB (a lo hi : Int) : Bool := decide (lo ≤ a ∧ a ≤ hi)
theorem inB_true {a lo hi : Int} : inB a lo hi = true ↔ lo ≤ a ∧ a ≤ hi := by simp [inB]
theorem inB_false {a lo hi : Int} : inB a lo hi = false ↔ ¬ (lo ≤ a ∧ a ≤ hi) := by simp [inB]
theorem ev_succ {α : Type} {g : Nat → Option α} {r : α} (h : Ev (fun k => g (k + 1)) r) : Ev g r := Ev.step (fun _ => rfl) h
theorem rd_in {l : List Int} {lo hi : Int} (h : ∀ x ∈ l, lo ≤ x ∧ x ≤ hi) (h0 : lo ≤ 0 ∧ 0 ≤ hi) (i : Int) : lo ≤ rd l i ∧ rd l i ≤ hi := by
  unfold rd
  rw [List.getD_eq_getElem?_getD]
  cases hx : l[i.toNat]? with
  | none => simpa using h0
  | some x => simpa using h x (List.mem_of_getElem? hx)
theorem wf_u8 {x : Int} (h : (Lit.int .u8 x).wf = true) : 0 ≤ x ∧ x ≤ 255 := by
  have h' : IntKind.u8.min ≤ x ∧ x ≤ IntKind.u8.max := by simpa [Lit.wf] using h
  exact h'

/-! ### the draws: a cursor over the bytes of the code -/
def Cur (b : List Int) (i : Int) : Prop := 0 ≤ i ∧ i ≤ (b.length : Int) ∧ b.length ≤ 1048576 ∧ ∀ x ∈ b, 0 ≤ x ∧ x ≤ 255
theorem band_eq (x m : Int) : Go.bits .and .i64 x m = IntKind.i64.wrap ((BitVec.ofInt 64 x &&& BitVec.ofInt 64 m).toNat : Int) := rfl
theorem band_le (x : Int) (m : Nat) (hm : m < 9223372036854775808) : 0 ≤ Go.bits .and .i64 x (m : Int) ∧ Go.bits .and .i64 x (m : Int) ≤ m := by
  rw [band_eq, IntKind.wrap_i64, BitVec.toNat_and]
  have h : (BitVec.ofInt 64 (m : Int)).toNat = m := by
    rw [BitVec.toNat_ofInt]; omega
  rw [h]
  have := Nat.and_le_right (n := (BitVec.ofInt 64 x).toNat) (m := m)
  omega

theorem spec_l1New_l (l : List Int) (hl : l.length ≤ 1048576) : ∀ (d i : Nat) (a : Int), i + d = l.length → ∃ h, Ev (fun k => spec_l1New.l0 k l a (i : Int)) (l, 0, h) := by
  intro d
  induction d with
  | zero =>
    intro i a hi
    refine ⟨a, ev_succ ?_⟩
    simp only [spec_l1New.l0]
    exact ev_neg (by omega) (Ev.now _)
  | succ d ih =>
    intro i a hi
    by_cases h4 : (i : Int) < 4000
    · obtain ⟨h, e⟩ := ih (i + 1) (Go.bits .and .i64 (wrap64 ((wrap64 ((wrap64 (a * 137)) + (wrap64 (rd l (i : Int))))) + 11)) 1073741823) (by omega)
      refine ⟨h, ev_succ ?_⟩
      simp only [spec_l1New.l0]
      rw [w64_succ (n := l.length) (by omega) (by omega)]
      exact ev_pos (by omega) (ev_pos h4 (ev_pos (by omega) e))
    · refine ⟨a, ev_succ ?_⟩
      simp only [spec_l1New.l0]
      exact ev_pos (by omega) (ev_neg h4 (Ev.now _))
theorem spec_l1New_ev (l : List Int) (hl : l.length ≤ 1048576) (hb : ∀ x ∈ l, 0 ≤ x ∧ x ≤ 255) : ∃ h, Ev (fun k => spec_l1New.f k l) (l, 0, h) ∧ Cur l 0 := by
  obtain ⟨h, e⟩ := spec_l1New_l l hl l.length 0 (wrap64 (770770 + (l.length : Int))) (by omega)
  exact ⟨h, e, by unfold Cur; exact ⟨by omega, by omega, hl, hb⟩⟩

theorem spec_l1Byte_ok {b : List Int} {i : Int} (h : Int) (c : Cur b i) : ∃ x i' h', spec_l1Byte.f b i h = some (x, i', h') ∧ Cur b i' ∧ 0 ≤ x ∧ x ≤ 255 := by
  obtain ⟨c0, c1, c2, c3⟩ := c
  unfold spec_l1Byte.f
  by_cases hi : i < (b.length : Int)
  · rw [if_pos hi, if_pos c0, w64 (n := i + 1) (by omega) (by omega)]
    have h1 := band_le (wrap64 ((Go.bits .and .i64 (Go.bits .xor .i64 ((wrap64 ((wrap64 (h * 6364136223846793005)) + 1442695040888963407)) / 8589934592) ((wrap64 ((wrap64 (h * 6364136223846793005)) + 1442695040888963407)) / 140737488355328)) 255) + (wrap64 (rd b i)))) 255 (by omega)
    exact ⟨_, _, _, rfl, ⟨by omega, by omega, c2, c3⟩, h1⟩
  · rw [if_neg hi]
    have h1 := band_le (Go.bits .xor .i64 ((wrap64 ((wrap64 (h * 6364136223846793005)) + 1442695040888963407)) / 8589934592) ((wrap64 ((wrap64 (h * 6364136223846793005)) + 1442695040888963407)) / 140737488355328)) 255 (by omega)
    exact ⟨_, _, _, rfl, ⟨c0, c1, c2, c3⟩, h1⟩

theorem spec_l1Below_ok {b : List Int} {i : Int} (h : Int) (c : Cur b i) (n : Int) : ∃ x i' h', spec_l1Below.f b i h n = some (x, i', h') ∧ Cur b i' ∧ 0 ≤ x ∧ (0 < n → x < n) ∧ (n ≤ 0 → x = 0) := by
  unfold spec_l1Below.f
  by_cases h0 : n ≤ 0
  · rw [if_pos h0]
    exact ⟨_, _, _, rfl, c, by omega, by omega, fun _ => rfl⟩
  rw [if_neg h0]
  by_cases h1 : n ≤ 256
  · rw [if_pos h1]
    obtain ⟨x, i1, h1, e, c1, x0, x1⟩ := spec_l1Byte_ok h c
    rw [e]
    simp only [Option.bind_some]
    rw [if_neg (by omega), Int.tmod_eq_emod_of_nonneg x0]
    exact ⟨_, _, _, rfl, c1, Int.emod_nonneg _ (by omega), fun _ => Int.emod_lt_of_pos _ (by omega), by omega⟩
  · rw [if_neg h1]
    obtain ⟨x, i1, h1, e, c1, x0, x1⟩ := spec_l1Byte_ok h c
    obtain ⟨y, i2, h2, e2, c2, y0, y1⟩ := spec_l1Byte_ok h1 c1
    obtain ⟨z, i3, h3, e3, c3, z0, z1⟩ := spec_l1Byte_ok h2 c2
    rw [e]; simp only [Option.bind_some]
    rw [e2]; simp only [Option.bind_some]
    rw [e3]; simp only [Option.bind_some]
    rw [if_neg (by omega), w64 (n := x * 65536) (by omega) (by omega), w64 (n := y * 256) (by omega) (by omega), w64 (n := x * 65536 + y * 256) (by omega) (by omega), w64 (by omega) (by omega), Int.tmod_eq_emod_of_nonneg (by omega)]
    exact ⟨_, _, _, rfl, c3, Int.emod_nonneg _ (by omega), fun _ => Int.emod_lt_of_pos _ (by omega), by omega⟩

theorem spec_l1Int_ok {b : List Int} {i : Int} (h : Int) (c : Cur b i) (l : List Int) (hl : 0 < l.length) : ∃ x i' h', spec_l1Int.f b i h l = some (x, i', h') ∧ Cur b i' ∧ x ∈ l := by
  unfold spec_l1Int.f
  obtain ⟨x, i1, h1, e, c1, x0, x1, _⟩ := spec_l1Below_ok h c (l.length : Int)
  rw [e]; simp only [Option.bind_some]
  have := x1 (by omega)
  rw [if_pos x0, if_pos this]
  refine ⟨_, _, _, rfl, c1, ?_⟩
  obtain ⟨j, rfl⟩ : ∃ j : Nat, x = j := ⟨x.toNat, by omega⟩
  rw [rd_nat l j (by omega)]
  exact List.getElem_mem _

theorem spec_l1Draw_ok {b : List Int} {i : Int} (h : Int) (c : Cur b i) : ∃ x i' h', spec_l1Draw.f b i h = some (x, i', h') ∧ Cur b i' ∧ 0 ≤ x ∧ x ≤ 65535 := by
  unfold spec_l1Draw.f
  obtain ⟨x, i1, h1, e, c1, hx⟩ := spec_l1Int_ok h c ([0, 1, 2, 7, 255, 256, 4660, 65535] : List Int) (by decide)
  rw [e]; simp only [Option.bind_some]
  refine ⟨_, _, _, rfl, c1, ?_⟩
  simp only [List.mem_cons, List.not_mem_nil, or_false] at hx
  omega

theorem spec_l1Sec_l {b : List Int} : ∀ (n : Nat) (i h : Int) (x : List Int), Cur b i → n + x.length ≤ 100 → (∀ y ∈ x, 0 ≤ y ∧ y ≤ 65535) → ∃ s i' h', Ev (fun k => spec_l1Sec.l0 k x (n : Int) b i h) (s, i', h') ∧ Cur b i' ∧ s.length = n + x.length ∧ ∀ y ∈ s, 0 ≤ y ∧ y ≤ 65535 := by
  intro n
  induction n with
  | zero =>
    intro i h x c hx hb
    refine ⟨x, i, h, ev_succ ?_, c, by omega, hb⟩
    simp only [spec_l1Sec.l0]
    exact ev_neg (by omega) (Ev.now _)
  | succ n ih =>
    intro i h x c hx hb
    obtain ⟨y, i1, h1, e, c1, y0, y1⟩ := spec_l1Draw_ok h c
    obtain ⟨s, i2, h2, e2, c2, sl, sb⟩ := ih i1 h1 (x ++ [y]) c1 (by simp; omega) (fun z hz => by
      rcases List.mem_append.1 hz with hz | hz
      · exact hb z hz
      · simp at hz; subst hz; exact ⟨y0, y1⟩)
    refine ⟨s, i2, h2, ev_succ ?_, c2, by simp at sl; omega, sb⟩
    simp only [spec_l1Sec.l0]
    refine ev_pos (by omega) ?_
    rw [e, w64 (by omega) (by omega), show ((n + 1 : Nat) : Int) - 1 = (n : Int) by omega]
    exact Ev.bind (Ev.now _) (ev_pos (by omega) e2)
theorem spec_l1Sec_ok {b : List Int} {i : Int} (h : Int) (c : Cur b i) : ∃ s i' h', Ev (fun k => spec_l1Sec.f k b i h) (s, i', h') ∧ Cur b i' ∧ s.length ≤ 4 ∧ ∀ y ∈ s, 0 ≤ y ∧ y ≤ 65535 := by
  unfold spec_l1Sec.f
  obtain ⟨x, i1, h1, e, c1, x0, x1, _⟩ := spec_l1Below_ok h c 5
  have := x1 (by omega)
  obtain ⟨j, rfl⟩ : ∃ j : Nat, x = j := ⟨x.toNat, by omega⟩
  obtain ⟨s, i2, h2, e2, c2, sl, sb⟩ := spec_l1Sec_l (b := b) j i1 h1 [] c1 (by simp; omega) (by simp)
  rw [e]
  exact ⟨s, i2, h2, Ev.bind (Ev.now _) e2, c2, by simp at sl; omega, sb⟩

theorem spec_l1Any_ok {b : List Int} {i : Int} (h : Int) (c : Cur b i) : ∃ s i' h', Ev (fun k => spec_l1Any.f k b i h) (s, i', h') ∧ Cur b i' ∧ s.length ≤ 13 ∧ ∀ y ∈ s, -1 ≤ y ∧ y ≤ 65536 := by
  unfold spec_l1Any.f
  obtain ⟨s, i1, h1, e1, c1, sl, sb⟩ := spec_l1Sec_ok h c
  obtain ⟨x, i2, h2, e2, c2, x0, x1, _⟩ := spec_l1Below_ok h1 c1 10
  have := x1 (by omega)
  by_cases a0 : x = 0
  · obtain ⟨y, i3, h3, e3, c3, hy⟩ := spec_l1Int_ok h2 c2 ([(-1), 65536] : List Int) (by decide)
    refine ⟨s ++ [y], i3, h3, Ev.bind e1 (Ev.bind (ev_const e2) (ev_pos a0 (Ev.bind (ev_const e3) (ev_pos (by simp; omega) (Ev.now _))))), c3, by simp; omega, fun z hz => ?_⟩
    simp only [List.mem_cons, List.not_mem_nil, or_false] at hy
    rcases List.mem_append.1 hz with hz | hz
    · have := sb z hz; omega
    · simp at hz; omega
  by_cases a1 : x = 1
  · obtain ⟨y, i3, h3, e3, c3, y0, y1, _⟩ := spec_l1Below_ok h2 c2 2
    have := y1 (by omega)
    refine ⟨List.replicate (12 + y).toNat 0, i3, h3, Ev.bind e1 (Ev.bind (ev_const e2) (ev_neg a0 (ev_pos a1 (Ev.bind (ev_const e3) ?_)))), c3, by simp; omega, fun z hz => by have := (List.mem_replicate.1 hz).2; omega⟩
    simp only
    rw [w64 (by omega) (by omega)]
    exact ev_pos (by omega) (ev_pos (by omega) (Ev.now _))
  · exact ⟨s, i2, h2, Ev.bind e1 (Ev.bind (ev_const e2) (ev_neg a0 (ev_neg a1 (Ev.now _)))), c2, by omega, fun z hz => by have := sb z hz; omega⟩

theorem spec_DrawXorOf_ok (l : List Int) (hl : l.length ≤ 1048576) (hb : ∀ x ∈ l, 0 ≤ x ∧ x ≤ 255) : ∃ s, Ev (fun k => spec_DrawXorOf.f k l) s ∧ s.length ≤ 13 ∧ ∀ y ∈ s, -1 ≤ y ∧ y ≤ 65536 := by
  unfold spec_DrawXorOf.f
  obtain ⟨h, e, c⟩ := spec_l1New_ev l hl hb
  obtain ⟨s, i1, h1, e1, c1, sl, sb⟩ := spec_l1Any_ok h c
  exact ⟨s, Ev.bind e (Ev.bind e1 (Ev.now _)), sl, sb⟩

theorem laws_at_ok (l : List Int) (hl : l.length ≤ 1048576) (hb : ∀ x ∈ l, 0 ≤ x ∧ x ≤ 255) (i : Nat) (hi : i ≤ 100) : ∃ x, laws_at.f l (i : Int) = some x ∧ 0 ≤ x ∧ x ≤ 255 := by
  unfold laws_at.f
  have b := rd_in hb (by omega) (i : Int)
  by_cases h : (i : Int) < (l.length : Int)
  · rw [if_pos h, if_pos (by omega), w64 (by omega) (by omega)]
    exact ⟨_, rfl, b⟩
  · rw [if_neg h, w64 (n := (i : Int) * 31) (by omega) (by omega), w64 (n := (l.length : Int) * 7) (by omega) (by omega), w64 (by omega) (by omega), Int.tmod_eq_emod_of_nonneg (by omega)]
    exact ⟨_, rfl, by omega, by omega⟩

/-! ### xor of 64-bit numbers -/
def W64 (x : Int) : Prop := -9223372036854775808 ≤ x ∧ x ≤ 9223372036854775807
theorem bx_eq (x y : Int) : Go.bits .xor .i64 x y = (BitVec.ofInt 64 x ^^^ BitVec.ofInt 64 y).toInt := by
  have h : Go.bits .xor .i64 x y = IntKind.i64.wrap ((BitVec.ofInt 64 x ^^^ BitVec.ofInt 64 y).toNat : Int) := rfl
  rw [h, IntKind.wrap_i64, BitVec.toInt_eq_toNat_cond]
  have := (BitVec.ofInt 64 x ^^^ BitVec.ofInt 64 y).isLt
  split <;> omega
theorem ofInt_bx (x y : Int) : BitVec.ofInt 64 (Go.bits .xor .i64 x y) = BitVec.ofInt 64 x ^^^ BitVec.ofInt 64 y := by
  rw [bx_eq, BitVec.ofInt_toInt]
theorem toInt_ofInt64 {x : Int} (h : W64 x) : (BitVec.ofInt 64 x).toInt = x := by
  rw [BitVec.toInt_ofInt]
  have := h.1; have := h.2
  rw [Int.bmod_def]
  omega
theorem W64_toInt (v : BitVec 64) : W64 v.toInt := by
  rw [BitVec.toInt_eq_toNat_cond]
  have := v.isLt
  unfold W64
  split <;> omega
theorem W64_bx (x y : Int) : W64 (Go.bits .xor .i64 x y) := by rw [bx_eq]; exact W64_toInt _
theorem W64_zero : W64 0 := by unfold W64; omega
def xorL (a : Int) (l : List Int) : Int := l.foldl (fun x n => Go.bits .xor .i64 x n) a
def xv (l : List Int) : BitVec 64 := l.foldr (fun n v => BitVec.ofInt 64 n ^^^ v) 0
theorem xorL_cons (a n : Int) (l : List Int) : xorL a (n :: l) = xorL (Go.bits .xor .i64 a n) l := rfl
theorem xorL_xv : ∀ (l : List Int) (a : Int), W64 a → xorL a l = (BitVec.ofInt 64 a ^^^ xv l).toInt
  | [], a, h => by show a = _; simp [xv, toInt_ofInt64 h]
  | n :: l, a, h => by
    rw [xorL_cons, xorL_xv l _ (W64_bx a n), ofInt_bx, BitVec.xor_assoc]; rfl
theorem W64_xorL {a : Int} (h : W64 a) (l : List Int) : W64 (xorL a l) := by rw [xorL_xv l a h]; exact W64_toInt _
theorem xor_back (a b : BitVec 64) : (a ^^^ b) ^^^ b = a := by rw [BitVec.xor_assoc, BitVec.xor_self, BitVec.xor_zero]
/-- All but the k-th (i: the place of the first). -/
def skipL : Int → List Int → Nat → Int → Int
  | a, [], _, _ => a
  | a, n :: l, i, k => if (i : Int) = k then skipL a l (i + 1) k else skipL (Go.bits .xor .i64 a n) l (i + 1) k
theorem skipL_out : ∀ (l : List Int) (a : Int) (i : Nat) (k : Int), (k < i ∨ (i : Int) + l.length ≤ k) → skipL a l i k = xorL a l
  | [], a, i, k, _ => rfl
  | n :: l, a, i, k, h => by
    rw [List.length_cons] at h
    rw [skipL, if_neg (by omega), skipL_out l _ (i + 1) k (by omega), xorL_cons]
theorem skip_alg (a n v : BitVec 64) : a ^^^ n ^^^ v ^^^ n = a ^^^ v := by
  rw [BitVec.xor_assoc a, BitVec.xor_comm n, ← BitVec.xor_assoc, xor_back]
theorem skipL_in (l : List Int) : ∀ (a : Int) (i : Nat) (k : Nat), W64 a → (h : k < l.length) → skipL a l i ((i + k : Nat) : Int) = Go.bits .xor .i64 (xorL a l) l[k] := by
  induction l with
  | nil => intro a i k _ h; simp at h
  | cons n l ih =>
    intro a i k w h
    cases k with
    | zero =>
      rw [skipL, if_pos (by omega), skipL_out l a (i + 1) _ (by omega), List.getElem_cons_zero, xorL_cons, bx_eq (xorL _ l), xorL_xv _ _ (W64_bx _ _), BitVec.ofInt_toInt, ofInt_bx, xorL_xv _ _ w, skip_alg]
    | succ k =>
      have h' : k < l.length := by simpa using h
      rw [skipL, if_neg (by omega), show ((i + (k + 1) : Nat) : Int) = ((i + 1 + k : Nat) : Int) by omega, ih _ (i + 1) k (W64_bx _ _) h', xorL_cons, List.getElem_cons_succ]
theorem bx_back {x : Int} (h : W64 x) (n : Int) : Go.bits .xor .i64 (Go.bits .xor .i64 x n) n = x := by
  rw [bx_eq (Go.bits .xor .i64 x n), ofInt_bx, xor_back, toInt_ofInt64 h]
theorem bx_zero {x : Int} (h : W64 x) : Go.bits .xor .i64 0 x = x := by
  rw [bx_eq, show BitVec.ofInt 64 0 = 0 from rfl]
  simp [toInt_ofInt64 h]
theorem xorL_append (a : Int) (l m : List Int) : xorL a (l ++ m) = xorL (xorL a l) m := by simp [xorL]

theorem impl_XorOf_l (l : List Int) (hl : l.length ≤ 9223372036854775807) : ∀ (d i : Nat) (a : Int), i + d = l.length → Ev (fun k => impl_XorOf.l0 k a l (l.length : Int) (i : Int)) (xorL a (l.drop i)) := by
  intro d
  induction d with
  | zero =>
    intro i a hi
    exact Ev.step (f := fun _ => some a) (fun k => by simp only [impl_XorOf.l0]; rw [if_neg (by omega)]) (ev_const (by rw [List.drop_of_length_le (by omega)]; rfl))
  | succ d ih =>
    intro i a hi
    refine Ev.step (f := fun k => impl_XorOf.l0 k (Go.bits .xor .i64 a (l[i]'(by omega))) l (l.length : Int) ((i + 1 : Nat) : Int)) (fun k => ?_) (ev_val (ih (i + 1) _ (by omega)) ?_)
    · simp only [impl_XorOf.l0]
      rw [if_pos (by omega), if_pos (by omega), if_pos (by omega), w64_succ (n := l.length) (by omega) hl, rd_nat l i (by omega)]
    · rw [List.drop_eq_getElem_cons (i := i) (by omega)]; rfl
theorem impl_XorOf_ev (l : List Int) (hl : l.length ≤ 9223372036854775807) : Ev (fun k => impl_XorOf.f k l) (xorL 0 l) := impl_XorOf_l l hl l.length 0 0 (by omega)

theorem spec_l1Once_ok {b : List Int} {i : Int} (h : Int) (c : Cur b i) (n : Int) : ∃ x i' h', spec_l1Once.f b i h n = some (x, i', h') ∧ Cur b i' := by
  unfold spec_l1Once.f
  obtain ⟨x, i1, h1, e, c1, _⟩ := spec_l1Below_ok h c n
  rw [e]
  exact ⟨_, _, _, rfl, c1⟩

theorem spec_DrawSameSec_ok (l : List Int) (hl : l.length ≤ 1048576) (hb : ∀ x ∈ l, 0 ≤ x ∧ x ≤ 255) : ∃ s t, Ev (fun k => spec_DrawSameSec.f k l) (s, t) ∧ s.length ≤ 13 ∧ t.length ≤ 13 := by
  unfold spec_DrawSameSec.f
  obtain ⟨h, e, c⟩ := spec_l1New_ev l hl hb
  obtain ⟨s, i1, h1, e1, c1, sl, sb⟩ := spec_l1Any_ok h c
  obtain ⟨x, i2, h2, e2, c2⟩ := spec_l1Once_ok h1 c1 2
  cases x with
  | true => exact ⟨s, s, Ev.bind e (Ev.bind e1 (Ev.bind (ev_const e2) (ev_pos rfl (Ev.bind (Ev.now _) (ev_pos (by simp; omega) (Ev.now _)))))), sl, sl⟩
  | false =>
    obtain ⟨t, i3, h3, e3, c3, tl, _⟩ := spec_l1Any_ok h2 c2
    exact ⟨s, t, Ev.bind e (Ev.bind e1 (Ev.bind (ev_const e2) (ev_neg (by simp) (Ev.bind e3 (Ev.now _))))), sl, tl⟩

theorem slices_Equal_int_int_l (l m : List Int) (hl : l.length ≤ 9223372036854775807) (he : l.length = m.length) : ∀ (d i : Nat), i + d = l.length → Ev (fun k => slices_Equal_int_int.l0 k l m (l.length : Int) (i : Int)) (decide (l.drop i = m.drop i)) := by
  intro d
  induction d with
  | zero =>
    intro i hi
    exact Ev.step (f := fun _ => some true) (fun k => by simp only [slices_Equal_int_int.l0]; rw [if_neg (by omega)]) (ev_const (by rw [List.drop_of_length_le (by omega), List.drop_of_length_le (by omega)]; rfl))
  | succ d ih =>
    intro i hi
    have e : decide (l.drop i = m.drop i) = (decide (l[i]'(by omega) = m[i]'(by omega)) && decide (l.drop (i + 1) = m.drop (i + 1))) := by
      rw [List.drop_eq_getElem_cons (l := l) (i := i) (by omega), List.drop_eq_getElem_cons (l := m) (i := i) (by omega)]
      simp only [List.cons.injEq, Bool.decide_and]
    rw [e]
    by_cases hb : l[i]'(by omega) = m[i]'(by omega)
    · refine Ev.step (f := fun k => slices_Equal_int_int.l0 k l m (l.length : Int) ((i + 1 : Nat) : Int)) (fun k => ?_) (ev_val (ih (i + 1) (by omega)) (by simp [hb]))
      simp only [slices_Equal_int_int.l0]
      rw [if_pos (by omega), if_pos (by omega), if_pos (by omega), if_pos (by omega), rd_nat l i (by omega), rd_nat m i (by omega), if_pos hb, w64_succ (n := l.length) (by omega) hl]
    · refine Ev.step (f := fun _ => some false) (fun k => ?_) (ev_const (by simp [hb]))
      simp only [slices_Equal_int_int.l0]
      rw [if_pos (by omega), if_pos (by omega), if_pos (by omega), if_pos (by omega), rd_nat l i (by omega), rd_nat m i (by omega), if_neg hb]
theorem slices_Equal_int_int_ev (l m : List Int) (hl : l.length ≤ 9223372036854775807) : Ev (fun k => slices_Equal_int_int.f k l m) (decide (l = m)) := by
  unfold slices_Equal_int_int.f
  by_cases he : (l.length : Int) = (m.length : Int)
  · exact ev_pos he (slices_Equal_int_int_l l m hl (by omega) l.length 0 (by omega))
  · refine ev_neg he (ev_const ?_)
    have : ¬ l = m := fun e => he (by rw [e])
    simp [this]

theorem impl_SameSec_ev (l m : List Int) (hl : l.length ≤ 9223372036854775807) : Ev (fun k => impl_SameSec.f k l m) (decide (l = m)) := by
  unfold impl_SameSec.f
  exact Ev.bind (slices_Equal_int_int_ev l m hl) (Ev.now _)

theorem laws_sameInts_l (l m : List Int) (hl : l.length ≤ 9223372036854775807) (he : l.length = m.length) : ∀ (d i : Nat), i + d = l.length → Ev (fun k => laws_sameInts.l0 k l m (i : Int)) (decide (l.drop i = m.drop i)) := by
  intro d
  induction d with
  | zero =>
    intro i hi
    exact Ev.step (f := fun _ => some true) (fun k => by simp only [laws_sameInts.l0]; rw [if_neg (by omega)]) (ev_const (by rw [List.drop_of_length_le (by omega), List.drop_of_length_le (by omega)]; rfl))
  | succ d ih =>
    intro i hi
    have e : decide (l.drop i = m.drop i) = (decide (l[i]'(by omega) = m[i]'(by omega)) && decide (l.drop (i + 1) = m.drop (i + 1))) := by
      rw [List.drop_eq_getElem_cons (l := l) (i := i) (by omega), List.drop_eq_getElem_cons (l := m) (i := i) (by omega)]
      simp only [List.cons.injEq, Bool.decide_and]
    rw [e]
    by_cases hb : l[i]'(by omega) = m[i]'(by omega)
    · refine Ev.step (f := fun k => laws_sameInts.l0 k l m ((i + 1 : Nat) : Int)) (fun k => ?_) (ev_val (ih (i + 1) (by omega)) (by simp [hb]))
      simp only [laws_sameInts.l0]
      rw [if_pos (by omega), if_pos (by omega), if_pos (by omega), rd_nat l i (by omega), rd_nat m i (by omega), if_pos hb, w64_succ (n := l.length) (by omega) hl]
    · refine Ev.step (f := fun _ => some false) (fun k => ?_) (ev_const (by simp [hb]))
      simp only [laws_sameInts.l0]
      rw [if_pos (by omega), if_pos (by omega), if_pos (by omega), rd_nat l i (by omega), rd_nat m i (by omega), if_neg hb]
theorem laws_sameInts_ev (l m : List Int) (hl : l.length ≤ 9223372036854775807) : Ev (fun k => laws_sameInts.f k l m) (decide (l = m)) := by
  unfold laws_sameInts.f
  by_cases he : (l.length : Int) = (m.length : Int)
  · exact ev_pos he (laws_sameInts_l l m hl (by omega) l.length 0 (by omega))
  · refine ev_neg he (ev_const ?_)
    have : ¬ l = m := fun e => he (by rw [e])
    simp [this]

theorem impl_ParityWord_ev (l : List Int) (hl : l.length ≤ 9223372036854775807) : Ev (fun k => impl_ParityWord.f k l) (xorL 0 l) := by
  unfold impl_ParityWord.f
  exact Ev.bind (impl_XorOf_ev l hl) (Ev.now _)

theorem impl_within_eq (a lo hi : Int) : impl_within.f a lo hi = some (inB a lo hi) := by
  unfold impl_within.f inB
  split
  · congr 1; simp; omega
  · congr 1; simp; omega

theorem impl_MissingWord_ev (l : List Int) (q : Int) (hl : l.length ≤ 9223372036854775807) : Ev (fun k => impl_MissingWord.f k l q) (skipL 0 l 0 q) := by
  unfold impl_MissingWord.f
  refine Ev.bind (impl_XorOf_ev l hl) ?_
  rw [impl_within_eq, w64 (by omega) (by omega)]
  by_cases h : 0 ≤ q ∧ q ≤ (l.length : Int) - 1
  · obtain ⟨j, rfl⟩ : ∃ j : Nat, q = j := ⟨q.toNat, by omega⟩
    rw [inB_true.2 h]
    refine Ev.bind (Ev.now true) (ev_pos rfl (ev_pos (by omega) (ev_pos (by omega) (ev_const ?_))))
    rw [rd_nat l j (by omega), ← skipL_in l 0 0 j W64_zero (by omega), Nat.zero_add]
  · rw [inB_false.2 h]
    refine Ev.bind (Ev.now false) (ev_neg (by simp) (ev_const ?_))
    rw [skipL_out l 0 0 q (by omega)]

theorem FnXors : ∀ (l0 : List (Int)), (l0.length ≤ maxLen ∧ ∀ y ∈ l0, (Lit.int .u8 y).wf = true) → ∃ k, laws_FnXors.f k l0 = some true := by
  intro l hl0
  refine Ev.rounds (r := true) ?_
  have hb : ∀ x ∈ l, 0 ≤ x ∧ x ≤ 255 := fun x hx => wf_u8 (hl0.2 x hx)
  unfold laws_FnXors.f laws_big.f
  by_cases h : (l.length : Int) > 1048576
  · exact Ev.bind (Ev.now _) (ev_pos (decide_eq_true h) (Ev.now _))
  have hl : l.length ≤ 1048576 := by omega
  obtain ⟨s, es, sl, sb⟩ := spec_DrawXorOf_ok l hl hb
  obtain ⟨x2, e2, b2⟩ := laws_at_ok l hl hb 2 (by omega)
  obtain ⟨x3, e3, b3⟩ := laws_at_ok l hl hb 3 (by omega)
  obtain ⟨u, v, eu, ul, vl⟩ := spec_DrawSameSec_ok l hl hb
  refine Ev.bind (Ev.now _) (ev_neg (by simp; omega) (Ev.bind es (Ev.bind (ev_const e2) (Ev.bind (ev_const e3) ?_))))
  rw [w64 (n := x2 * 256) (by omega) (by omega), w64 (n := x2 * 256 + x3) (by omega) (by omega)]
  generalize hn : x2 * 256 + x3 = n
  have wn : W64 n := by unfold W64; omega
  have ws := W64_xorL W64_zero s
  have hx := impl_XorOf_ev s (by omega)
  refine Ev.bind (Ev.now _) (ev_pos (by simp; omega) (Ev.bind (Ev.now _) (Ev.bind (Ev.now _) (ev_pos (by simp; omega) (Ev.bind (impl_XorOf_ev _ (by simp; omega)) (Ev.bind eu (Ev.bind hx (ev_pos ?_ (Ev.bind (impl_SameSec_ev u v (by omega)) (Ev.bind (laws_sameInts_ev u v (by omega)) (ev_neg (by simp) (Ev.bind (impl_ParityWord_ev s (by omega)) (Ev.bind hx (ev_succ ?_))))))))))))))
  · rw [List.nil_append, xorL_append]
    exact bx_back ws n
  simp only [laws_FnXors.j0]
  refine ev_neg (by simp) ?_
  have key : ∀ (d i : Nat), i + d = s.length → Ev (fun k => laws_FnXors.l0 k s n (i : Int)) true := by
    intro d
    induction d with
    | zero =>
      intro i hi
      refine ev_succ ?_
      simp only [laws_FnXors.l0]
      refine ev_neg (by omega) (Ev.bind (impl_XorOf_ev [n] (by simp)) (ev_const ?_))
      have : xorL 0 [n] = n := bx_zero wn
      rw [this]; simp
    | succ d ih =>
      intro i hi
      refine ev_succ ?_
      simp only [laws_FnXors.l0]
      refine ev_pos (by omega) (Ev.bind (impl_MissingWord_ev s (i : Int) (by omega)) (ev_pos (by omega) (Ev.bind hx (ev_pos ?_ ?_))))
      · have := skipL_in s 0 0 i W64_zero (by omega)
        rw [Nat.zero_add] at this
        rw [this, rd_nat s i (by omega), bx_back ws]
      · rw [w64_succ (n := s.length) (by omega) (by omega)]
        exact ih (i + 1) (by omega)
  exact key s.length 0 (by omega)

end Go.Proofs.Ytmhhehklcfkapab.Pure
