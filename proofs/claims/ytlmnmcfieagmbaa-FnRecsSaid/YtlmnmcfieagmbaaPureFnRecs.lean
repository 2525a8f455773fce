/- FnRecs: for every input that the print speaks of the law comes to true, as plain numbers and lists. Conditions: none beyond those that the printed statement names. -/
import Derived.Test.YtlmnmcfieagmbaaQFnRecsx7

namespace Go.Proofs.Ytlmnmcfieagmbaa.Pure
open Go.RowKit Go.Proofs.Ytlmnmcfieagmbaa.PFnRecs Go.Proofs.YtlmnmcfieagmbaaW.PrintWords Go.Proofs.YtlmnmcfieagmbaaW.PrintLast
set_option linter.unusedVariables false
set_option linter.unusedSimpArgs false

/-! ### small laws: numbers, lists, rounds -/
theorem w64 {n : Int} (h0 : -9223372036854775808 ≤ n) (h1 : n ≤ 9223372036854775807) : wrap64 n = n := by unfold wrap64; omega
theorem w64_succ {i n : Nat} (hi : i < n) (hn : n ≤ 9223372036854775807) : wrap64 ((i : Int) + 1) = ((i + 1 : Nat) : Int) := by
  rw [w64 (by omega) (by omega)]; rfl
theorem rd_nat (l : List Int) (i : Nat) (h : i < l.length) : rd l (i : Int) = l[i] := by
  simp [rd, List.getD_eq_getElem?_getD, List.getElem?_eq_getElem h]
theorem wf_i64 {x : Int} (h : (Lit.int .i64 x).wf = true) : -9223372036854775808 ≤ x ∧ x ≤ 9223372036854775807 := by
  have h' : IntKind.i64.min ≤ x ∧ x ≤ IntKind.i64.max := by simpa [Lit.wf] using h
  exact h'
theorem ev_val {α : Type} {g : Nat → Option α} {r r' : α} (h : Ev g r) (e : r = r') : Ev g r' := e ▸ h
theorem ev_pos {α : Type} {c : Prop} [Decidable c] {g f : Nat → Option α} {r : α} (hc : c) (h : Ev g r) : Ev (fun k => if c then g k else f k) r := by
  simpa [hc] using h
theorem ev_neg {α : Type} {c : Prop} [Decidable c] {g f : Nat → Option α} {r : α} (hc : ¬ c) (h : Ev f r) : Ev (fun k => if c then g k else f k) r := by
  simpa [hc] using h
theorem ev_const {α : Type} {o : Option α} {r : α} (h : o = some r) : Ev (fun _ => o) r := ⟨0, fun _ _ => h⟩
theorem ev_unique {α : Type} {g : Nat → Option α} {r r' : α} (h : Ev g r) (h' : Ev g r') : r = r' := by
  obtain ⟨K, h⟩ := h
  obtain ⟨K', h'⟩ := h'
  have e := h (max K K') (by omega)
  rw [h' (max K K') (by omega)] at e
  exact (Option.some.inj e).symm
theorem take_set_succ {α : Type} {x l : List α} {i : Nat} (hx : i < x.length) (hl : i < l.length) (h : x.take i = l.take i) : (x.set i l[i]).take (i + 1) = l.take (i + 1) := by
  rw [List.take_succ_eq_append_getElem (by simpa using hx), List.take_succ_eq_append_getElem hl, List.getElem_set_self, List.take_set_of_le (Nat.le_refl _), h]
def inB (a lo hi : Int) : Bool := decide (lo ≤ a ∧ a ≤ hi)
theorem inB_true {a lo hi : Int} : inB a lo hi = true ↔ lo ≤ a ∧ a ≤ hi := by simp [inB]
theorem inB_false {a lo hi : Int} : inB a lo hi = false ↔ ¬ (lo ≤ a ∧ a ≤ hi) := by simp [inB]
theorem ev_succ {α : Type} {g : Nat → Option α} {r : α} (h : Ev (fun k => g (k + 1)) r) : Ev g r := Ev.step (fun _ => rfl) h
theorem rd_in {l : List Int} {lo hi : Int} (h : ∀ x ∈ l, lo ≤ x ∧ x ≤ hi) (h0 : lo ≤ 0 ∧ 0 ≤ hi) (i : Int) : lo ≤ rd l i ∧ rd l i ≤ hi := by
  unfold rd
  rw [List.getD_eq_getElem?_getD]
  cases hx : l[i.toNat]? with
  | none => simpa using h0
  | some x => simpa using h x (List.mem_of_getElem? hx)
theorem wf_u8 {x : Int} (h : (Lit.int .u8 x).wf = true) : 0 ≤ x ∧ x ≤ 255 := by
  have h' : IntKind.u8.min ≤ x ∧ x ≤ IntKind.u8.max := by simpa [Lit.wf] using h
  exact h'

/-! ### the journal -/
def recB (seq st : Int) (l : List Int) : Bool := inB seq 0 60000 && inB st 0 7 && inB (l.length : Int) 2 4 && l.all (inB · 0 65535)

def getRecB (l : List Int) : Bool := decide (4 ≤ l.length ∧ rd l 0 = 21322 ∧ rd l 3 = (l.length : Int) - 4) && recB (rd l 1) (rd l 2) (l.drop 4)
def getRecV (l : List Int) : Int × Int × List Int × Bool := if getRecB l = true then (rd l 1, rd l 2, l.drop 4, true) else (0, 0, [], false)

def secB (l : List Int) : Bool := decide (l.length ≤ 12) && l.all (inB · 0 65535)
/-! ### a sector's bytes -/
def secW (l : List Int) (at_ : Nat) (n : Nat) : List Int := (List.range n).map (fun (j : Nat) => rd l ((at_ + 1 + 2 * j : Nat) : Int) * 256 + rd l ((at_ + 2 + 2 * j : Nat) : Int))
theorem secW_length (l : List Int) (a n : Nat) : (secW l a n).length = n := by simp [secW]
theorem secW_succ (l : List Int) (a n : Nat) : secW l a (n + 1) = secW l a n ++ [rd l ((a + 1 + 2 * n : Nat) : Int) * 256 + rd l ((a + 2 + 2 * n : Nat) : Int)] := by simp [secW, List.range_succ]
def getSecB (l : List Int) (a : Int) : Bool := decide (0 ≤ a ∧ a < (l.length : Int) ∧ rd l a ≤ 12 ∧ a + 1 + 2 * rd l a ≤ (l.length : Int))
def getSecV (l : List Int) (a : Int) : List Int × Int × Bool := if getSecB l a = true then (secW l a.toNat (rd l a).toNat, a + 1 + 2 * rd l a, true) else ([], 0, false)
theorem byte_join {h l : Int} (h0 : 0 ≤ h ∧ h ≤ 255) (l0 : 0 ≤ l ∧ l ≤ 255) : Go.bits .or .i64 (h * 256) l = h * 256 + l := by
  have w : ∀ n : Int, 0 ≤ n → n < 2 ^ 16 → IntKind.i64.wrap n = n := by
    intro n h1 h2
    rw [IntKind.wrap_i64]
    have : (2 : Int) ^ 16 = 65536 := by decide
    omega
  have e16 : (2 : Int) ^ 16 = 65536 := by decide
  have e8 : (2 : Int) ^ 8 = 256 := by decide
  exact bits_join .i64 16 (by decide) w 8 (h * 256) l (by omega) (by omega) (by omega) (by omega) (by omega) (by omega)

theorem laws_big_eq (l : List Int) : laws_big.f l = some (decide ((l.length : Int) > 1048576)) := rfl

theorem laws_sameInts_l (l m : List Int) (hl : l.length ≤ 9223372036854775807) (he : l.length = m.length) : ∀ (d i : Nat), i + d = l.length → Ev (fun k => laws_sameInts.l0 k l m (i : Int)) (decide (l.drop i = m.drop i)) := by
  intro d
  induction d with
  | zero =>
    intro i hi
    exact Ev.step (f := fun _ => some true) (fun k => by simp only [laws_sameInts.l0]; rw [if_neg (by omega)]) (ev_const (by rw [List.drop_of_length_le (by omega), List.drop_of_length_le (by omega)]; rfl))
  | succ d ih =>
    intro i hi
    have e : decide (l.drop i = m.drop i) = (decide (l[i]'(by omega) = m[i]'(by omega)) && decide (l.drop (i + 1) = m.drop (i + 1))) := by
      rw [List.drop_eq_getElem_cons (l := l) (i := i) (by omega), List.drop_eq_getElem_cons (l := m) (i := i) (by omega)]
      simp only [List.cons.injEq, Bool.decide_and]
    rw [e]
    by_cases hb : l[i]'(by omega) = m[i]'(by omega)
    · refine Ev.step (f := fun k => laws_sameInts.l0 k l m ((i + 1 : Nat) : Int)) (fun k => ?_) (ev_val (ih (i + 1) (by omega)) (by simp [hb]))
      simp only [laws_sameInts.l0]
      rw [if_pos (by omega), if_pos (by omega), if_pos (by omega), rd_nat l i (by omega), rd_nat m i (by omega), if_pos hb, w64_succ (n := l.length) (by omega) hl]
    · refine Ev.step (f := fun _ => some false) (fun k => ?_) (ev_const (by simp [hb]))
      simp only [laws_sameInts.l0]
      rw [if_pos (by omega), if_pos (by omega), if_pos (by omega), rd_nat l i (by omega), rd_nat m i (by omega), if_neg hb]
theorem laws_sameInts_ev (l m : List Int) (hl : l.length ≤ 9223372036854775807) : Ev (fun k => laws_sameInts.f k l m) (decide (l = m)) := by
  unfold laws_sameInts.f
  by_cases he : (l.length : Int) = (m.length : Int)
  · exact ev_pos he (laws_sameInts_l l m hl (by omega) l.length 0 (by omega))
  · refine ev_neg he (ev_const ?_)
    have : ¬ l = m := fun e => he (by rw [e])
    simp [this]

theorem laws_at_ok (l : List Int) (hl : l.length ≤ 1048576) (hb : ∀ x ∈ l, 0 ≤ x ∧ x ≤ 255) (i : Nat) (hi : i ≤ 100) : ∃ x, laws_at.f l (i : Int) = some x ∧ 0 ≤ x ∧ x ≤ 255 := by
  unfold laws_at.f
  have b := rd_in hb (by omega) (i : Int)
  by_cases h : (i : Int) < (l.length : Int)
  · rw [if_pos h, if_pos (by omega), w64 (by omega) (by omega)]
    exact ⟨_, rfl, b⟩
  · rw [if_neg h, w64 (n := (i : Int) * 31) (by omega) (by omega), w64 (n := (l.length : Int) * 7) (by omega) (by omega), w64 (by omega) (by omega), Int.tmod_eq_emod_of_nonneg (by omega)]
    exact ⟨_, rfl, by omega, by omega⟩

/-! ### the draws: a cursor over the bytes of the code -/
def Cur (b : List Int) (i : Int) : Prop := 0 ≤ i ∧ i ≤ (b.length : Int) ∧ b.length ≤ 1048576 ∧ ∀ x ∈ b, 0 ≤ x ∧ x ≤ 255
theorem band_eq (x m : Int) : Go.bits .and .i64 x m = IntKind.i64.wrap ((BitVec.ofInt 64 x &&& BitVec.ofInt 64 m).toNat : Int) := rfl
theorem band_le (x : Int) (m : Nat) (hm : m < 9223372036854775808) : 0 ≤ Go.bits .and .i64 x (m : Int) ∧ Go.bits .and .i64 x (m : Int) ≤ m := by
  rw [band_eq, IntKind.wrap_i64, BitVec.toNat_and]
  have h : (BitVec.ofInt 64 (m : Int)).toNat = m := by
    rw [BitVec.toNat_ofInt]; omega
  rw [h]
  have := Nat.and_le_right (n := (BitVec.ofInt 64 x).toNat) (m := m)
  omega

theorem spec_l1New_l (l : List Int) (hl : l.length ≤ 1048576) : ∀ (d i : Nat) (a : Int), i + d = l.length → ∃ h, Ev (fun k => spec_l1New.l0 k l a (i : Int)) (l, 0, h) := by
  intro d
  induction d with
  | zero =>
    intro i a hi
    refine ⟨a, ev_succ ?_⟩
    simp only [spec_l1New.l0]
    exact ev_neg (by omega) (Ev.now _)
  | succ d ih =>
    intro i a hi
    by_cases h4 : (i : Int) < 4000
    · obtain ⟨h, e⟩ := ih (i + 1) (Go.bits .and .i64 (wrap64 ((wrap64 ((wrap64 (a * 137)) + (wrap64 (rd l (i : Int))))) + 11)) 1073741823) (by omega)
      refine ⟨h, ev_succ ?_⟩
      simp only [spec_l1New.l0]
      rw [w64_succ (n := l.length) (by omega) (by omega)]
      exact ev_pos (by omega) (ev_pos h4 (ev_pos (by omega) e))
    · refine ⟨a, ev_succ ?_⟩
      simp only [spec_l1New.l0]
      exact ev_pos (by omega) (ev_neg h4 (Ev.now _))
theorem spec_l1New_ev (l : List Int) (hl : l.length ≤ 1048576) (hb : ∀ x ∈ l, 0 ≤ x ∧ x ≤ 255) : ∃ h, Ev (fun k => spec_l1New.f k l) (l, 0, h) ∧ Cur l 0 := by
  obtain ⟨h, e⟩ := spec_l1New_l l hl l.length 0 (wrap64 (770770 + (l.length : Int))) (by omega)
  exact ⟨h, e, by unfold Cur; exact ⟨by omega, by omega, hl, hb⟩⟩

theorem spec_l1Byte_ok {b : List Int} {i : Int} (h : Int) (c : Cur b i) : ∃ x i' h', spec_l1Byte.f b i h = some (x, i', h') ∧ Cur b i' ∧ 0 ≤ x ∧ x ≤ 255 := by
  obtain ⟨c0, c1, c2, c3⟩ := c
  unfold spec_l1Byte.f
  by_cases hi : i < (b.length : Int)
  · rw [if_pos hi, if_pos c0, w64 (n := i + 1) (by omega) (by omega)]
    have h1 := band_le (wrap64 ((Go.bits .and .i64 (Go.bits .xor .i64 ((wrap64 ((wrap64 (h * 6364136223846793005)) + 1442695040888963407)) / 8589934592) ((wrap64 ((wrap64 (h * 6364136223846793005)) + 1442695040888963407)) / 140737488355328)) 255) + (wrap64 (rd b i)))) 255 (by omega)
    exact ⟨_, _, _, rfl, ⟨by omega, by omega, c2, c3⟩, h1⟩
  · rw [if_neg hi]
    have h1 := band_le (Go.bits .xor .i64 ((wrap64 ((wrap64 (h * 6364136223846793005)) + 1442695040888963407)) / 8589934592) ((wrap64 ((wrap64 (h * 6364136223846793005)) + 1442695040888963407)) / 140737488355328)) 255 (by omega)
    exact ⟨_, _, _, rfl, ⟨c0, c1, c2, c3⟩, h1⟩

theorem spec_l1Below_ok {b : List Int} {i : Int} (h : Int) (c : Cur b i) (n : Int) : ∃ x i' h', spec_l1Below.f b i h n = some (x, i', h') ∧ Cur b i' ∧ 0 ≤ x ∧ (0 < n → x < n) ∧ (n ≤ 0 → x = 0) := by
  unfold spec_l1Below.f
  by_cases h0 : n ≤ 0
  · rw [if_pos h0]
    exact ⟨_, _, _, rfl, c, by omega, by omega, fun _ => rfl⟩
  rw [if_neg h0]
  by_cases h1 : n ≤ 256
  · rw [if_pos h1]
    obtain ⟨x, i1, h1, e, c1, x0, x1⟩ := spec_l1Byte_ok h c
    rw [e]
    simp only [Option.bind_some]
    rw [if_neg (by omega), Int.tmod_eq_emod_of_nonneg x0]
    exact ⟨_, _, _, rfl, c1, Int.emod_nonneg _ (by omega), fun _ => Int.emod_lt_of_pos _ (by omega), by omega⟩
  · rw [if_neg h1]
    obtain ⟨x, i1, h1, e, c1, x0, x1⟩ := spec_l1Byte_ok h c
    obtain ⟨y, i2, h2, e2, c2, y0, y1⟩ := spec_l1Byte_ok h1 c1
    obtain ⟨z, i3, h3, e3, c3, z0, z1⟩ := spec_l1Byte_ok h2 c2
    rw [e]; simp only [Option.bind_some]
    rw [e2]; simp only [Option.bind_some]
    rw [e3]; simp only [Option.bind_some]
    rw [if_neg (by omega), w64 (n := x * 65536) (by omega) (by omega), w64 (n := y * 256) (by omega) (by omega), w64 (n := x * 65536 + y * 256) (by omega) (by omega), w64 (by omega) (by omega), Int.tmod_eq_emod_of_nonneg (by omega)]
    exact ⟨_, _, _, rfl, c3, Int.emod_nonneg _ (by omega), fun _ => Int.emod_lt_of_pos _ (by omega), by omega⟩

theorem spec_l1Int_ok {b : List Int} {i : Int} (h : Int) (c : Cur b i) (l : List Int) (hl : 0 < l.length) : ∃ x i' h', spec_l1Int.f b i h l = some (x, i', h') ∧ Cur b i' ∧ x ∈ l := by
  unfold spec_l1Int.f
  obtain ⟨x, i1, h1, e, c1, x0, x1, _⟩ := spec_l1Below_ok h c (l.length : Int)
  rw [e]; simp only [Option.bind_some]
  have := x1 (by omega)
  rw [if_pos x0, if_pos this]
  refine ⟨_, _, _, rfl, c1, ?_⟩
  obtain ⟨j, rfl⟩ : ∃ j : Nat, x = j := ⟨x.toNat, by omega⟩
  rw [rd_nat l j (by omega)]
  exact List.getElem_mem _

theorem spec_l1Draw_ok {b : List Int} {i : Int} (h : Int) (c : Cur b i) : ∃ x i' h', spec_l1Draw.f b i h = some (x, i', h') ∧ Cur b i' ∧ 0 ≤ x ∧ x ≤ 65535 := by
  unfold spec_l1Draw.f
  obtain ⟨x, i1, h1, e, c1, hx⟩ := spec_l1Int_ok h c ([0, 1, 2, 7, 255, 256, 4660, 65535] : List Int) (by decide)
  rw [e]; simp only [Option.bind_some]
  refine ⟨_, _, _, rfl, c1, ?_⟩
  simp only [List.mem_cons, List.not_mem_nil, or_false] at hx
  omega

theorem spec_l5Draw_l {b : List Int} (q t : Int) : ∀ (n : Nat) (i h : Int) (x : List Int), Cur b i → n + x.length ≤ 100 → (∀ y ∈ x, 0 ≤ y ∧ y ≤ 65535) → ∃ s i' h', Ev (fun k => spec_l5Draw.l0 k (n : Int) b i h q t x) (q, t, s, i', h') ∧ Cur b i' ∧ s.length = n + x.length ∧ ∀ y ∈ s, 0 ≤ y ∧ y ≤ 65535 := by
  intro n
  induction n with
  | zero =>
    intro i h x c hx hb
    refine ⟨x, i, h, ev_succ ?_, c, by omega, hb⟩
    simp only [spec_l5Draw.l0]
    exact ev_neg (by omega) (Ev.now _)
  | succ n ih =>
    intro i h x c hx hb
    obtain ⟨y, i1, h1, e, c1, y0, y1⟩ := spec_l1Draw_ok h c
    obtain ⟨s, i2, h2, e2, c2, sl, sb⟩ := ih i1 h1 (x ++ [y]) c1 (by simp; omega) (fun z hz => by
      rcases List.mem_append.1 hz with hz | hz
      · exact hb z hz
      · simp at hz; subst hz; exact ⟨y0, y1⟩)
    refine ⟨s, i2, h2, ev_succ ?_, c2, by simp at sl; omega, sb⟩
    simp only [spec_l5Draw.l0]
    refine ev_pos (by omega) ?_
    rw [e, w64 (by omega) (by omega), show ((n + 1 : Nat) : Int) - 1 = (n : Int) by omega]
    exact Ev.bind (Ev.now _) (ev_pos (by omega) e2)
theorem spec_l5Draw_ok {b : List Int} {i : Int} (h : Int) (c : Cur b i) : ∃ q t s i' h', Ev (fun k => spec_l5Draw.f k b i h) (q, t, s, i', h') ∧ Cur b i' ∧ recB q t s = true ∧ s.length ≤ 4 ∧ 2 ≤ s.length := by
  unfold spec_l5Draw.f
  obtain ⟨q, i1, h1, e1, c1, hq⟩ := spec_l1Int_ok h c ([0, 1, 4, 7, 60000] : List Int) (by decide)
  obtain ⟨t, i2, h2, e2, c2, t0, t1, _⟩ := spec_l1Below_ok h1 c1 8
  obtain ⟨x, i3, h3, e3, c3, x0, x1, _⟩ := spec_l1Below_ok h2 c2 3
  have := t1 (by omega)
  have := x1 (by omega)
  obtain ⟨j, rfl⟩ : ∃ j : Nat, x = j := ⟨x.toNat, by omega⟩
  obtain ⟨s, i4, h4, e4, c4, sl, sb⟩ := spec_l5Draw_l (b := b) q t (2 + j) i3 h3 [] c3 (by simp; omega) (by simp)
  simp only [List.length_nil, Nat.add_zero] at sl
  refine ⟨q, t, s, i4, h4, Ev.bind (ev_const e1) (Ev.bind (ev_const e2) (Ev.bind (ev_const e3) ?_)), c4, ?_, by omega, by omega⟩
  · simp only
    rw [w64 (by omega) (by omega)]
    exact e4
  · simp only [List.mem_cons, List.not_mem_nil, or_false] at hq
    simp only [recB, Bool.and_eq_true, inB_true, List.all_eq_true]
    exact ⟨⟨⟨by omega, by omega⟩, by omega⟩, fun y hy => by have := sb y hy; omega⟩

theorem spec_l5Any_ok {b : List Int} {i : Int} (h : Int) (c : Cur b i) : ∃ q t s i' h', Ev (fun k => spec_l5Any.f k b i h) (q, t, s, i', h') ∧ Cur b i' ∧ s.length ≤ 5 := by
  unfold spec_l5Any.f
  obtain ⟨q, t, s, i1, h1, e1, c1, hr, s4, s2⟩ := spec_l5Draw_ok h c
  obtain ⟨x, i2, h2, e2, c2, x0, x1, _⟩ := spec_l1Below_ok h1 c1 10
  obtain ⟨u0, i3, h3, e3, c3, _⟩ := spec_l1Int_ok h2 c2 ([(-1), 60001] : List Int) (by decide)
  obtain ⟨u1, i4, h4, e4, c4, _⟩ := spec_l1Int_ok h2 c2 ([(-1), 8] : List Int) (by decide)
  obtain ⟨u2, i5, h5, e5, c5, _⟩ := spec_l1Int_ok h2 c2 ([(-1), 5, 65536] : List Int) (by decide)
  by_cases a0 : x = 0
  · exact ⟨_, _, _, _, _, Ev.bind e1 (Ev.bind (ev_const e2) (ev_pos a0 (Ev.bind (ev_const e3) (Ev.now _)))), c3, by simp only; omega⟩
  by_cases a1 : x = 1
  · exact ⟨_, _, _, _, _, Ev.bind e1 (Ev.bind (ev_const e2) (ev_neg a0 (ev_pos a1 (Ev.bind (ev_const e4) (Ev.now _))))), c4, by simp only; omega⟩
  by_cases a2 : x = 2
  · exact ⟨_, _, _, _, _, Ev.bind e1 (Ev.bind (ev_const e2) (ev_neg a0 (ev_neg a1 (ev_pos a2 (Ev.bind (ev_const e5) (ev_pos (by simp only; omega) (Ev.now _))))))), c5, by simp; omega⟩
  by_cases a3 : x = 3
  · exact ⟨_, _, _, _, _, Ev.bind e1 (Ev.bind (ev_const e2) (ev_neg a0 (ev_neg a1 (ev_neg a2 (ev_pos a3 (ev_pos (by simp only; omega) (Ev.now _))))))), c2, by simp; omega⟩
  · exact ⟨_, _, _, _, _, Ev.bind e1 (Ev.bind (ev_const e2) (ev_neg a0 (ev_neg a1 (ev_neg a2 (ev_neg a3 (Ev.now _)))))), c2, by simp only; omega⟩

theorem spec_DrawPutRec_ok (l : List Int) (hl : l.length ≤ 1048576) (hb : ∀ x ∈ l, 0 ≤ x ∧ x ≤ 255) : ∃ q t s, Ev (fun k => spec_DrawPutRec.f k l) (q, t, s) ∧ s.length ≤ 5 := by
  unfold spec_DrawPutRec.f
  obtain ⟨h, e, c⟩ := spec_l1New_ev l hl hb
  obtain ⟨q, t, s, i1, h1, e1, c1, sl⟩ := spec_l5Any_ok h c
  exact ⟨q, t, s, Ev.bind e (Ev.bind e1 (Ev.now _)), sl⟩

theorem impl_within_eq (a lo hi : Int) : impl_within.f a lo hi = some (inB a lo hi) := by
  unfold impl_within.f inB
  split
  · congr 1; simp; omega
  · congr 1; simp; omega

theorem impl_isWord_eq (a : Int) : impl_isWord.f a = some (inB a 0 65535) := by
  unfold impl_isWord.f
  rw [impl_within_eq]; rfl

theorem impl_wordsOk_l (l : List Int) (hl : l.length ≤ 9223372036854775807) : ∀ (d i : Nat), i + d = l.length → Ev (fun k => impl_wordsOk.l0 k l (l.length : Int) (i : Int)) ((l.drop i).all (inB · 0 65535)) := by
  intro d
  induction d with
  | zero =>
    intro i hi
    exact Ev.step (f := fun _ => some true) (fun k => by simp only [impl_wordsOk.l0]; rw [if_neg (by omega)]) (ev_const (by rw [List.drop_of_length_le (by omega)]; rfl))
  | succ d ih =>
    intro i hi
    rw [List.drop_eq_getElem_cons (i := i) (by omega), List.all_cons]
    cases hb : inB (l[i]'(by omega)) 0 65535 with
    | true =>
      refine Ev.step (f := fun k => impl_wordsOk.l0 k l (l.length : Int) ((i + 1 : Nat) : Int)) (fun k => ?_) (ev_val (ih (i + 1) (by omega)) (by simp))
      simp only [impl_wordsOk.l0]
      rw [if_pos (by omega), if_pos (by omega), if_pos (by omega), rd_nat l i (by omega), impl_isWord_eq, hb, w64_succ (n := l.length) (by omega) hl]; rfl
    | false =>
      refine Ev.step (f := fun _ => some false) (fun k => ?_) (ev_const (by simp))
      simp only [impl_wordsOk.l0]
      rw [if_pos (by omega), if_pos (by omega), if_pos (by omega), rd_nat l i (by omega), impl_isWord_eq, hb]; rfl
theorem impl_wordsOk_ev (l : List Int) (hl : l.length ≤ 9223372036854775807) : Ev (fun k => impl_wordsOk.f k l) (l.all (inB · 0 65535)) := impl_wordsOk_l l hl l.length 0 (by omega)

theorem impl_RecOk_ev (seq st : Int) (l : List Int) (hl : l.length ≤ 9223372036854775807) : Ev (fun k => impl_RecOk.f k seq st l) (recB seq st l) := by
  unfold impl_RecOk.f recB
  rw [impl_within_eq, impl_within_eq, impl_within_eq]
  cases inB seq 0 60000 <;> cases inB st 0 7 <;> cases inB (l.length : Int) 2 4 <;> simp <;> first | exact Ev.now _ | exact impl_wordsOk_ev l hl

def putRecV (q t : Int) (l : List Int) : List Int := if recB q t l = true then [21322, q, t, (l.length : Int)] ++ l else []
theorem impl_PutRec_ev (q t : Int) (l : List Int) (hl : l.length ≤ 1048576) : Ev (fun k => impl_PutRec.f k q t l) (putRecV q t l) := by
  unfold impl_PutRec.f putRecV
  refine Ev.bind (impl_RecOk_ev q t l (by omega)) ?_
  by_cases h : recB q t l = true
  · simp only [if_pos h]
    exact Ev.bind (Ev.now _) (ev_pos (by simp; omega) (Ev.now _))
  · simp only [if_neg h]
    exact Ev.now _

theorem spec_l1In_eq (a lo hi : Int) : spec_l1In.f a lo hi = some (inB a lo hi) := by
  unfold spec_l1In.f inB
  split
  · congr 1; simp; omega
  · congr 1; simp; omega

theorem spec_l1Word_eq (a : Int) : spec_l1Word.f a = some (inB a 0 65535) := by
  unfold spec_l1Word.f
  rw [spec_l1In_eq]; rfl

theorem spec_l1Words_l (l : List Int) (hl : l.length ≤ 9223372036854775807) : ∀ (d i : Nat), i + d = l.length → Ev (fun k => spec_l1Words.l0 k l (i : Int)) ((l.drop i).all (inB · 0 65535)) := by
  intro d
  induction d with
  | zero =>
    intro i hi
    exact Ev.step (f := fun _ => some true) (fun k => by simp only [spec_l1Words.l0]; rw [if_neg (by omega)]) (ev_const (by rw [List.drop_of_length_le (by omega)]; rfl))
  | succ d ih =>
    intro i hi
    rw [List.drop_eq_getElem_cons (i := i) (by omega), List.all_cons]
    cases hb : inB (l[i]'(by omega)) 0 65535 with
    | true =>
      refine Ev.step (f := fun k => spec_l1Words.l0 k l ((i + 1 : Nat) : Int)) (fun k => ?_) (ev_val (ih (i + 1) (by omega)) (by simp))
      simp only [spec_l1Words.l0]
      rw [if_pos (by omega), if_pos (by omega), rd_nat l i (by omega), spec_l1Word_eq, hb, w64_succ (n := l.length) (by omega) hl]; rfl
    | false =>
      refine Ev.step (f := fun _ => some false) (fun k => ?_) (ev_const (by simp))
      simp only [spec_l1Words.l0]
      rw [if_pos (by omega), if_pos (by omega), rd_nat l i (by omega), spec_l1Word_eq, hb]; rfl
theorem spec_l1Words_ev (l : List Int) (hl : l.length ≤ 9223372036854775807) : Ev (fun k => spec_l1Words.f k l) (l.all (inB · 0 65535)) := spec_l1Words_l l hl l.length 0 (by omega)

theorem spec_RecOk_ev (seq st : Int) (l : List Int) (hl : l.length ≤ 9223372036854775807) : Ev (fun k => spec_RecOk.f k seq st l) (recB seq st l) := by
  unfold spec_RecOk.f recB
  rw [spec_l1In_eq, spec_l1In_eq, spec_l1In_eq]
  cases inB seq 0 60000 <;> cases inB st 0 7 <;> cases inB (l.length : Int) 2 4 <;> simp <;> first | exact Ev.now _ | exact spec_l1Words_ev l hl

theorem spec_PutRec_ev (q t : Int) (l : List Int) (hl : l.length ≤ 1048576) : Ev (fun k => spec_PutRec.f k q t l) (putRecV q t l) := by
  unfold spec_PutRec.f putRecV
  refine Ev.bind (spec_RecOk_ev q t l (by omega)) ?_
  by_cases h : recB q t l = true
  · simp only [if_pos h]
    exact Ev.bind (Ev.now _) (ev_pos (by simp; omega) (Ev.now _))
  · simp only [if_neg h]
    exact Ev.now _

theorem putRecV_len {q t : Int} {s : List Int} (h : recB q t s = true) : (putRecV q t s).length = 4 + s.length := by
  rw [putRecV, if_pos h]; simp; omega
theorem spec_DrawGetRec_ok (l : List Int) (hl : l.length ≤ 1048576) (hb : ∀ x ∈ l, 0 ≤ x ∧ x ≤ 255) : ∃ m, Ev (fun k => spec_DrawGetRec.f k l) m ∧ m.length ≤ 8 := by
  unfold spec_DrawGetRec.f
  obtain ⟨h, e, c⟩ := spec_l1New_ev l hl hb
  obtain ⟨q, t, s, i1, h1, e1, c1, hr, s4, s2⟩ := spec_l5Draw_ok h c
  have hp := spec_PutRec_ev q t s (by omega)
  have pl := putRecV_len hr
  obtain ⟨x, i2, h2, e2, c2, x0, x1, _⟩ := spec_l1Below_ok h1 c1 4
  obtain ⟨y, i3, h3, e3, c3, y0, y1, _⟩ := spec_l1Below_ok h2 c2 4
  obtain ⟨u, i4, h4, e4, c4, _⟩ := spec_l1Int_ok h3 c3 ([0, 1, 2, 4, 8, 60001, (-1)] : List Int) (by decide)
  obtain ⟨z, i5, h5, e5, c5, z0, z1, _⟩ := spec_l1Below_ok h2 c2 ((putRecV q t s).length : Int)
  have := y1 (by omega)
  have := z1 (by omega)
  by_cases a0 : x = 0
  · exact ⟨_, Ev.bind e (Ev.bind e1 (Ev.bind hp (Ev.bind (ev_const e2) (ev_pos a0 (Ev.bind (ev_const e3) (Ev.bind (ev_const e4) (ev_pos (by simp only; omega) (ev_pos (by simp only; omega) (Ev.now _))))))))), by simp; omega⟩
  by_cases a1 : x = 1
  · exact ⟨_, Ev.bind e (Ev.bind e1 (Ev.bind hp (Ev.bind (ev_const e2) (ev_neg a0 (ev_pos a1 (Ev.bind (ev_const e5) (ev_pos (by simp only; omega) (ev_pos (by simp only; omega) (Ev.now _))))))))), by simp; omega⟩
  · exact ⟨_, Ev.bind e (Ev.bind e1 (Ev.bind hp (Ev.bind (ev_const e2) (ev_neg a0 (ev_neg a1 (Ev.now _)))))), by omega⟩

theorem impl_copyInts_eq (l : List Int) (hl : l.length < 17592186044416) : impl_copyInts.f l = some l := by
  unfold impl_copyInts.f
  simp [hl]

theorem impl_GetRec_ev (l : List Int) (hl : l.length ≤ 1048576) : Ev (fun k => impl_GetRec.f k l) (getRecV l) := by
  unfold impl_GetRec.f
  by_cases h4 : (l.length : Int) < 4
  · refine ev_pos h4 (ev_succ ?_)
    simp only [impl_GetRec.j0]
    have h4' : ¬ 4 ≤ l.length := by omega
    have : ¬ getRecB l = true := by simp [getRecB, h4']
    exact ev_pos (by trivial) (ev_const (by rw [getRecV, if_neg this]))
  · have h4' : 4 ≤ l.length := by omega
    refine ev_neg h4 (ev_pos (by omega) ?_)
    by_cases h0 : rd l 0 = 21322
    · refine ev_pos h0 (ev_pos (by omega) (ev_succ ?_))
      simp only [impl_GetRec.j0]
      rw [w64 (by omega) (by omega)]
      by_cases h3 : rd l 3 = (l.length : Int) - 4
      · refine ev_neg (by simp [h3]) (ev_pos (by omega) (ev_pos (by omega) (ev_pos (by omega) (Ev.bind (ev_const (impl_copyInts_eq (l.drop 4) (by simp; omega))) (Ev.bind (impl_RecOk_ev _ _ _ (by simp; omega)) (ev_const ?_))))))
        have e : getRecB l = recB (rd l 1) (rd l 2) (l.drop 4) := by simp [getRecB, h0, h3, h4']
        unfold getRecV
        rw [e]
        split <;> rfl
      · have : ¬ getRecB l = true := by simp [getRecB, h3]
        exact ev_pos (by simp [h3]) (ev_const (by rw [getRecV, if_neg this]))
    · refine ev_neg h0 (ev_succ ?_)
      simp only [impl_GetRec.j0]
      have : ¬ getRecB l = true := by simp [getRecB, h0]
      exact ev_pos (by trivial) (ev_const (by rw [getRecV, if_neg this]))

theorem spec_GetRec_ev (l : List Int) (hl : l.length ≤ 1048576) : Ev (fun k => spec_GetRec.f k l) (getRecV l) := by
  unfold spec_GetRec.f
  by_cases h4 : (l.length : Int) < 4
  · refine ev_pos h4 (ev_succ ?_)
    simp only [spec_GetRec.j0]
    have h4' : ¬ 4 ≤ l.length := by omega
    have : ¬ getRecB l = true := by simp [getRecB, h4']
    exact ev_pos (by trivial) (ev_const (by rw [getRecV, if_neg this]))
  · have h4' : 4 ≤ l.length := by omega
    refine ev_neg h4 (ev_pos (by omega) ?_)
    by_cases h0 : rd l 0 = 21322
    · refine ev_pos h0 (ev_pos (by omega) (ev_succ ?_))
      simp only [spec_GetRec.j0]
      rw [w64 (by omega) (by omega)]
      by_cases h3 : rd l 3 = (l.length : Int) - 4
      · refine ev_neg (by simp [h3]) (ev_pos (by omega) (ev_pos (by omega) (Ev.bind (Ev.now []) (ev_pos (by omega) (ev_pos (by simp; omega) (Ev.bind (Ev.now _) (Ev.bind (spec_RecOk_ev _ _ _ (by simp; omega)) (ev_const ?_))))))))
        have e : getRecB l = recB (rd l 1) (rd l 2) (l.drop 4) := by simp [getRecB, h0, h3, h4']
        unfold getRecV
        rw [e]
        simp only [List.nil_append]
        split <;> rfl
      · have : ¬ getRecB l = true := by simp [getRecB, h3]
        exact ev_pos (by simp [h3]) (ev_const (by rw [getRecV, if_neg this]))
    · refine ev_neg h0 (ev_succ ?_)
      simp only [spec_GetRec.j0]
      have : ¬ getRecB l = true := by simp [getRecB, h0]
      exact ev_pos (by trivial) (ev_const (by rw [getRecV, if_neg this]))

theorem spec_DrawSlotOf_ok (l : List Int) (hl : l.length ≤ 1048576) (hb : ∀ x ∈ l, 0 ≤ x ∧ x ≤ 255) : ∃ n, Ev (fun k => spec_DrawSlotOf.f k l) n := by
  unfold spec_DrawSlotOf.f
  obtain ⟨h, e, c⟩ := spec_l1New_ev l hl hb
  obtain ⟨u, i4, h4, e4, c4, _⟩ := spec_l1Int_ok h c ([0, 1, 3, 4, 60000, (-1), 9223372036854775807] : List Int) (by decide)
  exact ⟨_, Ev.bind e (Ev.bind (ev_const e4) (Ev.now _))⟩

theorem spec_DrawDataAt_ok (l : List Int) (hl : l.length ≤ 1048576) (hb : ∀ x ∈ l, 0 ≤ x ∧ x ≤ 255) : ∃ n, Ev (fun k => spec_DrawDataAt.f k l) n := by
  unfold spec_DrawDataAt.f
  obtain ⟨h, e, c⟩ := spec_l1New_ev l hl hb
  obtain ⟨u, i4, h4, e4, c4, _⟩ := spec_l1Int_ok h c ([0, 1, 7, 8, (-1)] : List Int) (by decide)
  exact ⟨_, Ev.bind e (Ev.bind (ev_const e4) (Ev.now _))⟩

def slotV (n : Int) : Int := if n < 0 then -1 else wrap64 (2 + Int.tmod n 4)
theorem impl_SlotOf_eq (n : Int) : impl_SlotOf.f n = some (slotV n) := by unfold impl_SlotOf.f slotV; split <;> rfl
theorem slotV_pos {n : Int} (h : 0 ≤ n) : slotV n = 2 + n % 4 := by
  rw [slotV, if_neg (by omega), Int.tmod_eq_emod_of_nonneg h, w64 (by omega) (by omega)]

theorem spec_SlotOf_eq (n : Int) : spec_SlotOf.f n = some (slotV n) := by unfold spec_SlotOf.f slotV; split <;> rfl

def dataV (n : Int) : Int := if inB n 0 1099511627776 = true then wrap64 ((wrap64 (n + 2)) + 4) else -1
theorem impl_DataAt_eq (n : Int) : impl_DataAt.f n = some (dataV n) := by
  unfold impl_DataAt.f dataV
  rw [impl_within_eq]
  cases inB n 0 1099511627776 <;> simp

theorem spec_DataAt_eq (n : Int) : spec_DataAt.f n = some (dataV n) := by
  unfold spec_DataAt.f dataV
  rw [spec_l1In_eq]
  cases inB n 0 1099511627776 <;> simp

theorem laws_sameRec_ev (a b : Int) (l : List Int) (hl : l.length ≤ 9223372036854775807) : Ev (fun k => laws_sameRec.f k a b l a b l) true := by
  unfold laws_sameRec.f
  exact ev_pos rfl (ev_pos rfl (Ev.bind (laws_sameInts_ev l l hl) (ev_const (by simp))))

theorem impl_SecOk_ev (l : List Int) (hl : l.length ≤ 9223372036854775807) : Ev (fun k => impl_SecOk.f k l) (secB l) := by
  unfold impl_SecOk.f
  by_cases h : (l.length : Int) ≤ 12
  · refine ev_pos h (Ev.bind (impl_wordsOk_ev l hl) (ev_const ?_))
    have : l.length ≤ 12 := by omega
    simp [secB, this]
  · refine ev_neg h (ev_const ?_)
    have : ¬ l.length ≤ 12 := by omega
    simp [secB, this]

theorem get_put_rec {q t : Int} {s : List Int} (h : recB q t s = true) : getRecV ([21322, q, t, (s.length : Int)] ++ s) = (q, t, s, true) := by
  have e : getRecB ([21322, q, t, (s.length : Int)] ++ s) = true := by
    simp [getRecB, rd, h]
    omega
  rw [getRecV, if_pos e]
  simp [rd]
theorem put_get_rec {c : List Int} (h : getRecB c = true) : recB (rd c 1) (rd c 2) (c.drop 4) = true ∧ putRecV (rd c 1) (rd c 2) (c.drop 4) = c := by
  simp only [getRecB, Bool.and_eq_true, decide_eq_true_eq] at h
  obtain ⟨⟨h4, h0, h3⟩, hr⟩ := h
  refine ⟨hr, ?_⟩
  rw [putRecV, if_pos hr]
  rcases c with _ | ⟨c0, _ | ⟨c1, _ | ⟨c2, _ | ⟨c3, c⟩⟩⟩⟩ <;> simp at h4
  simp [rd] at h0 h3 ⊢
  exact ⟨h0.symm, by omega⟩
theorem dataV0 : dataV 0 = 6 := by decide +kernel
theorem rec_secB {q t : Int} {s : List Int} (h : recB q t s = true) : secB ([21322, q, t, (s.length : Int)] ++ s) = true := by
  simp only [recB, Bool.and_eq_true, inB_true, List.all_eq_true] at h
  obtain ⟨⟨⟨h1, h2⟩, h3⟩, h4⟩ := h
  have a : ∀ x ∈ ([21322, q, t, (s.length : Int)] ++ s), 0 ≤ x ∧ x ≤ 65535 := by
    intro x hx
    rcases List.mem_append.1 hx with hx | hx
    · simp only [List.mem_cons, List.not_mem_nil, or_false] at hx
      omega
    · have := h4 x hx; omega
  have b : ([21322, q, t, (s.length : Int)] ++ s).length ≤ 12 := by simp; omega
  simp only [secB, Bool.and_eq_true, decide_eq_true_eq, List.all_eq_true, inB_true]
  exact ⟨b, a⟩
theorem FnRecs : ∀ (l0 : List (Int)), (l0.length ≤ maxLen ∧ ∀ y ∈ l0, (Lit.int .u8 y).wf = true) → ∃ k, laws_FnRecs.f k l0 = some true := by
  intro l hl0
  refine Ev.rounds (r := true) ?_
  have hb : ∀ x ∈ l, 0 ≤ x ∧ x ≤ 255 := fun x hx => wf_u8 (hl0.2 x hx)
  unfold laws_FnRecs.f laws_big.f
  by_cases h : (l.length : Int) > 1048576
  · exact Ev.bind (Ev.now _) (ev_pos (decide_eq_true h) (Ev.now _))
  have hl : l.length ≤ 1048576 := by omega
  obtain ⟨q, t, s, es, sl⟩ := spec_DrawPutRec_ok l hl hb
  obtain ⟨c, ec, cl⟩ := spec_DrawGetRec_ok l hl hb
  obtain ⟨n, en⟩ := spec_DrawSlotOf_ok l hl hb
  obtain ⟨m, em⟩ := spec_DrawDataAt_ok l hl hb
  obtain ⟨x2, e2, b2⟩ := laws_at_ok l hl hb 2 (by omega)
  have hp := impl_PutRec_ev q t s (by omega)
  have hgi := impl_GetRec_ev c (by omega)
  have hgs := spec_GetRec_ev c (by omega)
  have hloop : ∀ (d i : Nat), i + d = 4 → Ev (fun k => laws_FnRecs.l0 k (putRecV q t s) (x2 * 7) (i : Int) q t s) true := by
    intro d
    induction d with
    | zero =>
      intro i hi
      refine ev_succ ?_
      simp only [laws_FnRecs.l0]
      refine ev_neg (by omega) (Ev.bind (spec_RecOk_ev q t s (by omega)) ?_)
      by_cases hr : recB q t s = true
      · refine ev_pos hr ?_
        have hv : putRecV q t s = [21322, q, t, (s.length : Int)] ++ s := by rw [putRecV, if_pos hr]
        rw [hv]
        have hg := impl_GetRec_ev ([21322, q, t, (s.length : Int)] ++ s) (by simp; omega)
        rw [get_put_rec hr] at hg
        refine Ev.bind hg (ev_pos (by trivial) (Ev.bind (laws_sameRec_ev q t s (by omega)) (ev_pos rfl (Ev.bind (impl_RecOk_ev q t s (by omega)) (ev_pos hr (Ev.bind (impl_SecOk_ev _ (by simp; omega)) (ev_const ?_)))))))
        rw [rec_secB hr]
      · have hv : putRecV q t s = [] := by rw [putRecV, if_neg hr]
        rw [hv]
        refine ev_neg hr (ev_pos rfl (Ev.bind (impl_RecOk_ev q t s (by omega)) (ev_const ?_)))
        simp [hr]
    | succ d ih =>
      intro i hi
      refine ev_succ ?_
      simp only [laws_FnRecs.l0, impl_SlotOf_eq, impl_DataAt_eq]
      rw [w64 (n := x2 * 7 + (i : Int)) (by omega) (by omega), slotV_pos (n := x2 * 7 + (i : Int)) (by omega), slotV_pos (n := x2 * 7) (by omega), w64_succ (n := 4) (by omega) (by omega), dataV0]
      refine ev_pos (by omega) (Ev.bind (Ev.now _) (ev_neg (by omega) (Ev.bind (Ev.now _) (Ev.bind (Ev.now _) (ev_neg (by omega) ?_)))))
      by_cases hi0 : (i : Int) > 0
      · exact ev_pos hi0 (Ev.bind (Ev.now _) (Ev.bind (Ev.now _) (ev_neg (by omega) (ih (i + 1) (by omega)))))
      · exact ev_neg hi0 (ih (i + 1) (by omega))
  have fin : Ev (fun k => laws_FnRecs.j0 k l (putRecV q t s) false q t s) true := by
    refine ev_succ ?_
    simp only [laws_FnRecs.j0]
    refine ev_neg (by simp) (Ev.bind (ev_const e2) ?_)
    rw [w64 (n := x2 * 7) (by omega) (by omega)]
    exact hloop 4 0 (by omega)
  refine Ev.bind (Ev.now _) (ev_neg (by simp; omega) (Ev.bind es (Ev.bind hp (Ev.bind ec (Ev.bind hgi (Ev.bind hgs (Ev.bind en (Ev.bind em (ev_neg (by simp) ?_)))))))))
  simp only [impl_SlotOf_eq, spec_SlotOf_eq, impl_DataAt_eq, spec_DataAt_eq]
  by_cases hg : getRecB c = true
  · have hv : getRecV c = (rd c 1, rd c 2, c.drop 4, true) := by rw [getRecV, if_pos hg]
    obtain ⟨hr, hc⟩ := put_get_rec hg
    rw [hv]
    have hp2 := impl_PutRec_ev (rd c 1) (rd c 2) (c.drop 4) (by simp; omega)
    rw [hc] at hp2
    refine ev_pos (by trivial) (Ev.bind (impl_RecOk_ev _ _ _ (by simp; omega)) (ev_pos hr (Ev.bind hp2 (Ev.bind (laws_sameInts_ev c c (by omega)) (ev_pos (by simp) (Ev.bind (Ev.now _) (Ev.bind (Ev.now _) (ev_pos rfl (Ev.bind (Ev.now _) (Ev.bind (Ev.now _) ?_))))))))))
    simpa using fin
  · have hv : getRecV c = (0, 0, [], false) := by rw [getRecV, if_neg hg]
    rw [hv]
    refine ev_neg (by simp) (Ev.bind (Ev.now _) (Ev.bind (Ev.now _) (ev_pos rfl (Ev.bind (Ev.now _) (Ev.bind (Ev.now _) ?_)))))
    simpa using fin

end Go.Proofs.Ytlmnmcfieagmbaa.Pure
