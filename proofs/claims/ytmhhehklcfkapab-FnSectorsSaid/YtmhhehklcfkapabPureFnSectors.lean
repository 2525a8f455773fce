/- FnSectors: for every input that the print speaks of the law comes to true, as plain numbers and lists. Conditions: none beyond those that the printed statement names. -/
import Derived.Test.YtmhhehklcfkapabQFnSectorsx5

namespace Go.Proofs.Ytmhhehklcfkapab.Pure
open Go.RowKit Go.Proofs.Ytmhhehklcfkapab.PFnSectors Go.Proofs.YtmhhehklcfkapabW.PrintWords Go.Proofs.YtmhhehklcfkapabW.PrintLast
set_option linter.unusedVariables false
set_option linter.unusedSimpArgs false

/-! ### small laws: numbers, lists, rounds -/
theorem w64 {n : Int} (h0 : -9223372036854775808 ≤ n) (h1 : n ≤ 9223372036854775807) : wrap64 n = n := by unfold wrap64; omega
theorem w64_succ {i n : Nat} (hi : i < n) (hn : n ≤ 9223372036854775807) : wrap64 ((i : Int) + 1) = ((i + 1 : Nat) : Int) := by
  rw [w64 (by omega) (by omega)]; rfl
theorem rd_nat (l : List Int) (i : Nat) (h : i < l.length) : rd l (i : Int) = l[i] := by
  simp [rd, List.getD_eq_getElem?_getD, List.getElem?_eq_getElem h]
theorem wf_i64 {x : Int} (h : (Lit.int .i64 x).wf = true) : -9223372036854775808 ≤ x ∧ x ≤ 9223372036854775807 := by
  have h' : IntKind.i64.min ≤ x ∧ x ≤ IntKind.i64.max := by simpa [Lit.wf] using h
  exact h'
theorem ev_val {α : Type} {g : Nat → Option α} {r r' : α} (h : Ev g r) (e : r = r') : Ev g r' := e ▸ h
theorem ev_pos {α : Type} {c : Prop} [Decidable c] {g f : Nat → Option α} {r : α} (hc : c) (h : Ev g r) : Ev (fun k => if c then g k else f k) r := by
  simpa [hc] using h
theorem ev_neg {α : Type} {c : Prop} [Decidable c] {g f : Nat → Option α} {r : α} (hc : ¬ c) (h : Ev f r) : Ev (fun k => if c then g k else f k) r := by
  simpa [hc] using h
theorem ev_const {α : Type} {o : Option α} {r : α} (h : o = some r) : Ev (fun _ => o) r := ⟨0, fun _ _ => h⟩
theorem ev_unique {α : Type} {g : Nat → Option α} {r r' : α} (h : Ev g r) (h' : Ev g r') : r = r' := by
  obtain ⟨K, h⟩ := h
  obtain ⟨K', h'⟩ := h'
  have e := h (max K K') (by omega)
  rw [h' (max K K') (by omega)] at e
  exact (Option.some.inj e).symm
theorem take_set_succ {α : Type} {x l : List α} {i : Nat} (hx : i < x.length) (hl : i < l.length) (h : x.take i = l.take i) : (x.set i l[i]).take (i + 1) = l.take (i + 1) := by
  rw [List.take_succ_eq_append_getElem (by simpa using hx), List.take_succ_eq_append_getElem hl, List.getElem_set_self, List.take_set_of_le (Nat.le_refl _), h]
def inB (a lo hi : Int) : Bool := decide (lo ≤ a ∧ a ≤ hi)
theorem inB_true {a lo hi : Int} : inB a lo hi = true ↔ lo ≤ a ∧ a ≤ hi := by simp [inB]
theorem inB_false {a lo hi : Int} : inB a lo hi = false ↔ ¬ (lo ≤ a ∧ a ≤ hi) := by simp [inB]
theorem ev_succ {α : Type} {g : Nat → Option α} {r : α} (h : Ev (fun k => g (k + 1)) r) : Ev g r := Ev.step (fun _ => rfl) h
theorem rd_in {l : List Int} {lo hi : Int} (h : ∀ x ∈ l, lo ≤ x ∧ x ≤ hi) (h0 : lo ≤ 0 ∧ 0 ≤ hi) (i : Int) : lo ≤ rd l i ∧ rd l i ≤ hi := by
  unfold rd
  rw [List.getD_eq_getElem?_getD]
  cases hx : l[i.toNat]? with
  | none => simpa using h0
  | some x => simpa using h x (List.mem_of_getElem? hx)
theorem wf_u8 {x : Int} (h : (Lit.int .u8 x).wf = true) : 0 ≤ x ∧ x ≤ 255 := by
  have h' : IntKind.u8.min ≤ x ∧ x ≤ IntKind.u8.max := by simpa [Lit.wf] using h
  exact h'

def secB (l : List Int) : Bool := decide (l.length ≤ 12) && l.all (inB · 0 65535)
/-! ### a sector's bytes -/
def secW (l : List Int) (at_ : Nat) (n : Nat) : List Int := (List.range n).map (fun (j : Nat) => rd l ((at_ + 1 + 2 * j : Nat) : Int) * 256 + rd l ((at_ + 2 + 2 * j : Nat) : Int))
theorem secW_length (l : List Int) (a n : Nat) : (secW l a n).length = n := by simp [secW]
theorem secW_succ (l : List Int) (a n : Nat) : secW l a (n + 1) = secW l a n ++ [rd l ((a + 1 + 2 * n : Nat) : Int) * 256 + rd l ((a + 2 + 2 * n : Nat) : Int)] := by simp [secW, List.range_succ]
def getSecB (l : List Int) (a : Int) : Bool := decide (0 ≤ a ∧ a < (l.length : Int) ∧ rd l a ≤ 12 ∧ a + 1 + 2 * rd l a ≤ (l.length : Int))
def getSecV (l : List Int) (a : Int) : List Int × Int × Bool := if getSecB l a = true then (secW l a.toNat (rd l a).toNat, a + 1 + 2 * rd l a, true) else ([], 0, false)
theorem byte_join {h l : Int} (h0 : 0 ≤ h ∧ h ≤ 255) (l0 : 0 ≤ l ∧ l ≤ 255) : Go.bits .or .i64 (h * 256) l = h * 256 + l := by
  have w : ∀ n : Int, 0 ≤ n → n < 2 ^ 16 → IntKind.i64.wrap n = n := by
    intro n h1 h2
    rw [IntKind.wrap_i64]
    have : (2 : Int) ^ 16 = 65536 := by decide
    omega
  have e16 : (2 : Int) ^ 16 = 65536 := by decide
  have e8 : (2 : Int) ^ 8 = 256 := by decide
  exact bits_join .i64 16 (by decide) w 8 (h * 256) l (by omega) (by omega) (by omega) (by omega) (by omega) (by omega)

def wordBytes (l : List Int) : List Int := l.flatMap (fun n => [n / 256, n % 256])
def putSecV (b s : List Int) : List Int := if secB s = true then b ++ [(s.length : Int) % 256] ++ wordBytes s else b
theorem wordBytes_cons (n : Int) (l : List Int) : wordBytes (n :: l) = [n / 256, n % 256] ++ wordBytes l := rfl
theorem secB_true {s : List Int} : secB s = true ↔ s.length ≤ 12 ∧ ∀ x ∈ s, 0 ≤ x ∧ x ≤ 65535 := by simp [secB, inB_true]
theorem putSecV_length (b s : List Int) : (putSecV b s).length ≤ b.length + 25 := by
  unfold putSecV
  split
  · rename_i h
    have hl : ∀ l : List Int, (wordBytes l).length = 2 * l.length := by
      intro l
      induction l with
      | nil => rfl
      | cons n l ih => rw [wordBytes_cons]; simp [ih]; omega
    have := (secB_true.1 h).1
    simp [hl]; omega
  · omega

theorem wordBytes_append (l m : List Int) : wordBytes (l ++ m) = wordBytes l ++ wordBytes m := by simp [wordBytes]
theorem wordBytes_length : ∀ l : List Int, (wordBytes l).length = 2 * l.length
  | [] => rfl
  | n :: l => by rw [wordBytes_cons, List.length_append, wordBytes_length l]; simp; omega
theorem secW_bytes (c : List Int) (hb : ∀ x ∈ c, 0 ≤ x ∧ x ≤ 255) (a : Nat) : ∀ n, a + 1 + 2 * n ≤ c.length → wordBytes (secW c a n) = (c.drop (a + 1)).take (2 * n)
  | 0, _ => by simp [secW, wordBytes]
  | n + 1, h => by
    have ih := secW_bytes c hb a n (by omega)
    have h1 : a + 1 + 2 * n < c.length := by omega
    have h2 : a + 2 + 2 * n < c.length := by omega
    have b1 := hb _ (List.getElem_mem h1)
    have b2 := hb _ (List.getElem_mem h2)
    rw [secW_succ, wordBytes_append, ih, rd_nat c _ h1, rd_nat c _ h2, show 2 * (n + 1) = 2 * n + 1 + 1 by omega, List.take_succ_eq_append_getElem (by simp; omega), List.take_succ_eq_append_getElem (by simp; omega)]
    have e1 : (c.drop (a + 1))[2 * n]'(by simp; omega) = c[a + 1 + 2 * n] := by simp
    have e2 : (c.drop (a + 1))[2 * n + 1]'(by simp; omega) = c[a + 2 + 2 * n] := by
      rw [List.getElem_drop]; congr 1; omega
    rw [e1, e2, List.append_assoc]
    congr 1
    simp only [wordBytes, List.flatMap_cons, List.flatMap_nil, List.append_nil]
    have d1 : (c[a + 1 + 2 * n] * 256 + c[a + 2 + 2 * n]) / 256 = c[a + 1 + 2 * n] := by omega
    have d2 : (c[a + 1 + 2 * n] * 256 + c[a + 2 + 2 * n]) % 256 = c[a + 2 + 2 * n] := by omega
    rw [d1, d2]; rfl
theorem secW_words (c : List Int) (hb : ∀ x ∈ c, 0 ≤ x ∧ x ≤ 255) (a n : Nat) : ∀ x ∈ secW c a n, 0 ≤ x ∧ x ≤ 65535 := by
  intro x hx
  simp only [secW, List.mem_map, List.mem_range] at hx
  obtain ⟨j, _, rfl⟩ := hx
  have b1 := rd_in hb (by omega) ((a + 1 + 2 * j : Nat) : Int)
  have b2 := rd_in hb (by omega) ((a + 2 + 2 * j : Nat) : Int)
  omega
/-- What was read is put back as it stood. -/
theorem get_put (c : List Int) (hb : ∀ x ∈ c, 0 ≤ x ∧ x ≤ 255) (a : Nat) (h : getSecB c (a : Int) = true) :
    putSecV [] (secW c a (rd c (a : Int)).toNat) = (c.take (a + 1 + 2 * (rd c (a : Int)).toNat)).drop a := by
  simp only [getSecB, decide_eq_true_eq] at h
  have b0 := rd_in hb (by omega) (a : Int)
  obtain ⟨n, hn⟩ : ∃ n : Nat, rd c (a : Int) = n := ⟨(rd c (a : Int)).toNat, by omega⟩
  rw [hn] at h b0
  rw [hn, Int.toNat_natCast]
  have hs : secB (secW c a n) = true := secB_true.2 ⟨by rw [secW_length]; omega, secW_words c hb a n⟩
  have ha : a < c.length := by omega
  rw [putSecV, if_pos hs, secW_bytes c hb a n (by omega), secW_length, List.drop_take, show a + 1 + 2 * n - a = 2 * n + 1 by omega, List.drop_eq_getElem_cons ha, List.take_succ_cons]
  rw [rd_nat c a ha] at hn
  rw [hn, Int.emod_eq_of_lt (by omega) (by omega)]; rfl
theorem wordBytes_get (s : List Int) : ∀ (j : Nat) (h : j < s.length), (wordBytes s)[2 * j]? = some (s[j] / 256) ∧ (wordBytes s)[2 * j + 1]? = some (s[j] % 256) := by
  induction s with
  | nil => intro j h; simp at h
  | cons n l ih =>
    intro j h
    rw [wordBytes_cons]
    cases j with
    | zero => simp
    | succ j =>
      have := ih j (by simpa using h)
      rw [show 2 * (j + 1) = 2 * j + 1 + 1 by omega]
      simpa using this
theorem rd_some {l : List Int} {i : Nat} {x : Int} (h : l[i]? = some x) : rd l (i : Int) = x := by
  simp [rd, List.getD_eq_getElem?_getD, h]
/-- What was put is read back. -/
theorem put_get (b s : List Int) (hs : secB s = true) : getSecV (b ++ [(s.length : Int) % 256] ++ wordBytes s) (b.length : Int) = (s, ((b ++ [(s.length : Int) % 256] ++ wordBytes s).length : Int), true) := by
  have hw := secB_true.1 hs
  have e0 : (s.length : Int) % 256 = s.length := Int.emod_eq_of_lt (by omega) (by omega)
  rw [e0]
  have r0 : rd (b ++ [(s.length : Int)] ++ wordBytes s) (b.length : Int) = s.length := rd_some (by simp)
  have hlen : (b ++ [(s.length : Int)] ++ wordBytes s).length = b.length + 1 + 2 * s.length := by simp [wordBytes_length]; omega
  have hB : getSecB (b ++ [(s.length : Int)] ++ wordBytes s) (b.length : Int) = true := by
    simp only [getSecB, decide_eq_true_eq, r0, hlen]; omega
  rw [getSecV, if_pos hB, r0, hlen, Int.toNat_natCast, Int.toNat_natCast]
  have hW : secW (b ++ [(s.length : Int)] ++ wordBytes s) b.length s.length = s := by
    apply List.ext_getElem (by rw [secW_length])
    intro j h1 h2
    have g := wordBytes_get s j h2
    have r1 : rd (b ++ [(s.length : Int)] ++ wordBytes s) ((b.length + 1 + 2 * j : Nat) : Int) = s[j] / 256 := rd_some (by
      rw [List.getElem?_append_right (by simp <;> omega)]
      have e : b.length + 1 + 2 * j - (b ++ [(s.length : Int)]).length = 2 * j := by simp
      rw [e]; exact g.1)
    have r2 : rd (b ++ [(s.length : Int)] ++ wordBytes s) ((b.length + 2 + 2 * j : Nat) : Int) = s[j] % 256 := rd_some (by
      rw [List.getElem?_append_right (by simp <;> omega)]
      have e : b.length + 2 + 2 * j - (b ++ [(s.length : Int)]).length = 2 * j + 1 := by simp; omega
      rw [e]; exact g.2)
    simp only [secW, List.getElem_map, List.getElem_range]
    rw [r1, r2]
    omega
  rw [hW]
  simp only [Prod.mk.injEq, true_and, and_true]
  omega
theorem put_cut (b s : List Int) (hs : secB s = true) : getSecB ((b ++ [(s.length : Int) % 256] ++ wordBytes s).take ((b ++ [(s.length : Int) % 256] ++ wordBytes s).length - 1)) (b.length : Int) = false := by
  have hw := secB_true.1 hs
  have e0 : (s.length : Int) % 256 = s.length := Int.emod_eq_of_lt (by omega) (by omega)
  rw [e0]
  have hlen : (b ++ [(s.length : Int)] ++ wordBytes s).length = b.length + 1 + 2 * s.length := by simp [wordBytes_length]; omega
  rw [hlen]
  have hl2 : ((b ++ [(s.length : Int)] ++ wordBytes s).take (b.length + 1 + 2 * s.length - 1)).length = b.length + 2 * s.length := by rw [List.length_take, hlen]; omega
  simp only [getSecB, decide_eq_false_iff_not, hl2]
  rintro ⟨_, h1, _, h3⟩
  have r0 : rd ((b ++ [(s.length : Int)] ++ wordBytes s).take (b.length + 1 + 2 * s.length - 1)) (b.length : Int) = s.length := rd_some (by
    rw [List.getElem?_take_of_lt (by omega)]; simp)
  rw [r0] at h3
  omega
theorem put_bytes (b s : List Int) (hb : ∀ x ∈ b, 0 ≤ x ∧ x ≤ 255) : ∀ x ∈ putSecV b s, 0 ≤ x ∧ x ≤ 255 := by
  unfold putSecV
  split
  · rename_i hs
    have hw := secB_true.1 hs
    intro x hx
    simp only [List.mem_append, List.mem_singleton, wordBytes, List.mem_flatMap] at hx
    rcases hx with (hx | hx) | ⟨n, hn, hx⟩
    · exact hb x hx
    · omega
    · have := hw.2 n hn
      simp only [List.mem_cons, List.not_mem_nil, or_false] at hx
      omega
  · exact hb

theorem spec_l1In_eq (a lo hi : Int) : spec_l1In.f a lo hi = some (inB a lo hi) := by
  unfold spec_l1In.f inB
  split
  · congr 1; simp; omega
  · congr 1; simp; omega

theorem spec_GetSec_l (l : List Int) (hb : ∀ x ∈ l, 0 ≤ x ∧ x ≤ 255) (hl : l.length ≤ 1048576) (a n : Nat) (hn : n ≤ 12) (h : a + 1 + 2 * n ≤ l.length) : ∀ (d i : Nat), i + d = n → Ev (fun k => spec_GetSec.l0 k l (a : Int) (n : Int) (secW l a i) (i : Int)) (secW l a n, (a : Int) + 1 + 2 * (n : Int), true) := by
  intro d
  induction d with
  | zero =>
    intro i hi
    obtain rfl : i = n := by omega
    refine ev_succ ?_
    simp only [spec_GetSec.l0]
    refine ev_neg (by omega) (ev_const ?_)
    rw [w64 (n := (a : Int) + 1) (by omega) (by omega), w64 (n := 2 * (i : Int)) (by omega) (by omega), w64 (by omega) (by omega)]
  | succ d ih =>
    intro i hi
    refine ev_succ ?_
    simp only [spec_GetSec.l0]
    have b1 := rd_in hb (by omega) ((a + 1 + 2 * i : Nat) : Int)
    have b2 := rd_in hb (by omega) ((a + 2 + 2 * i : Nat) : Int)
    have e1 : wrap64 (wrap64 ((a : Int) + 1) + wrap64 (2 * (i : Int))) = ((a + 1 + 2 * i : Nat) : Int) := by
      rw [w64 (n := (a : Int) + 1) (by omega) (by omega), w64 (n := 2 * (i : Int)) (by omega) (by omega), w64 (by omega) (by omega)]; omega
    have e2 : wrap64 (wrap64 ((a : Int) + 2) + wrap64 (2 * (i : Int))) = ((a + 2 + 2 * i : Nat) : Int) := by
      rw [w64 (n := (a : Int) + 2) (by omega) (by omega), w64 (n := 2 * (i : Int)) (by omega) (by omega), w64 (by omega) (by omega)]; omega
    rw [e1, e2, w64 (n := rd l ((a + 1 + 2 * i : Nat) : Int)) (by omega) (by omega), w64 (n := rd l ((a + 2 + 2 * i : Nat) : Int)) (by omega) (by omega), w64 (n := _ * 256) (by omega) (by omega), byte_join b1 b2, ← secW_succ, w64_succ (n := n) (by omega) (by omega)]
    have hs := secW_length l a i
    refine ev_pos (by omega) (ev_pos (by omega) (ev_pos (by omega) (ev_pos (by omega) (ev_pos (by omega) (ev_pos (by omega) (ih (i + 1) (by omega)))))))
theorem spec_GetSec_ev (l : List Int) (hb : ∀ x ∈ l, 0 ≤ x ∧ x ≤ 255) (hl : l.length ≤ 1048576) (a : Int) : Ev (fun k => spec_GetSec.f k l a) (getSecV l a) := by
  unfold spec_GetSec.f
  rw [w64 (n := (l.length : Int) - 1) (by omega) (by omega), spec_l1In_eq]
  cases hi : inB a 0 ((l.length : Int) - 1) with
  | false =>
    have h := inB_false.1 hi
    have h' : ¬ getSecB l a = true := by simp only [getSecB, decide_eq_true_eq]; omega
    exact Ev.bind (Ev.now false) (ev_neg (by simp) (ev_const (by rw [getSecV, if_neg h'])))
  | true =>
    have h := inB_true.1 hi
    have b0 := rd_in hb (by omega) a
    obtain ⟨a, rfl⟩ : ∃ m : Nat, a = m := ⟨a.toNat, by omega⟩
    obtain ⟨n, hn⟩ : ∃ n : Nat, rd l (a : Int) = n := ⟨(rd l (a : Int)).toNat, by omega⟩
    refine Ev.bind (Ev.now true) (ev_pos rfl (ev_pos (by omega) (ev_pos (by omega) ?_)))
    rw [hn] at b0
    rw [hn, w64 (n := (n : Int)) (by omega) (by omega), w64 (n := 2 * (n : Int)) (by omega) (by omega), w64 (n := (l.length : Int) - (a : Int)) (by omega) (by omega), w64 (n := (l.length : Int) - (a : Int) - 1) (by omega) (by omega)]
    by_cases h1 : (n : Int) > 12
    · have h' : ¬ getSecB l (a : Int) = true := by simp only [getSecB, decide_eq_true_eq, hn]; omega
      refine ev_pos h1 (ev_succ ?_)
      simp only [spec_GetSec.j0]
      exact ev_pos trivial (ev_const (by rw [getSecV, if_neg h']))
    · refine ev_neg h1 (ev_succ ?_)
      simp only [spec_GetSec.j0]
      by_cases h2 : 2 * (n : Int) > (l.length : Int) - (a : Int) - 1
      · have h' : ¬ getSecB l (a : Int) = true := by simp only [getSecB, decide_eq_true_eq, hn]; omega
        exact ev_pos (decide_eq_true h2) (ev_const (by rw [getSecV, if_neg h']))
      · have h' : getSecB l (a : Int) = true := by simp only [getSecB, decide_eq_true_eq, hn]; omega
        refine ev_neg (by simp; omega) ?_
        rw [getSecV, if_pos h', hn]
        exact spec_GetSec_l l hb hl a n (by omega) (by omega) n 0 (by omega)

theorem impl_within_eq (a lo hi : Int) : impl_within.f a lo hi = some (inB a lo hi) := by
  unfold impl_within.f inB
  split
  · congr 1; simp; omega
  · congr 1; simp; omega

theorem impl_GetSec_l (l : List Int) (hb : ∀ x ∈ l, 0 ≤ x ∧ x ≤ 255) (hl : l.length ≤ 1048576) (a n : Nat) (hn : n ≤ 12) (h : a + 1 + 2 * n ≤ l.length) : ∀ (d i : Nat), i + d = n → Ev (fun k => impl_GetSec.l0 k l ((a + 1 + 2 * n : Nat) : Int) (secW l a i) ((a + 1 + 2 * i : Nat) : Int)) (secW l a n, (a : Int) + 1 + 2 * (n : Int), true) := by
  intro d
  induction d with
  | zero =>
    intro i hi
    obtain rfl : i = n := by omega
    refine ev_succ ?_
    simp only [impl_GetSec.l0]
    refine ev_neg (by omega) (ev_const ?_)
    rw [show ((a + 1 + 2 * i : Nat) : Int) = (a : Int) + 1 + 2 * (i : Int) by omega]
  | succ d ih =>
    intro i hi
    refine ev_succ ?_
    simp only [impl_GetSec.l0]
    have b1 := rd_in hb (by omega) ((a + 1 + 2 * i : Nat) : Int)
    have b2 := rd_in hb (by omega) ((a + 2 + 2 * i : Nat) : Int)
    have e2 : wrap64 (((a + 1 + 2 * i : Nat) : Int) + 1) = ((a + 2 + 2 * i : Nat) : Int) := by
      rw [w64 (by omega) (by omega)]; omega
    have e3 : wrap64 (((a + 1 + 2 * i : Nat) : Int) + 2) = ((a + 1 + 2 * (i + 1) : Nat) : Int) := by
      rw [w64 (by omega) (by omega)]; omega
    rw [e2, e3, w64 (n := rd l ((a + 1 + 2 * i : Nat) : Int)) (by omega) (by omega), w64 (n := rd l ((a + 2 + 2 * i : Nat) : Int)) (by omega) (by omega), w64 (n := _ * 256) (by omega) (by omega), w64 (n := _ * 256 + _) (by omega) (by omega), ← secW_succ]
    have hs := secW_length l a i
    refine ev_pos (by omega) (ev_pos (by omega) (ev_pos (by omega) (ev_pos (by omega) (ev_pos (by omega) (ev_pos (by omega) (ih (i + 1) (by omega)))))))
theorem impl_GetSec_ev (l : List Int) (hb : ∀ x ∈ l, 0 ≤ x ∧ x ≤ 255) (hl : l.length ≤ 1048576) (a : Int) : Ev (fun k => impl_GetSec.f k l a) (getSecV l a) := by
  unfold impl_GetSec.f
  rw [w64 (n := (l.length : Int) - 1) (by omega) (by omega), impl_within_eq]
  cases hi : inB a 0 ((l.length : Int) - 1) with
  | false =>
    have h := inB_false.1 hi
    have h' : ¬ getSecB l a = true := by simp only [getSecB, decide_eq_true_eq]; omega
    exact Ev.bind (Ev.now false) (ev_neg (by simp) (ev_const (by rw [getSecV, if_neg h'])))
  | true =>
    have h := inB_true.1 hi
    have b0 := rd_in hb (by omega) a
    obtain ⟨a, rfl⟩ : ∃ m : Nat, a = m := ⟨a.toNat, by omega⟩
    obtain ⟨n, hn⟩ : ∃ n : Nat, rd l (a : Int) = n := ⟨(rd l (a : Int)).toNat, by omega⟩
    refine Ev.bind (Ev.now true) (ev_pos rfl (ev_pos (by omega) (ev_pos (by omega) ?_)))
    rw [hn] at b0
    rw [hn, w64 (n := (n : Int)) (by omega) (by omega), w64 (n := 2 * (n : Int)) (by omega) (by omega), w64 (n := (a : Int) + 1) (by omega) (by omega), w64 (n := (a : Int) + 1 + 2 * (n : Int)) (by omega) (by omega)]
    by_cases h1 : (n : Int) > 12
    · have h' : ¬ getSecB l (a : Int) = true := by simp only [getSecB, decide_eq_true_eq, hn]; omega
      refine ev_pos h1 (ev_succ ?_)
      simp only [impl_GetSec.j0]
      exact ev_pos trivial (ev_const (by rw [getSecV, if_neg h']))
    · refine ev_neg h1 (ev_succ ?_)
      simp only [impl_GetSec.j0]
      by_cases h2 : (a : Int) + 1 + 2 * (n : Int) > (l.length : Int)
      · have h' : ¬ getSecB l (a : Int) = true := by simp only [getSecB, decide_eq_true_eq, hn]; omega
        exact ev_pos (decide_eq_true h2) (ev_const (by rw [getSecV, if_neg h']))
      · have h' : getSecB l (a : Int) = true := by simp only [getSecB, decide_eq_true_eq, hn]; omega
        refine ev_neg (by simp; omega) ?_
        rw [getSecV, if_pos h', hn, w64 (n := (a : Int) + 1) (by omega) (by omega)]
        exact impl_GetSec_l l hb hl a n (by omega) (by omega) n 0 (by omega)

theorem laws_sameInts_l (l m : List Int) (hl : l.length ≤ 9223372036854775807) (he : l.length = m.length) : ∀ (d i : Nat), i + d = l.length → Ev (fun k => laws_sameInts.l0 k l m (i : Int)) (decide (l.drop i = m.drop i)) := by
  intro d
  induction d with
  | zero =>
    intro i hi
    exact Ev.step (f := fun _ => some true) (fun k => by simp only [laws_sameInts.l0]; rw [if_neg (by omega)]) (ev_const (by rw [List.drop_of_length_le (by omega), List.drop_of_length_le (by omega)]; rfl))
  | succ d ih =>
    intro i hi
    have e : decide (l.drop i = m.drop i) = (decide (l[i]'(by omega) = m[i]'(by omega)) && decide (l.drop (i + 1) = m.drop (i + 1))) := by
      rw [List.drop_eq_getElem_cons (l := l) (i := i) (by omega), List.drop_eq_getElem_cons (l := m) (i := i) (by omega)]
      simp only [List.cons.injEq, Bool.decide_and]
    rw [e]
    by_cases hb : l[i]'(by omega) = m[i]'(by omega)
    · refine Ev.step (f := fun k => laws_sameInts.l0 k l m ((i + 1 : Nat) : Int)) (fun k => ?_) (ev_val (ih (i + 1) (by omega)) (by simp [hb]))
      simp only [laws_sameInts.l0]
      rw [if_pos (by omega), if_pos (by omega), if_pos (by omega), rd_nat l i (by omega), rd_nat m i (by omega), if_pos hb, w64_succ (n := l.length) (by omega) hl]
    · refine Ev.step (f := fun _ => some false) (fun k => ?_) (ev_const (by simp [hb]))
      simp only [laws_sameInts.l0]
      rw [if_pos (by omega), if_pos (by omega), if_pos (by omega), rd_nat l i (by omega), rd_nat m i (by omega), if_neg hb]
theorem laws_sameInts_ev (l m : List Int) (hl : l.length ≤ 9223372036854775807) : Ev (fun k => laws_sameInts.f k l m) (decide (l = m)) := by
  unfold laws_sameInts.f
  by_cases he : (l.length : Int) = (m.length : Int)
  · exact ev_pos he (laws_sameInts_l l m hl (by omega) l.length 0 (by omega))
  · refine ev_neg he (ev_const ?_)
    have : ¬ l = m := fun e => he (by rw [e])
    simp [this]

/-! ### the draws: a cursor over the bytes of the code -/
def Cur (b : List Int) (i : Int) : Prop := 0 ≤ i ∧ i ≤ (b.length : Int) ∧ b.length ≤ 1048576 ∧ ∀ x ∈ b, 0 ≤ x ∧ x ≤ 255
theorem band_eq (x m : Int) : Go.bits .and .i64 x m = IntKind.i64.wrap ((BitVec.ofInt 64 x &&& BitVec.ofInt 64 m).toNat : Int) := rfl
theorem band_le (x : Int) (m : Nat) (hm : m < 9223372036854775808) : 0 ≤ Go.bits .and .i64 x (m : Int) ∧ Go.bits .and .i64 x (m : Int) ≤ m := by
  rw [band_eq, IntKind.wrap_i64, BitVec.toNat_and]
  have h : (BitVec.ofInt 64 (m : Int)).toNat = m := by
    rw [BitVec.toNat_ofInt]; omega
  rw [h]
  have := Nat.and_le_right (n := (BitVec.ofInt 64 x).toNat) (m := m)
  omega

theorem spec_l1New_l (l : List Int) (hl : l.length ≤ 1048576) : ∀ (d i : Nat) (a : Int), i + d = l.length → ∃ h, Ev (fun k => spec_l1New.l0 k l a (i : Int)) (l, 0, h) := by
  intro d
  induction d with
  | zero =>
    intro i a hi
    refine ⟨a, ev_succ ?_⟩
    simp only [spec_l1New.l0]
    exact ev_neg (by omega) (Ev.now _)
  | succ d ih =>
    intro i a hi
    by_cases h4 : (i : Int) < 4000
    · obtain ⟨h, e⟩ := ih (i + 1) (Go.bits .and .i64 (wrap64 ((wrap64 ((wrap64 (a * 137)) + (wrap64 (rd l (i : Int))))) + 11)) 1073741823) (by omega)
      refine ⟨h, ev_succ ?_⟩
      simp only [spec_l1New.l0]
      rw [w64_succ (n := l.length) (by omega) (by omega)]
      exact ev_pos (by omega) (ev_pos h4 (ev_pos (by omega) e))
    · refine ⟨a, ev_succ ?_⟩
      simp only [spec_l1New.l0]
      exact ev_pos (by omega) (ev_neg h4 (Ev.now _))
theorem spec_l1New_ev (l : List Int) (hl : l.length ≤ 1048576) (hb : ∀ x ∈ l, 0 ≤ x ∧ x ≤ 255) : ∃ h, Ev (fun k => spec_l1New.f k l) (l, 0, h) ∧ Cur l 0 := by
  obtain ⟨h, e⟩ := spec_l1New_l l hl l.length 0 (wrap64 (770770 + (l.length : Int))) (by omega)
  exact ⟨h, e, by unfold Cur; exact ⟨by omega, by omega, hl, hb⟩⟩

theorem spec_l1Byte_ok {b : List Int} {i : Int} (h : Int) (c : Cur b i) : ∃ x i' h', spec_l1Byte.f b i h = some (x, i', h') ∧ Cur b i' ∧ 0 ≤ x ∧ x ≤ 255 := by
  obtain ⟨c0, c1, c2, c3⟩ := c
  unfold spec_l1Byte.f
  by_cases hi : i < (b.length : Int)
  · rw [if_pos hi, if_pos c0, w64 (n := i + 1) (by omega) (by omega)]
    have h1 := band_le (wrap64 ((Go.bits .and .i64 (Go.bits .xor .i64 ((wrap64 ((wrap64 (h * 6364136223846793005)) + 1442695040888963407)) / 8589934592) ((wrap64 ((wrap64 (h * 6364136223846793005)) + 1442695040888963407)) / 140737488355328)) 255) + (wrap64 (rd b i)))) 255 (by omega)
    exact ⟨_, _, _, rfl, ⟨by omega, by omega, c2, c3⟩, h1⟩
  · rw [if_neg hi]
    have h1 := band_le (Go.bits .xor .i64 ((wrap64 ((wrap64 (h * 6364136223846793005)) + 1442695040888963407)) / 8589934592) ((wrap64 ((wrap64 (h * 6364136223846793005)) + 1442695040888963407)) / 140737488355328)) 255 (by omega)
    exact ⟨_, _, _, rfl, ⟨c0, c1, c2, c3⟩, h1⟩

theorem spec_l1Below_ok {b : List Int} {i : Int} (h : Int) (c : Cur b i) (n : Int) : ∃ x i' h', spec_l1Below.f b i h n = some (x, i', h') ∧ Cur b i' ∧ 0 ≤ x ∧ (0 < n → x < n) ∧ (n ≤ 0 → x = 0) := by
  unfold spec_l1Below.f
  by_cases h0 : n ≤ 0
  · rw [if_pos h0]
    exact ⟨_, _, _, rfl, c, by omega, by omega, fun _ => rfl⟩
  rw [if_neg h0]
  by_cases h1 : n ≤ 256
  · rw [if_pos h1]
    obtain ⟨x, i1, h1, e, c1, x0, x1⟩ := spec_l1Byte_ok h c
    rw [e]
    simp only [Option.bind_some]
    rw [if_neg (by omega), Int.tmod_eq_emod_of_nonneg x0]
    exact ⟨_, _, _, rfl, c1, Int.emod_nonneg _ (by omega), fun _ => Int.emod_lt_of_pos _ (by omega), by omega⟩
  · rw [if_neg h1]
    obtain ⟨x, i1, h1, e, c1, x0, x1⟩ := spec_l1Byte_ok h c
    obtain ⟨y, i2, h2, e2, c2, y0, y1⟩ := spec_l1Byte_ok h1 c1
    obtain ⟨z, i3, h3, e3, c3, z0, z1⟩ := spec_l1Byte_ok h2 c2
    rw [e]; simp only [Option.bind_some]
    rw [e2]; simp only [Option.bind_some]
    rw [e3]; simp only [Option.bind_some]
    rw [if_neg (by omega), w64 (n := x * 65536) (by omega) (by omega), w64 (n := y * 256) (by omega) (by omega), w64 (n := x * 65536 + y * 256) (by omega) (by omega), w64 (by omega) (by omega), Int.tmod_eq_emod_of_nonneg (by omega)]
    exact ⟨_, _, _, rfl, c3, Int.emod_nonneg _ (by omega), fun _ => Int.emod_lt_of_pos _ (by omega), by omega⟩

theorem spec_l1Int_ok {b : List Int} {i : Int} (h : Int) (c : Cur b i) (l : List Int) (hl : 0 < l.length) : ∃ x i' h', spec_l1Int.f b i h l = some (x, i', h') ∧ Cur b i' ∧ x ∈ l := by
  unfold spec_l1Int.f
  obtain ⟨x, i1, h1, e, c1, x0, x1, _⟩ := spec_l1Below_ok h c (l.length : Int)
  rw [e]; simp only [Option.bind_some]
  have := x1 (by omega)
  rw [if_pos x0, if_pos this]
  refine ⟨_, _, _, rfl, c1, ?_⟩
  obtain ⟨j, rfl⟩ : ∃ j : Nat, x = j := ⟨x.toNat, by omega⟩
  rw [rd_nat l j (by omega)]
  exact List.getElem_mem _

theorem spec_l1Draw_ok {b : List Int} {i : Int} (h : Int) (c : Cur b i) : ∃ x i' h', spec_l1Draw.f b i h = some (x, i', h') ∧ Cur b i' ∧ 0 ≤ x ∧ x ≤ 65535 := by
  unfold spec_l1Draw.f
  obtain ⟨x, i1, h1, e, c1, hx⟩ := spec_l1Int_ok h c ([0, 1, 2, 7, 255, 256, 4660, 65535] : List Int) (by decide)
  rw [e]; simp only [Option.bind_some]
  refine ⟨_, _, _, rfl, c1, ?_⟩
  simp only [List.mem_cons, List.not_mem_nil, or_false] at hx
  omega

theorem spec_l1Sec_l {b : List Int} : ∀ (n : Nat) (i h : Int) (x : List Int), Cur b i → n + x.length ≤ 100 → (∀ y ∈ x, 0 ≤ y ∧ y ≤ 65535) → ∃ s i' h', Ev (fun k => spec_l1Sec.l0 k x (n : Int) b i h) (s, i', h') ∧ Cur b i' ∧ s.length = n + x.length ∧ ∀ y ∈ s, 0 ≤ y ∧ y ≤ 65535 := by
  intro n
  induction n with
  | zero =>
    intro i h x c hx hb
    refine ⟨x, i, h, ev_succ ?_, c, by omega, hb⟩
    simp only [spec_l1Sec.l0]
    exact ev_neg (by omega) (Ev.now _)
  | succ n ih =>
    intro i h x c hx hb
    obtain ⟨y, i1, h1, e, c1, y0, y1⟩ := spec_l1Draw_ok h c
    obtain ⟨s, i2, h2, e2, c2, sl, sb⟩ := ih i1 h1 (x ++ [y]) c1 (by simp; omega) (fun z hz => by
      rcases List.mem_append.1 hz with hz | hz
      · exact hb z hz
      · simp at hz; subst hz; exact ⟨y0, y1⟩)
    refine ⟨s, i2, h2, ev_succ ?_, c2, by simp at sl; omega, sb⟩
    simp only [spec_l1Sec.l0]
    refine ev_pos (by omega) ?_
    rw [e, w64 (by omega) (by omega), show ((n + 1 : Nat) : Int) - 1 = (n : Int) by omega]
    exact Ev.bind (Ev.now _) (ev_pos (by omega) e2)
theorem spec_l1Sec_ok {b : List Int} {i : Int} (h : Int) (c : Cur b i) : ∃ s i' h', Ev (fun k => spec_l1Sec.f k b i h) (s, i', h') ∧ Cur b i' ∧ s.length ≤ 4 ∧ ∀ y ∈ s, 0 ≤ y ∧ y ≤ 65535 := by
  unfold spec_l1Sec.f
  obtain ⟨x, i1, h1, e, c1, x0, x1, _⟩ := spec_l1Below_ok h c 5
  have := x1 (by omega)
  obtain ⟨j, rfl⟩ : ∃ j : Nat, x = j := ⟨x.toNat, by omega⟩
  obtain ⟨s, i2, h2, e2, c2, sl, sb⟩ := spec_l1Sec_l (b := b) j i1 h1 [] c1 (by simp; omega) (by simp)
  rw [e]
  exact ⟨s, i2, h2, Ev.bind (Ev.now _) e2, c2, by simp at sl; omega, sb⟩

theorem spec_l1Any_ok {b : List Int} {i : Int} (h : Int) (c : Cur b i) : ∃ s i' h', Ev (fun k => spec_l1Any.f k b i h) (s, i', h') ∧ Cur b i' ∧ s.length ≤ 13 ∧ ∀ y ∈ s, -1 ≤ y ∧ y ≤ 65536 := by
  unfold spec_l1Any.f
  obtain ⟨s, i1, h1, e1, c1, sl, sb⟩ := spec_l1Sec_ok h c
  obtain ⟨x, i2, h2, e2, c2, x0, x1, _⟩ := spec_l1Below_ok h1 c1 10
  have := x1 (by omega)
  by_cases a0 : x = 0
  · obtain ⟨y, i3, h3, e3, c3, hy⟩ := spec_l1Int_ok h2 c2 ([(-1), 65536] : List Int) (by decide)
    refine ⟨s ++ [y], i3, h3, Ev.bind e1 (Ev.bind (ev_const e2) (ev_pos a0 (Ev.bind (ev_const e3) (ev_pos (by simp; omega) (Ev.now _))))), c3, by simp; omega, fun z hz => ?_⟩
    simp only [List.mem_cons, List.not_mem_nil, or_false] at hy
    rcases List.mem_append.1 hz with hz | hz
    · have := sb z hz; omega
    · simp at hz; omega
  by_cases a1 : x = 1
  · obtain ⟨y, i3, h3, e3, c3, y0, y1, _⟩ := spec_l1Below_ok h2 c2 2
    have := y1 (by omega)
    refine ⟨List.replicate (12 + y).toNat 0, i3, h3, Ev.bind e1 (Ev.bind (ev_const e2) (ev_neg a0 (ev_pos a1 (Ev.bind (ev_const e3) ?_)))), c3, by simp; omega, fun z hz => by have := (List.mem_replicate.1 hz).2; omega⟩
    simp only
    rw [w64 (by omega) (by omega)]
    exact ev_pos (by omega) (ev_pos (by omega) (Ev.now _))
  · exact ⟨s, i2, h2, Ev.bind e1 (Ev.bind (ev_const e2) (ev_neg a0 (ev_neg a1 (Ev.now _)))), c2, by omega, fun z hz => by have := sb z hz; omega⟩

theorem spec_l1Bytes_l {b : List Int} (n : Nat) (hn : n ≤ 1000) : ∀ (d i : Nat) (j h : Int) (x : List Int), i + d = n → Cur b j → x.length = i → (∀ y ∈ x, 0 ≤ y ∧ y ≤ 255) → ∃ s i' h', Ev (fun k => spec_l1Bytes.l0 k (n : Int) x (i : Int) b j h) (s, i', h') ∧ Cur b i' ∧ s.length = n ∧ ∀ y ∈ s, 0 ≤ y ∧ y ≤ 255 := by
  intro d
  induction d with
  | zero =>
    intro i j h x hi c hx hb
    refine ⟨x, j, h, ev_succ ?_, c, by omega, hb⟩
    simp only [spec_l1Bytes.l0]
    exact ev_neg (by omega) (Ev.now _)
  | succ d ih =>
    intro i j h x hi c hx hb
    obtain ⟨y, i1, h1, e, c1, y0, y1⟩ := spec_l1Byte_ok h c
    obtain ⟨s, i2, h2, e2, c2, sl, sb⟩ := ih (i + 1) i1 h1 (x ++ [y % 256]) (by omega) c1 (by simp; omega) (fun z hz => by
      rcases List.mem_append.1 hz with hz | hz
      · exact hb z hz
      · simp at hz; omega)
    refine ⟨s, i2, h2, ev_succ ?_, c2, sl, sb⟩
    simp only [spec_l1Bytes.l0]
    rw [e, w64_succ (n := n) (by omega) (by omega)]
    exact ev_pos (by omega) (Ev.bind (Ev.now _) (ev_pos (by omega) e2))
theorem spec_l1Bytes_ok {b : List Int} {i : Int} (h : Int) (c : Cur b i) (n : Int) (h0 : 0 ≤ n) (hn : n ≤ 1000) : ∃ s i' h', Ev (fun k => spec_l1Bytes.f k b i h n) (s, i', h') ∧ Cur b i' ∧ (s.length : Int) = n ∧ ∀ y ∈ s, 0 ≤ y ∧ y ≤ 255 := by
  obtain ⟨m, rfl⟩ : ∃ m : Nat, n = m := ⟨n.toNat, by omega⟩
  obtain ⟨s, i', h', e, c', sl, sb⟩ := spec_l1Bytes_l (b := b) m (by omega) m 0 i h [] (by omega) c rfl (by simp)
  exact ⟨s, i', h', e, c', by omega, sb⟩

theorem spec_DrawPutSec_ok (l : List Int) (hl : l.length ≤ 1048576) (hb : ∀ x ∈ l, 0 ≤ x ∧ x ≤ 255) : ∃ b s, Ev (fun k => spec_DrawPutSec.f k l) (b, s) ∧ b.length ≤ 3 ∧ (∀ x ∈ b, 0 ≤ x ∧ x ≤ 255) ∧ s.length ≤ 13 := by
  unfold spec_DrawPutSec.f
  obtain ⟨h, e, c⟩ := spec_l1New_ev l hl hb
  obtain ⟨x, i1, h1, e1, c1, x0, x1, _⟩ := spec_l1Below_ok h c 4
  have := x1 (by omega)
  obtain ⟨b, i2, h2, e2, c2, bl, bb⟩ := spec_l1Bytes_ok h1 c1 x x0 (by omega)
  obtain ⟨s, i3, h3, e3, c3, sl, sb⟩ := spec_l1Any_ok h2 c2
  exact ⟨b, s, Ev.bind e (Ev.bind (ev_const e1) (Ev.bind e2 (Ev.bind e3 (Ev.now _)))), by omega, bb, sl⟩

theorem impl_isWord_eq (a : Int) : impl_isWord.f a = some (inB a 0 65535) := by
  unfold impl_isWord.f
  rw [impl_within_eq]; rfl

theorem impl_wordsOk_l (l : List Int) (hl : l.length ≤ 9223372036854775807) : ∀ (d i : Nat), i + d = l.length → Ev (fun k => impl_wordsOk.l0 k l (l.length : Int) (i : Int)) ((l.drop i).all (inB · 0 65535)) := by
  intro d
  induction d with
  | zero =>
    intro i hi
    exact Ev.step (f := fun _ => some true) (fun k => by simp only [impl_wordsOk.l0]; rw [if_neg (by omega)]) (ev_const (by rw [List.drop_of_length_le (by omega)]; rfl))
  | succ d ih =>
    intro i hi
    rw [List.drop_eq_getElem_cons (i := i) (by omega), List.all_cons]
    cases hb : inB (l[i]'(by omega)) 0 65535 with
    | true =>
      refine Ev.step (f := fun k => impl_wordsOk.l0 k l (l.length : Int) ((i + 1 : Nat) : Int)) (fun k => ?_) (ev_val (ih (i + 1) (by omega)) (by simp))
      simp only [impl_wordsOk.l0]
      rw [if_pos (by omega), if_pos (by omega), if_pos (by omega), rd_nat l i (by omega), impl_isWord_eq, hb, w64_succ (n := l.length) (by omega) hl]; rfl
    | false =>
      refine Ev.step (f := fun _ => some false) (fun k => ?_) (ev_const (by simp))
      simp only [impl_wordsOk.l0]
      rw [if_pos (by omega), if_pos (by omega), if_pos (by omega), rd_nat l i (by omega), impl_isWord_eq, hb]; rfl
theorem impl_wordsOk_ev (l : List Int) (hl : l.length ≤ 9223372036854775807) : Ev (fun k => impl_wordsOk.f k l) (l.all (inB · 0 65535)) := impl_wordsOk_l l hl l.length 0 (by omega)

theorem impl_SecOk_ev (l : List Int) (hl : l.length ≤ 9223372036854775807) : Ev (fun k => impl_SecOk.f k l) (secB l) := by
  unfold impl_SecOk.f
  by_cases h : (l.length : Int) ≤ 12
  · refine ev_pos h (Ev.bind (impl_wordsOk_ev l hl) (ev_const ?_))
    have : l.length ≤ 12 := by omega
    simp [secB, this]
  · refine ev_neg h (ev_const ?_)
    have : ¬ l.length ≤ 12 := by omega
    simp [secB, this]

theorem impl_PutSec_l (s : List Int) (hb : ∀ x ∈ s, 0 ≤ x ∧ x ≤ 65535) (hs : s.length ≤ 12) : ∀ (d i : Nat) (x : List Int), i + d = s.length → x.length ≤ 1048700 + 2 * i → Ev (fun k => impl_PutSec.l0 k x s (s.length : Int) (i : Int)) (x ++ wordBytes (s.drop i)) := by
  intro d
  induction d with
  | zero =>
    intro i x hi hx
    refine ev_succ ?_
    simp only [impl_PutSec.l0]
    refine ev_neg (by omega) (ev_const ?_)
    rw [List.drop_of_length_le (by omega)]; simp [wordBytes]
  | succ d ih =>
    intro i x hi hx
    refine ev_succ ?_
    simp only [impl_PutSec.l0]
    have hi' : i < s.length := by omega
    have b := hb (s[i]) (List.getElem_mem hi')
    have h1 : 0 ≤ s[i] / 256 ∧ s[i] / 256 ≤ 255 := by omega
    rw [rd_nat s i hi', Int.tdiv_eq_ediv_of_nonneg b.1, Int.tmod_eq_emod_of_nonneg b.1, w64 (n := s[i] / 256) (by omega) (by omega), Int.emod_eq_of_lt (a := s[i] / 256) (by omega) (by omega), Int.emod_emod_of_dvd _ (Int.dvd_refl 256), w64_succ (n := s.length) (by omega) (by omega)]
    refine ev_pos (by omega) (ev_pos (by omega) (ev_pos (by omega) (Ev.bind (Ev.now _) (ev_pos (by simp; omega) (ev_val (ih (i + 1) _ (by omega) (by simp; omega)) ?_)))))
    rw [List.drop_eq_getElem_cons hi', wordBytes_cons]; simp
theorem impl_PutSec_ev (b s : List Int) (hb : b.length ≤ 1048576) (hs : s.length ≤ 1048576) : Ev (fun k => impl_PutSec.f k b s) (putSecV b s) := by
  unfold impl_PutSec.f
  refine Ev.bind (Ev.now _) (ev_pos (by simp; omega) (Ev.bind (Ev.now _) (Ev.bind (impl_SecOk_ev s (by omega)) ?_)))
  by_cases h : secB s = true
  · have := secB_true.1 h
    refine ev_pos h (ev_pos (by simp; omega) (ev_val (impl_PutSec_l s this.2 this.1 s.length 0 _ (by omega) (by simp; omega)) ?_))
    rw [putSecV, if_pos h]; simp
  · refine ev_neg h (ev_const ?_)
    rw [putSecV, if_neg h]; simp

theorem spec_l1Word_eq (a : Int) : spec_l1Word.f a = some (inB a 0 65535) := by
  unfold spec_l1Word.f
  rw [spec_l1In_eq]; rfl

theorem spec_l1Words_l (l : List Int) (hl : l.length ≤ 9223372036854775807) : ∀ (d i : Nat), i + d = l.length → Ev (fun k => spec_l1Words.l0 k l (i : Int)) ((l.drop i).all (inB · 0 65535)) := by
  intro d
  induction d with
  | zero =>
    intro i hi
    exact Ev.step (f := fun _ => some true) (fun k => by simp only [spec_l1Words.l0]; rw [if_neg (by omega)]) (ev_const (by rw [List.drop_of_length_le (by omega)]; rfl))
  | succ d ih =>
    intro i hi
    rw [List.drop_eq_getElem_cons (i := i) (by omega), List.all_cons]
    cases hb : inB (l[i]'(by omega)) 0 65535 with
    | true =>
      refine Ev.step (f := fun k => spec_l1Words.l0 k l ((i + 1 : Nat) : Int)) (fun k => ?_) (ev_val (ih (i + 1) (by omega)) (by simp))
      simp only [spec_l1Words.l0]
      rw [if_pos (by omega), if_pos (by omega), rd_nat l i (by omega), spec_l1Word_eq, hb, w64_succ (n := l.length) (by omega) hl]; rfl
    | false =>
      refine Ev.step (f := fun _ => some false) (fun k => ?_) (ev_const (by simp))
      simp only [spec_l1Words.l0]
      rw [if_pos (by omega), if_pos (by omega), rd_nat l i (by omega), spec_l1Word_eq, hb]; rfl
theorem spec_l1Words_ev (l : List Int) (hl : l.length ≤ 9223372036854775807) : Ev (fun k => spec_l1Words.f k l) (l.all (inB · 0 65535)) := spec_l1Words_l l hl l.length 0 (by omega)

theorem spec_SecOk_ev (l : List Int) (hl : l.length ≤ 9223372036854775807) : Ev (fun k => spec_SecOk.f k l) (secB l) := by
  unfold spec_SecOk.f
  by_cases h : (l.length : Int) ≤ 12
  · refine ev_pos h (Ev.bind (spec_l1Words_ev l hl) (ev_const ?_))
    have : l.length ≤ 12 := by omega
    simp [secB, this]
  · refine ev_neg h (ev_const ?_)
    have : ¬ l.length ≤ 12 := by omega
    simp [secB, this]

theorem spec_PutSec_l (s : List Int) (hb : ∀ x ∈ s, 0 ≤ x ∧ x ≤ 65535) (hs : s.length ≤ 12) : ∀ (d i : Nat) (x : List Int), i + d = s.length → x.length ≤ 1048700 + 2 * i → Ev (fun k => spec_PutSec.l0 k s x (i : Int)) (x ++ wordBytes (s.drop i)) := by
  intro d
  induction d with
  | zero =>
    intro i x hi hx
    refine ev_succ ?_
    simp only [spec_PutSec.l0]
    refine ev_neg (by omega) (ev_const ?_)
    rw [List.drop_of_length_le (by omega)]; simp [wordBytes]
  | succ d ih =>
    intro i x hi hx
    refine ev_succ ?_
    simp only [spec_PutSec.l0]
    have hi' : i < s.length := by omega
    have b := hb (s[i]) (List.getElem_mem hi')
    rw [rd_nat s i hi', Int.emod_eq_of_lt (a := s[i] / 256) (by omega) (by omega), w64_succ (n := s.length) (by omega) (by omega)]
    refine ev_pos (by omega) (ev_pos (by omega) (Ev.bind (Ev.now _) (ev_pos (by simp; omega) (ev_val (ih (i + 1) _ (by omega) (by simp; omega)) ?_))))
    rw [List.drop_eq_getElem_cons hi', wordBytes_cons]; simp
theorem spec_PutSec_ev (b s : List Int) (hb : b.length ≤ 1048576) (hs : s.length ≤ 1048576) : Ev (fun k => spec_PutSec.f k b s) (putSecV b s) := by
  unfold spec_PutSec.f
  refine Ev.bind (Ev.now _) (ev_pos (by simp; omega) (Ev.bind (Ev.now _) (Ev.bind (spec_SecOk_ev s (by omega)) ?_)))
  by_cases h : secB s = true
  · have := secB_true.1 h
    refine ev_pos h (ev_pos (by simp; omega) (ev_val (spec_PutSec_l s this.2 this.1 s.length 0 _ (by omega) (by simp; omega)) ?_))
    rw [putSecV, if_pos h]; simp
  · refine ev_neg h (ev_const ?_)
    rw [putSecV, if_neg h]; simp

theorem spec_DrawGetSec_ok (l : List Int) (hl : l.length ≤ 1048576) (hb : ∀ x ∈ l, 0 ≤ x ∧ x ≤ 255) : ∃ c i, Ev (fun k => spec_DrawGetSec.f k l) (c, i) ∧ c.length ≤ 30 ∧ (∀ x ∈ c, 0 ≤ x ∧ x ≤ 255) := by
  unfold spec_DrawGetSec.f
  obtain ⟨h, e, c⟩ := spec_l1New_ev l hl hb
  obtain ⟨s, i1, h1, e1, c1, sl, sb⟩ := spec_l1Sec_ok h c
  have hp := spec_PutSec_ev [] s (by simp) (by omega)
  have pl := putSecV_length [] s
  have pb := put_bytes [] s (by simp)
  have pp : 0 < (putSecV [] s).length := by
    have hs : secB s = true := secB_true.2 ⟨by omega, sb⟩
    rw [putSecV, if_pos hs]; simp
  generalize putSecV [] s = p at hp pl pb pp
  simp only [List.length_nil, Nat.zero_add] at pl
  obtain ⟨x, i2, h2, e2, c2, x0, x1, _⟩ := spec_l1Below_ok h1 c1 5
  by_cases a0 : x = 0
  · obtain ⟨y, i3, h3, e3, c3, y0, y1, _⟩ := spec_l1Below_ok h2 c2 (p.length : Int)
    have := y1 (by omega)
    obtain ⟨z, i4, h4, e4, c4, hz⟩ := spec_l1Int_ok h3 c3 ([0, 1, 12, 13, 255] : List Int) (by decide)
    obtain ⟨u, i5, h5, e5, c5, _⟩ := spec_l1Int_ok h4 c4 ([0, 0, 0, 1, (p.length : Int), (-1), 9223372036854775807] : List Int) (by simp)
    refine ⟨p.set y.toNat (z % 256), u, Ev.bind e (Ev.bind e1 (Ev.bind hp (Ev.bind (ev_const e2) (ev_pos a0 (Ev.bind (ev_const e3) (Ev.bind (ev_const e4) (ev_pos y0 (ev_pos (by omega) (Ev.bind (ev_const e5) (Ev.now _)))))))))), by simp; omega, fun w hw => ?_⟩
    rcases List.mem_or_eq_of_mem_set hw with hw | hw
    · exact pb w hw
    · omega
  by_cases a1 : x = 1
  · obtain ⟨y, i3, h3, e3, c3, y0, y1, _⟩ := spec_l1Below_ok h2 c2 ((p.length : Int) + 1)
    have := y1 (by omega)
    obtain ⟨u, i5, h5, e5, c5, _⟩ := spec_l1Int_ok h3 c3 ([0, 0, 0, 1, ((p.take y.toNat).length : Int), (-1), 9223372036854775807] : List Int) (by simp)
    refine ⟨p.take y.toNat, u, Ev.bind e (Ev.bind e1 (Ev.bind hp (Ev.bind (ev_const e2) (ev_neg a0 (ev_pos a1 (Ev.bind (a := (y, i3, h3)) (ev_const (by rw [w64 (by omega) (by omega)]; exact e3)) (ev_pos y0 (ev_pos (by omega) (Ev.bind (a := p.take y.toNat) (Ev.now _) ?_))))))))), Nat.le_trans (List.length_take_le _ _) (by omega), fun w hw => pb w (List.mem_of_mem_take hw)⟩
    simp only [e5, Option.bind_some]
    exact Ev.now _
  · obtain ⟨u, i5, h5, e5, c5, _⟩ := spec_l1Int_ok h2 c2 ([0, 0, 0, 1, (p.length : Int), (-1), 9223372036854775807] : List Int) (by simp)
    exact ⟨p, u, Ev.bind e (Ev.bind e1 (Ev.bind hp (Ev.bind (ev_const e2) (ev_neg a0 (ev_neg a1 (Ev.bind (ev_const e5) (Ev.now _))))))), by omega, pb⟩

theorem laws_sameBytes_l (l m : List Int) (hl : l.length ≤ 9223372036854775807) (he : l.length = m.length) : ∀ (d i : Nat), i + d = l.length → Ev (fun k => laws_sameBytes.l0 k l m (i : Int)) (decide (l.drop i = m.drop i)) := by
  intro d
  induction d with
  | zero =>
    intro i hi
    exact Ev.step (f := fun _ => some true) (fun k => by simp only [laws_sameBytes.l0]; rw [if_neg (by omega)]) (ev_const (by rw [List.drop_of_length_le (by omega), List.drop_of_length_le (by omega)]; rfl))
  | succ d ih =>
    intro i hi
    have e : decide (l.drop i = m.drop i) = (decide (l[i]'(by omega) = m[i]'(by omega)) && decide (l.drop (i + 1) = m.drop (i + 1))) := by
      rw [List.drop_eq_getElem_cons (l := l) (i := i) (by omega), List.drop_eq_getElem_cons (l := m) (i := i) (by omega)]
      simp only [List.cons.injEq, Bool.decide_and]
    rw [e]
    by_cases hb : l[i]'(by omega) = m[i]'(by omega)
    · refine Ev.step (f := fun k => laws_sameBytes.l0 k l m ((i + 1 : Nat) : Int)) (fun k => ?_) (ev_val (ih (i + 1) (by omega)) (by simp [hb]))
      simp only [laws_sameBytes.l0]
      rw [if_pos (by omega), if_pos (by omega), if_pos (by omega), rd_nat l i (by omega), rd_nat m i (by omega), if_pos hb, w64_succ (n := l.length) (by omega) hl]
    · refine Ev.step (f := fun _ => some false) (fun k => ?_) (ev_const (by simp [hb]))
      simp only [laws_sameBytes.l0]
      rw [if_pos (by omega), if_pos (by omega), if_pos (by omega), rd_nat l i (by omega), rd_nat m i (by omega), if_neg hb]
theorem laws_sameBytes_ev (l m : List Int) (hl : l.length ≤ 9223372036854775807) : Ev (fun k => laws_sameBytes.f k l m) (decide (l = m)) := by
  unfold laws_sameBytes.f
  by_cases he : (l.length : Int) = (m.length : Int)
  · exact ev_pos he (laws_sameBytes_l l m hl (by omega) l.length 0 (by omega))
  · refine ev_neg he (ev_const ?_)
    have : ¬ l = m := fun e => he (by rw [e])
    simp [this]

theorem FnSectors : ∀ (l0 : List (Int)), (l0.length ≤ maxLen ∧ ∀ y ∈ l0, (Lit.int .u8 y).wf = true) → ∃ k, laws_FnSectors.f k l0 = some true := by
  intro l hl0
  refine Ev.rounds (r := true) ?_
  have hb : ∀ x ∈ l, 0 ≤ x ∧ x ≤ 255 := fun x hx => wf_u8 (hl0.2 x hx)
  unfold laws_FnSectors.f laws_big.f
  by_cases h : (l.length : Int) > 1048576
  · exact Ev.bind (Ev.now _) (ev_pos (decide_eq_true h) (Ev.now _))
  have hl : l.length ≤ 1048576 := by omega
  obtain ⟨b, s, eb, bl, bb, sl⟩ := spec_DrawPutSec_ok l hl hb
  obtain ⟨c, i, ec, cl, cb⟩ := spec_DrawGetSec_ok l hl hb
  have hp := impl_PutSec_ev b s (by omega) (by omega)
  have hgi := impl_GetSec_ev c cb (by omega) i
  have hgs := spec_GetSec_ev c cb (by omega) i
  have fin : Ev (fun k => laws_FnSectors.j0 k b s (putSecV b s) false) true := by
    refine ev_succ ?_
    simp only [laws_FnSectors.j0]
    refine ev_neg (by simp) (Ev.bind (spec_SecOk_ev s (by omega)) ?_)
    by_cases hs : secB s = true
    · refine ev_pos hs ?_
      have hv : putSecV b s = b ++ [(s.length : Int) % 256] ++ wordBytes s := by rw [putSecV, if_pos hs]
      have pl := putSecV_length b s
      have pb := put_bytes b s bb
      have hg := impl_GetSec_ev (putSecV b s) pb (by omega) (b.length : Int)
      have hcut := impl_GetSec_ev ((putSecV b s).take ((putSecV b s).length - 1)) (fun x hx => pb x (List.mem_of_mem_take hx)) (by rw [List.length_take]; omega) (b.length : Int)
      have ppos : 0 < (putSecV b s).length := by rw [hv]; simp; omega
      rw [getSecV, hv, put_cut b s hs, ← hv] at hcut
      rw [hv, put_get b s hs, ← hv] at hg
      rw [w64 (by omega) (by omega), show ((((putSecV b s).length : Int) - 1).toNat) = (putSecV b s).length - 1 by omega]
      refine Ev.bind hg (ev_pos (by omega) (ev_pos (by omega) (Ev.bind hcut (ev_pos (by trivial) (Ev.bind (laws_sameInts_ev s s (by omega)) (ev_pos (by simp) (ev_pos (by trivial) (ev_neg (by simp) (Ev.bind (impl_SecOk_ev s (by omega)) (ev_const ?_))))))))))
      rw [hs]
    · refine ev_neg hs ?_
      have hv : putSecV b s = b := by rw [putSecV, if_neg hs]
      rw [hv]
      refine Ev.bind (laws_sameBytes_ev b b (by omega)) (ev_pos (by simp) (Ev.bind (impl_SecOk_ev s (by omega)) (ev_const ?_)))
      simp [hs]
  refine Ev.bind (Ev.now _) (ev_neg (by simp; omega) (Ev.bind eb (Ev.bind hp (Ev.bind ec (Ev.bind hgi (Ev.bind hgs (ev_neg (by simp) ?_)))))))
  by_cases hg : getSecB c i = true
  · have hg' := hg
    simp only [getSecB, decide_eq_true_eq] at hg'
    have b0 := rd_in cb (by omega) i
    obtain ⟨a, rfl⟩ : ∃ a : Nat, i = a := ⟨i.toNat, by omega⟩
    have hv : getSecV c (a : Int) = (secW c a (rd c (a : Int)).toNat, (a : Int) + 1 + 2 * rd c (a : Int), true) := by rw [getSecV, if_pos hg]; rfl
    rw [hv]
    have gp := get_put c cb a hg
    refine ev_pos (by trivial) (Ev.bind (impl_PutSec_ev [] _ (by simp) (by rw [secW_length]; omega)) (ev_pos (by omega) (ev_pos (by simp only; omega) (ev_pos (by simp only; omega) (Ev.bind (laws_sameBytes_ev _ _ (by have := putSecV_length [] (secW c a (rd c (a : Int)).toNat); rw [List.length_nil] at this; show (putSecV [] (secW c a (rd c (a : Int)).toNat)).length ≤ _; omega)) ?_)))))
    rw [gp, show ((a : Int) + 1 + 2 * rd c (a : Int)).toNat = a + 1 + 2 * (rd c (a : Int)).toNat by omega, Int.toNat_natCast]
    simpa using fin
  · have hv : getSecV c i = ([], 0, false) := by rw [getSecV, if_neg hg]
    rw [hv]
    exact ev_neg (by simp) fin

end Go.Proofs.Ytmhhehklcfkapab.Pure
