/- What sorting and striking doubles leave: plain laws. -/
import Derived.Test.YtlmnmcfieagmbaaMSpoilV
import Derived.Lib.SlicesCompact
namespace Go.Proofs.Ytlmnmcfieagmbaa.MSpoilW
open Go.RowKit Go.Proofs.Ytlmnmcfieagmbaa.MInt Go.Proofs.Ytlmnmcfieagmbaa.MKinds Go.Proofs.Ytlmnmcfieagmbaa.MOk Go.Proofs.Ytlmnmcfieagmbaa.MVal Go.Proofs.Ytlmnmcfieagmbaa.MSpoilV
theorem uniq : ∀ (l m : List Int), l.Pairwise (· < ·) → m.Pairwise (· < ·) → (∀ x, x ∈ l ↔ x ∈ m) → l = m
  | [], [], _, _, _ => rfl
  | [], y :: m, _, _, h => by have := (h y).2 (by simp); simp at this
  | x :: l, [], _, _, h => by have := (h x).1 (by simp); simp at this
  | x :: l, y :: m, hl, hm, h => by
    rw [List.pairwise_cons] at hl hm
    have hxy : x = y := by
      rcases List.mem_cons.1 ((h x).1 (by simp)) with h1 | h1
      · exact h1
      · rcases List.mem_cons.1 ((h y).2 (by simp)) with h2 | h2
        · exact h2.symm
        · have := hm.1 x h1; have := hl.1 y h2; omega
    subst hxy
    rw [uniq l m hl.2 hm.2 (fun z => ?_)]
    constructor
    · intro hz
      rcases List.mem_cons.1 ((h z).1 (by simp [hz])) with h1 | h1
      · have := hl.1 z hz; omega
      · exact h1
    · intro hz
      rcases List.mem_cons.1 ((h z).2 (by simp [hz])) with h1 | h1
      · have := hm.1 z hz; omega
      · exact h1
theorem le_get {zs : List Int} (h : zs.Pairwise (· ≤ ·)) {i j : Nat} (hij : i ≤ j) (hj : j < zs.length) : zs.toArray[i]! ≤ zs.toArray[j]! := by
  rw [getElem!_pos _ i (by simp; omega), getElem!_pos _ j (by simp; omega)]
  simp only [List.getElem_toArray]
  rcases Nat.lt_or_ge i j with h1 | h1
  · exact List.pairwise_iff_getElem.1 h i j (by omega) hj h1
  · obtain rfl : i = j := by omega
    omega
theorem compact_pair {zs : List Int} (h : zs.Pairwise (· ≤ ·)) : (Lib.compact zs).Pairwise (· < ·) := by
  unfold Lib.compact Lib.compactUpTo
  rw [List.pairwise_map, List.pairwise_filter]
  refine List.Pairwise.imp_of_mem ?_ List.pairwise_lt_range
  intro i j hi hj hij _ hk
  rw [List.mem_range] at hi hj
  have h1 := le_get h (show i ≤ j - 1 by omega) (by omega)
  have h2 := le_get h (show j - 1 ≤ j by omega) hj
  have h3 : zs.toArray[j]! ≠ zs.toArray[j - 1]! := by
    simp only [Lib.keeps, decide_eq_true_eq] at hk
    rcases hk with hk | hk
    · omega
    · exact hk
  omega
theorem compact_mem (zs : List Int) (x : Int) : x ∈ Lib.compact zs ↔ x ∈ zs := by
  unfold Lib.compact Lib.compactUpTo
  rw [List.mem_map]
  constructor
  · rintro ⟨j, hj, rfl⟩
    have hl : j < zs.length := List.mem_range.1 (List.mem_filter.1 hj).1
    rw [getElem!_pos _ j (by simpa using hl)]
    simp
  · intro hx
    obtain ⟨i, hi, rfl⟩ := List.getElem_of_mem hx
    have key : ∀ (i : Nat) (hi : i < zs.length), ∃ j, j ∈ (List.range zs.length).filter (Lib.keeps zs.toArray) ∧ zs.toArray[j]! = zs[i] := by
      intro i
      induction i with
      | zero => intro hi; exact ⟨0, List.mem_filter.2 ⟨List.mem_range.2 hi, by simp [Lib.keeps]⟩, by rw [getElem!_pos _ 0 (by simpa using hi)]; simp⟩
      | succ i ih =>
        intro hi
        by_cases hk : Lib.keeps zs.toArray (i + 1) = true
        · exact ⟨i + 1, List.mem_filter.2 ⟨List.mem_range.2 hi, hk⟩, by rw [getElem!_pos _ (i + 1) (by simpa using hi)]; simp⟩
        · obtain ⟨j, h1, h2⟩ := ih (by omega)
          refine ⟨j, h1, h2.trans ?_⟩
          simp only [Lib.keeps, decide_eq_true_eq, not_or, Decidable.not_not, Nat.add_sub_cancel] at hk
          have h3 := hk.2
          rw [getElem!_pos _ (i + 1) (by simpa using hi), getElem!_pos _ i (by simp; omega)] at h3
          simpa using h3.symm
    exact key i hi
theorem bads_pair {n : Nat} {l : List Int} (h : badsB n l = true) : l.Pairwise (· < ·) := by
  rw [List.pairwise_iff_getElem]
  intro i j hi hj hij
  have h1 := bads_step h (i := i) (by omega)
  have h2 := bads_le h (j - (i + 1)) (i + 1) (by omega)
  have h3 : i + 1 + (j - (i + 1)) = j := by omega
  rw [h3] at h2
  have e1 : l.getD i 0 = l[i] := by simp [hi]
  have e2 : l.getD j 0 = l[j] := by simp [hj]
  omega
theorem insN_mem (n x : Int) : ∀ l : List Int, x ∈ insN n l ↔ x = n ∨ x ∈ l
  | [] => by simp [insN]
  | y :: l => by
    unfold insN
    split
    · rw [List.mem_cons, insN_mem n x l, List.mem_cons]
      constructor
      · rintro (h | h | h) <;> simp [h]
      · rintro (h | h | h) <;> simp [h]
    · simp
theorem insN_pair (n : Int) : ∀ l : List Int, l.Pairwise (· < ·) → n ∉ l → (insN n l).Pairwise (· < ·)
  | [], _, _ => by simp [insN]
  | y :: l, h, hn => by
    rw [List.pairwise_cons] at h
    simp only [List.mem_cons, not_or] at hn
    unfold insN
    split
    · rename_i hy
      rw [List.pairwise_cons]
      refine ⟨fun z hz => ?_, insN_pair n l h.2 hn.2⟩
      rcases (insN_mem n z l).1 hz with rfl | hz
      · exact hy
      · exact h.1 z hz
    · rename_i hy
      rw [List.pairwise_cons, List.pairwise_cons]
      refine ⟨fun z hz => ?_, h⟩
      rcases List.mem_cons.1 hz with rfl | hz
      · have := hn.1; omega
      · have := h.1 z hz; have := hn.1; omega
theorem hasN_mem {l : List Int} {n : Int} : hasN l n = true ↔ n ∈ l := by
  unfold hasN
  simp
def sortI (l : List Int) : List Int := l.mergeSort fun x y => decide (x ≤ y)
theorem sortI_pair (l : List Int) : (sortI l).Pairwise (· ≤ ·) := by
  have h := List.pairwise_mergeSort (le := fun (x y : Int) => decide (x ≤ y)) (fun a b c h1 h2 => by simp at *; omega) (fun a b => by simp; omega) l
  exact h.imp (fun h => by simpa using h)
theorem sortI_mem (l : List Int) (x : Int) : x ∈ sortI l ↔ x ∈ l := (List.mergeSort_perm l _).mem_iff
theorem sortI_len (l : List Int) : (sortI l).length = l.length := List.length_mergeSort l
/-- What impl's SpoilSec makes of the bad ones. -/
theorem spoil_bads {m : Nat} {l : List Int} (h : badsB m l = true) (n : Int) : Lib.compact (sortI (l ++ [n])) = if hasN l n then l else insN n l := by
  refine uniq _ _ (compact_pair (sortI_pair _)) ?_ (fun x => ?_)
  · split
    · exact bads_pair h
    · rename_i hh
      exact insN_pair n l (bads_pair h) (fun hm => hh (hasN_mem.2 hm))
  · rw [compact_mem, sortI_mem]
    split
    · rename_i hh
      have := hasN_mem.1 hh
      rw [List.mem_append]
      constructor
      · rintro (h | h)
        · exact h
        · simp at h; subst h; exact this
      · exact .inl
    · rw [insN_mem, List.mem_append]
      simp [or_comm]
end Go.Proofs.Ytlmnmcfieagmbaa.MSpoilW
