/- What a fall of the power leaves: plain laws. -/
import Derived.Test.YtlmnmcfieagmbaaMValB
namespace Go.Proofs.Ytlmnmcfieagmbaa.PFalls
open Go.RowKit Go.Proofs.Ytlmnmcfieagmbaa.MInt Go.Proofs.Ytlmnmcfieagmbaa.MKinds Go.Proofs.Ytlmnmcfieagmbaa.MOk Go.Proofs.Ytlmnmcfieagmbaa.MVal Go.Proofs.Ytlmnmcfieagmbaa.MValB
theorem putW_get (secs : List (List Int)) (e : Int × List Int) (i : Nat) (x : List Int) (h : (putW secs e)[i]? = some x) : secs[i]? = some x ∨ (e.1.toNat = i ∧ x = e.2) := by
  unfold putW at h
  by_cases hi : e.1.toNat = i
  · subst hi
    by_cases hl : e.1.toNat < secs.length
    · rw [List.getElem?_set_self hl] at h
      exact .inr ⟨rfl, (Option.some.inj h).symm⟩
    · rw [List.getElem?_eq_none (by simp; omega)] at h; cases h
  · rw [List.getElem?_set_ne hi] at h
    exact .inl h
theorem fall_any (k : Int) : ∀ (l : List (Int × List Int)) (j : Nat) (secs : List (List Int)) (i : Nat) (x : List Int), (fallW k j secs l)[i]? = some x → secs[i]? = some x ∨ ∃ e ∈ l, e.1.toNat = i ∧ x = e.2
  | [], j, secs, i, x, h => .inl h
  | e :: l, j, secs, i, x, h => by
    unfold fallW at h
    rcases fall_any k l (j + 1) _ i x h with h1 | ⟨e', he, h2⟩
    · split at h1
      · rcases putW_get secs e i x h1 with h3 | h3
        · exact .inl h3
        · exact .inr ⟨e, by simp, h3⟩
      · exact .inl h1
    · exact .inr ⟨e', by simp [he], h2⟩
theorem fall_none : ∀ (l : List (Int × List Int)) (j : Nat) (secs : List (List Int)), fallW 0 j secs l = secs
  | [], j, secs => rfl
  | e :: l, j, secs => by
    unfold fallW
    rw [fall_none l]
    simp [kept]
theorem kept_all {i : Nat} (h : i < 20) : kept 1048575 i = true := by
  unfold kept
  rw [decide_eq_true h, Bool.true_and]
  have : ∀ i : Fin 20, ((1048575 : Int).toNat).testBit i.val = true := by decide
  exact this ⟨i, h⟩
theorem fall_all : ∀ (l : List (Int × List Int)) (j : Nat) (secs : List (List Int)), j + l.length ≤ 20 → fallW 1048575 j secs l = l.foldl putW secs
  | [], j, secs, _ => rfl
  | e :: l, j, secs, h => by
    rw [List.length_cons] at h
    unfold fallW
    rw [kept_all (by omega), if_pos rfl, fall_all l (j + 1) _ (by omega)]
    rfl
theorem fallV_secs {m : MemV} (h : memB m = true) (n : Int) : (fallV m n).secs = fallW (if inR n 0 1048575 then n else 0) 0 m.secs m.cache := by unfold fallV; rw [if_pos h]
theorem fallV_len {m : MemV} (h : memB m = true) (n : Int) : (fallV m n).secs.length = m.secs.length := by rw [fallV_secs h, fallW_len]
theorem fallV_cache {m : MemV} (h : memB m = true) (n : Int) : (fallV m n).cache = [] := by unfold fallV; rw [if_pos h]
theorem flushV_secs {m : MemV} (h : memB m = true) (hf : m.failed = false) : (flushV m).secs = m.cache.foldl putW m.secs := by unfold flushV; rw [h, hf]; rfl
theorem flushV_len (m : MemV) : (flushV m).secs.length = m.secs.length := by unfold flushV; split <;> simp [foldPut_len]
/-- With all kept it is as flushed. -/
theorem all_kept {m : MemV} (h : memB m = true) (hf : m.failed = false) (hc : m.cache.length ≤ 7) : (fallV m 1048575).secs = (flushV m).secs := by
  rw [fallV_secs h, flushV_secs h hf]
  exact fall_all _ _ _ (by omega)
/-- With nothing kept it is as it was. -/
theorem none_kept {m : MemV} (h : memB m = true) : (fallV m 0).secs = m.secs := by
  rw [fallV_secs h]
  exact fall_none _ _ _
/-- Each sector is what it was, or what was written to it. -/
theorem one_of {m : MemV} (h : memB m = true) (n : Int) {i : Nat} {x y : List Int} (hx : (fallV m n).secs[i]? = some x) (hy : m.secs[i]? = some y) : (decide (x = y) || m.cache.any (fun e => e.1 == (i : Int) && decide (x = e.2))) = true := by
  rw [fallV_secs h] at hx
  rcases fall_any _ _ _ _ _ _ hx with h1 | ⟨e, he, h2, h3⟩
  · rw [hy] at h1
    cases h1
    simp
  · have h4 := (memB_parts h).2.1 e he
    obtain ⟨q, h5, _, _⟩ := wrB_at h4
    rw [h5] at h2
    simp only [Int.toNat_natCast] at h2
    subst h2
    rw [Bool.or_eq_true, List.any_eq_true]
    exact .inr ⟨e, he, by simp [h5, h3]⟩
end Go.Proofs.Ytlmnmcfieagmbaa.PFalls
