/- Disks that are right stay right: plain laws. -/
import Derived.Test.YtlmnmcfieagmbaaMSpoilW
import Derived.Test.YtlmnmcfieagmbaaMPut
namespace Go.Proofs.Ytlmnmcfieagmbaa.MValB
open Go.RowKit Go.Proofs.Ytlmnmcfieagmbaa.MInt Go.Proofs.Ytlmnmcfieagmbaa.MKinds Go.Proofs.Ytlmnmcfieagmbaa.MOk Go.Proofs.Ytlmnmcfieagmbaa.MVal Go.Proofs.Ytlmnmcfieagmbaa.MPut Go.Proofs.Ytlmnmcfieagmbaa.MSpoilV Go.Proofs.Ytlmnmcfieagmbaa.MSpoilW
theorem memB_mk {m : MemV} (h1 : ∀ x ∈ m.secs, secB x = true) (h2 : ∀ e ∈ m.cache, wrB m.secs.length e = true) (h3 : badsB m.secs.length m.bad = true) (h4 : 1 ≤ m.secs.length ∧ m.secs.length ≤ 20) (h5 : m.cache.length ≤ 60) : memB m = true := by
  simp only [memB, Bool.and_eq_true, List.all_eq_true, decide_eq_true_eq, inR]
  exact ⟨h1, h2, h3, by omega, h5⟩
theorem memB_small {m : MemV} (h : memB m = true) : Small m := by
  obtain ⟨h1, h2, h3, h4, h5⟩ := memB_parts h
  refine ⟨by omega, fun x hx => ?_, by omega, fun e he => ?_, ?_⟩
  · have := h1 x hx; simp [secB] at this; omega
  · have := wrB_at (h2 e he); obtain ⟨k, _, _, h6⟩ := this; simp [secB] at h6; omega
  · have hp := bads_pair h3
    have hin : ∀ x ∈ m.bad, 0 ≤ x ∧ x < (m.secs.length : Int) := fun x hx => by
      obtain ⟨i, hi, rfl⟩ := List.getElem_of_mem hx
      have := List.all_eq_true.1 h3 i (List.mem_range.2 hi)
      simp [badB, inR, hi] at this
      omega
    have key : ∀ (l : List Int) (a : Int), l.Pairwise (· < ·) → (∀ x ∈ l, a ≤ x ∧ x < (m.secs.length : Int)) → (l.length : Int) ≤ (m.secs.length : Int) - a ∨ l = [] := by
      intro l
      induction l with
      | nil => intro a _ _; exact .inr rfl
      | cons y l ih =>
        intro a hp hx
        rw [List.pairwise_cons] at hp
        have hy := hx y (by simp)
        rcases ih (y + 1) hp.2 (fun x hx' => ⟨by have := hp.1 x hx'; omega, (hx x (by simp [hx'])).2⟩) with h | h
        · left; rw [List.length_cons]; omega
        · subst h; left; simp; omega
    rcases key m.bad 0 hp hin with h | h
    · omega
    · rw [h]; simp
theorem memB_new {n : Int} (h : 1 ≤ n ∧ n ≤ 20) : memB (newV n) = true := by
  have hn : inR n 1 20 = true := by simp [inR]; omega
  unfold newV
  rw [if_pos hn]
  refine memB_mk ?_ (by simp) (by simp [badsB]) (by simp; omega) (by simp)
  intro x hx
  simp only [List.mem_replicate] at hx
  rw [hx.2]; simp [secB]
theorem mem_putW {secs : List (List Int)} {e : Int × List Int} {P : List Int → Prop} (h : ∀ x ∈ secs, P x) (he : P e.2) : ∀ x ∈ putW secs e, P x := by
  intro x hx
  rcases List.mem_or_eq_of_mem_set hx with h1 | h1
  · exact h x h1
  · rw [h1]; exact he
theorem mem_foldPut {P : List Int → Prop} : ∀ (l : List (Int × List Int)) (secs : List (List Int)), (∀ x ∈ secs, P x) → (∀ e ∈ l, P e.2) → ∀ x ∈ l.foldl putW secs, P x
  | [], secs, h, _ => h
  | e :: l, secs, h, hl => mem_foldPut l _ (mem_putW h (hl e (by simp))) (fun e' he' => hl e' (by simp [he']))
theorem memB_flush {m : MemV} (h : memB m = true) : memB (flushV m) = true := by
  unfold flushV
  split
  · obtain ⟨h1, h2, h3, h4, h5⟩ := memB_parts h
    refine memB_mk ?_ (by simp) (by simpa [foldPut_len] using h3) (by simpa [foldPut_len] using h4) (by simp)
    exact mem_foldPut _ _ h1 (fun e he => (wrB_at (h2 e he)).choose_spec.2.2)
  · exact h
theorem mem_fall {P : List Int → Prop} (k : Int) : ∀ (l : List (Int × List Int)) (j : Nat) (secs : List (List Int)), (∀ x ∈ secs, P x) → (∀ e ∈ l, P e.2) → ∀ x ∈ fallW k j secs l, P x
  | [], j, secs, h, _ => h
  | e :: l, j, secs, h, hl => by
    unfold fallW
    refine mem_fall k l _ _ ?_ (fun e' he' => hl e' (by simp [he']))
    split
    · exact mem_putW h (hl e (by simp))
    · exact h
theorem memB_fall {m : MemV} (h : memB m = true) (k : Int) : memB (fallV m k) = true := by
  unfold fallV
  rw [if_pos h]
  obtain ⟨h1, h2, h3, h4, h5⟩ := memB_parts h
  refine memB_mk ?_ (by simp) (by simpa [fallW_len] using h3) (by simpa [fallW_len] using h4) (by simp)
  exact mem_fall _ _ _ _ h1 (fun e he => (wrB_at (h2 e he)).choose_spec.2.2)
theorem memB_fail {m : MemV} (h : memB m = true) : memB (failV m) = true := by
  obtain ⟨h1, h2, h3, h4, h5⟩ := memB_parts h
  exact memB_mk h1 (by simp [failV]) h3 h4 (by simp [failV])
/-- Rows of numbers that may be bad: strictly rising, in range. -/
theorem badsB_iff {n : Nat} {l : List Int} : badsB n l = true ↔ l.Pairwise (· < ·) ∧ ∀ x ∈ l, 0 ≤ x ∧ x < (n : Int) := by
  constructor
  · intro h
    refine ⟨bads_pair h, fun x hx => ?_⟩
    obtain ⟨i, hi, rfl⟩ := List.getElem_of_mem hx
    have := List.all_eq_true.1 h i (List.mem_range.2 hi)
    simp [badB, inR, hi] at this
    omega
  · rintro ⟨hp, hx⟩
    unfold badsB
    rw [List.all_eq_true]
    intro i hi
    rw [List.mem_range] at hi
    have h1 := hx l[i] (List.getElem_mem hi)
    unfold badB
    have e1 : l.getD i 0 = l[i] := by simp [hi]
    rw [e1]
    by_cases h0 : i = 0
    · subst h0
      simp [inR]; omega
    · have e2 : l.getD (i - 1) 0 = l[i - 1] := by simp [show i - 1 < l.length by omega]
      have h2 := List.pairwise_iff_getElem.1 hp (i - 1) i (by omega) hi (by omega)
      rw [e2]
      simp [inR, h2]; omega
theorem memB_write {m : MemV} (h : memB m = true) (n : Int) (s : List Int) : memB (writeV m n s) = true := by
  unfold writeV
  split
  · rename_i hc
    obtain ⟨h1, h2, h3, h4, h5⟩ := memB_parts h
    have hc2 : inR n 0 ((m.secs.length : Int) - 1) = true ∧ secB s = true ∧ m.cache.length < 60 := by
      simp only [canWrite, Bool.and_eq_true, decide_eq_true_eq] at hc
      exact ⟨hc.2.2.1, hc.2.2.2.1, hc.2.2.2.2⟩
    refine memB_mk h1 (fun e he => ?_) ?_ h4 (by simp; omega)
    · rcases List.mem_append.1 he with he | he
      · exact h2 e he
      · simp only [List.mem_singleton] at he
        subst he
        simp [wrB, hc2.1, hc2.2.1]
    · rw [badsB_iff] at h3 ⊢
      exact ⟨h3.1.sublist List.filter_sublist, fun x hx => h3.2 x (List.mem_filter.1 hx).1⟩
  · exact h
theorem memB_spoil {m : MemV} (h : memB m = true) (n : Int) : memB (spoilV m n) = true := by
  unfold spoilV
  split
  · rename_i hc
    obtain ⟨h1, h2, h3, h4, h5⟩ := memB_parts h
    simp only [Bool.and_eq_true, Bool.not_eq_true'] at hc
    refine memB_mk h1 h2 ?_ h4 h5
    rw [badsB_iff] at h3 ⊢
    refine ⟨insN_pair n _ h3.1 (fun hm => ?_), fun x hx => ?_⟩
    · have := hasN_mem.2 hm; rw [hc.2.2] at this; cases this
    · rcases (insN_mem n x _).1 hx with rfl | hx
      · have := hc.2.1; simp [inR] at this; show 0 ≤ x ∧ x < (m.secs.length : Int); omega
      · exact h3.2 x hx
  · exact h
theorem writeV_failed (m : MemV) (n : Int) (s : List Int) : (writeV m n s).failed = m.failed := by unfold writeV; split <;> rfl
theorem spoilV_failed (m : MemV) (n : Int) : (spoilV m n).failed = m.failed := by unfold spoilV; split <;> rfl
theorem flushV_failed (m : MemV) : (flushV m).failed = m.failed := by unfold flushV; split <;> rfl
theorem flushV_cache {m : MemV} (h : memB m = true) (hf : m.failed = false) : (flushV m).cache.length = 0 := by unfold flushV; rw [h, hf]; rfl
theorem spoilV_cache (m : MemV) (n : Int) : (spoilV m n).cache = m.cache := by unfold spoilV; split <;> rfl
theorem writeV_cache (m : MemV) (n : Int) (s : List Int) : (writeV m n s).cache.length ≤ m.cache.length + 1 := by unfold writeV; split <;> simp
/-- Disks that are small, right or not. -/
def Tiny (m : MemV) : Prop := m.secs.length ≤ 20 ∧ (∀ x ∈ m.secs, x.length ≤ 13) ∧ m.cache.length ≤ 100 ∧ (∀ e ∈ m.cache, e.2.length ≤ 13) ∧ m.bad.length ≤ 100
theorem tiny_small {m : MemV} (h : Tiny m) : Small m := ⟨by have := h.1; omega, fun x hx => by have := h.2.1 x hx; omega, by have := h.2.2.1; omega, fun e he => by have := h.2.2.2.1 e he; omega, by have := h.2.2.2.2; omega⟩
theorem bads_len {n : Nat} {l : List Int} (h : badsB n l = true) : l.length ≤ n := by
  rw [badsB_iff] at h
  have key : ∀ (l : List Int) (a : Int), l.Pairwise (· < ·) → (∀ x ∈ l, a ≤ x ∧ x < (n : Int)) → (l.length : Int) ≤ (n : Int) - a ∨ l = [] := by
    intro l
    induction l with
    | nil => intro a _ _; exact .inr rfl
    | cons y l ih =>
      intro a hp hx
      rw [List.pairwise_cons] at hp
      have hy := hx y (by simp)
      rcases ih (y + 1) hp.2 (fun x hx' => ⟨by have := hp.1 x hx'; omega, (hx x (by simp [hx'])).2⟩) with h | h
      · left; rw [List.length_cons]; omega
      · subst h; left; simp; omega
  rcases key l 0 h.1 h.2 with h | h
  · omega
  · rw [h]; simp
theorem memB_tiny {m : MemV} (h : memB m = true) : Tiny m := by
  obtain ⟨h1, h2, h3, h4, h5⟩ := memB_parts h
  refine ⟨by omega, fun x hx => ?_, by omega, fun e he => ?_, ?_⟩
  · have := h1 x hx; simp [secB] at this; omega
  · have := wrB_at (h2 e he); obtain ⟨k, _, _, h6⟩ := this; simp [secB] at h6; omega
  · have := bads_len h3; omega
theorem tiny_write {m : MemV} (h : Tiny m) (n : Int) {s : List Int} (hs : s.length ≤ 13) : Tiny (writeV m n s) := by
  unfold writeV
  split
  · rename_i hc
    have hc2 : m.cache.length < 60 := by
      simp only [canWrite, Bool.and_eq_true, decide_eq_true_eq] at hc
      exact hc.2.2.2.2
    refine ⟨h.1, h.2.1, by simp; omega, fun e he => ?_, ?_⟩
    · rcases List.mem_append.1 he with he | he
      · exact h.2.2.2.1 e he
      · simp only [List.mem_singleton] at he
        subst he
        exact hs
    · have h1 := List.length_filter_le (fun x => !(x == n)) m.bad
      have := h.2.2.2.2
      show (m.bad.filter _).length ≤ 100
      omega
  · exact h
end Go.Proofs.Ytlmnmcfieagmbaa.MValB
