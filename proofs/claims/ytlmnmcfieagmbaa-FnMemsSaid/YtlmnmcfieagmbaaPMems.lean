/- What is written is read: plain laws. -/
import Derived.Test.YtlmnmcfieagmbaaPFalls
import Derived.Test.YtlmnmcfieagmbaaMReadS
namespace Go.Proofs.Ytlmnmcfieagmbaa.PMems
open Go.RowKit Go.Proofs.Ytlmnmcfieagmbaa.MInt Go.Proofs.Ytlmnmcfieagmbaa.MKinds Go.Proofs.Ytlmnmcfieagmbaa.MOk Go.Proofs.Ytlmnmcfieagmbaa.MVal Go.Proofs.Ytlmnmcfieagmbaa.MValB Go.Proofs.Ytlmnmcfieagmbaa.PFalls Go.Proofs.Ytlmnmcfieagmbaa.MSpoilW
theorem canWrite_parts {m : MemV} {n : Int} {s : List Int} (h : canWrite m n s = true) : memB m = true ∧ m.failed = false ∧ (0 ≤ n ∧ n < (m.secs.length : Int)) ∧ secB s = true ∧ m.cache.length < 60 := by
  simp only [canWrite, Bool.and_eq_true, Bool.not_eq_true', decide_eq_true_eq] at h
  have h2 := h.2.2.1
  simp [inR] at h2
  exact ⟨h.1, h.2.1, by omega, h.2.2.2.1, h.2.2.2.2⟩
theorem lastS_snoc' (l : List (Int × List Int)) (n k : Int) (s t : List Int) : lastS (l ++ [(n, s)]) k t = if n == k then s else lastS l k t := by
  unfold lastS
  rw [List.foldl_append]
  rfl
theorem hasN_without (l : List Int) (n k : Int) : hasN (without l n) k = (hasN l k && !(k == n)) := by
  rw [Bool.eq_iff_iff, Bool.and_eq_true, hasN_mem, hasN_mem]
  unfold without
  rw [List.mem_filter]
theorem writeV_ok {m : MemV} {n : Int} {s : List Int} (h : canWrite m n s = true) : writeV m n s = ⟨m.secs, m.cache ++ [(n, s)], m.failed, without m.bad n⟩ := by unfold writeV; rw [if_pos h]
theorem writeV_no {m : MemV} {n : Int} {s : List Int} (h : canWrite m n s = false) : writeV m n s = m := by unfold writeV; rw [h]; rfl
/-- What is written is read. -/
theorem read_written {m : MemV} {n : Int} {s : List Int} (h : canWrite m n s = true) : canRead (writeV m n s) n = true ∧ readV (writeV m n s) n = s := by
  obtain ⟨h1, h2, h3, h4, h5⟩ := canWrite_parts h
  have hc : canRead (writeV m n s) n = true := by
    have hb := memB_write h1 n s
    unfold canRead
    rw [hb]
    rw [writeV_ok h]
    simp only [h2, hasN_without]
    simp [inR]; omega
  refine ⟨hc, ?_⟩
  unfold readV
  rw [if_pos hc, writeV_ok h, lastS_snoc']
  simp
/-- No other sector turns. -/
theorem read_other {m : MemV} {n k : Int} {s : List Int} (h : canWrite m n s = true) (hk : k ≠ n) : canRead (writeV m n s) k = canRead m k ∧ readV (writeV m n s) k = readV m k := by
  obtain ⟨h1, h2, h3, h4, h5⟩ := canWrite_parts h
  have hc : canRead (writeV m n s) k = canRead m k := by
    have hb := memB_write h1 n s
    unfold canRead
    rw [hb, h1]
    rw [writeV_ok h]
    have hkn : (k == n) = false := by simpa using hk
    simp only [hasN_without, hkn]
    simp
  refine ⟨hc, ?_⟩
  unfold readV
  rw [hc, writeV_ok h, lastS_snoc']
  have hnk : (n == k) = false := by simpa using (Ne.symm hk)
  rw [hnk]
  rfl
theorem foldPut_get : ∀ (l : List (Int × List Int)) (secs : List (List Int)) (k : Nat), (∀ e ∈ l, 0 ≤ e.1) → k < secs.length → (l.foldl putW secs).getD k [] = lastS l (k : Int) (secs.getD k [])
  | [], secs, k, _, _ => rfl
  | e :: l, secs, k, h, hk => by
    rw [List.foldl_cons, foldPut_get l _ k (fun e' he' => h e' (by simp [he'])) (by rw [putW_len]; exact hk)]
    show lastS l k _ = lastS l k (if e.1 == (k : Int) then e.2 else secs.getD k [])
    congr 1
    have he := h e (by simp)
    unfold putW
    by_cases hq : e.1 = (k : Int)
    · rw [hq]
      simp [hk]
    · have hq2 : (e.1 == (k : Int)) = false := by simpa using hq
      rw [hq2]
      have hq3 : e.1.toNat ≠ k := by omega
      simp only [List.getD_eq_getElem?_getD, List.getElem?_set_ne hq3]
      rfl
/-- Flushed, a sector reads as before. -/
theorem read_flushed {m : MemV} {k : Nat} (h : memB m = true) (hf : m.failed = false) (hk : k < m.secs.length) : canRead (flushV m) (k : Int) = canRead m (k : Int) ∧ readV (flushV m) (k : Int) = readV m (k : Int) := by
  have he : flushV m = ⟨m.cache.foldl putW m.secs, [], m.failed, m.bad⟩ := by unfold flushV; rw [h, hf]; rfl
  have hc : canRead (flushV m) (k : Int) = canRead m (k : Int) := by
    have hb := memB_flush h
    unfold canRead
    rw [hb, h, he]
    simp [foldPut_len]
  refine ⟨hc, ?_⟩
  unfold readV
  rw [hc, he]
  simp only [Int.toNat_natCast]
  rw [foldPut_get _ _ _ (fun e he' => by obtain ⟨q, hq, _⟩ := wrB_at ((memB_parts h).2.1 e he'); omega) hk]
  rfl
theorem flushed_written {m : MemV} {n : Int} {s : List Int} (h : canWrite m n s = true) : (flushV (writeV m n s)).secs[n.toNat]? = some s := by
  obtain ⟨h1, h2, h3, h4, h5⟩ := canWrite_parts h
  have hb := memB_write h1 n s
  have hl : n.toNat < (flushV (writeV m n s)).secs.length := by rw [flushV_len, writeV_ok h]; show n.toNat < m.secs.length; omega
  have hx : (flushV (writeV m n s)).secs.getD n.toNat [] = s := by
    rw [flushV_secs hb (by rw [writeV_failed]; exact h2)]
    rw [foldPut_get _ _ _ (fun e he' => by obtain ⟨q, hq, _⟩ := wrB_at ((memB_parts hb).2.1 e he'); omega) (by rw [writeV_ok h]; show n.toNat < m.secs.length; omega)]
    rw [writeV_ok h]
    show lastS (m.cache ++ [(n, s)]) _ _ = s
    rw [lastS_snoc']
    have : (n == ((n.toNat : Nat) : Int)) = true := by simp; omega
    rw [this]; rfl
  rw [List.getElem?_eq_getElem hl]
  rw [List.getD_eq_getElem?_getD, List.getElem?_eq_getElem hl] at hx
  rw [show (flushV (writeV m n s)).secs[n.toNat] = s from hx]
end Go.Proofs.Ytlmnmcfieagmbaa.PMems
