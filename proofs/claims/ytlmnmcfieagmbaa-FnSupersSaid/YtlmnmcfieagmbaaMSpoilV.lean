/- What SpoilSec's insertion leaves: plain laws. -/
import Derived.Test.YtlmnmcfieagmbaaMVal
namespace Go.Proofs.Ytlmnmcfieagmbaa.MSpoilV
open Go.RowKit Go.Proofs.Ytlmnmcfieagmbaa.MInt Go.Proofs.Ytlmnmcfieagmbaa.MKinds Go.Proofs.Ytlmnmcfieagmbaa.MOk Go.Proofs.Ytlmnmcfieagmbaa.MVal
theorem insN_split (n : Int) : ∀ (p q : List Int), (∀ x ∈ p, x < n) → (∀ x ∈ q, ¬ x < n) → insN n (p ++ q) = p ++ n :: q
  | [], [], _, _ => rfl
  | [], x :: q, _, h => by simp [insN, h x (by simp)]
  | x :: p, q, h, k => by
    have hx := h x (by simp)
    simp only [List.cons_append, insN, if_pos hx, insN_split n p q (fun y hy => h y (by simp [hy])) k]
theorem bads_step {n : Nat} {l : List Int} (h : badsB n l = true) {i : Nat} (hi : i + 1 < l.length) : l.getD i 0 < l.getD (i + 1) 0 := by
  have h1 := List.all_eq_true.1 h (i + 1) (List.mem_range.2 hi)
  simp [badB] at h1
  exact by simpa using h1.2
theorem bads_le {n : Nat} {l : List Int} (h : badsB n l = true) : ∀ (d i : Nat), i + d < l.length → l.getD i 0 ≤ l.getD (i + d) 0
  | 0, i, _ => Int.le_refl _
  | d + 1, i, hi => by
    have h1 := bads_le h d i (by omega)
    have h2 := bads_step h (i := i + d) (by omega)
    have h3 : i + d + 1 = i + (d + 1) := by omega
    rw [h3] at h2
    omega
theorem take_lt {m : Nat} {l : List Int} (h : badsB m l = true) {n : Int} (hn : hasN l n = false) {k : Nat} (hk : k ≤ l.length) (hb : k = 0 ∨ l.getD (k - 1) 0 ≤ n) : ∀ x ∈ l.take k, x < n := by
  intro x hx
  obtain ⟨i, hi, rfl⟩ := List.mem_take_iff_getElem.1 hx
  have hik : i < k := by omega
  have hil : i < l.length := by omega
  have h1 := bads_le h (k - 1 - i) i (by omega)
  have h2 : i + (k - 1 - i) = k - 1 := by omega
  rw [h2] at h1
  have h3 : l.getD i 0 = l[i] := by simp [hil]
  have h4 : l[i] ≠ n := by
    intro e
    have : hasN l n = true := by unfold hasN; simp; exact e ▸ List.getElem_mem hil
    rw [hn] at this; cases this
  rcases hb with hb | hb
  · omega
  · omega
end Go.Proofs.Ytlmnmcfieagmbaa.MSpoilV
