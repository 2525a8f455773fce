/- What is read of words is right, and has these words. -/
import Derived.Test.YtlmnmcfieagmbaaPNewer
namespace Go.Proofs.Ytlmnmcfieagmbaa.PSupers
open Go Go.Proofs.Ytlmnmcfieagmbaa.MInt Go.Proofs.Ytlmnmcfieagmbaa.MSuper
theorem get_put {l : List Int} (hb : ∀ z ∈ l, -1 ≤ z ∧ z ≤ 60001) (h : getB l = true) : supB (getS l) = true ∧ putSup (getS l) = l := by
  have h2 : getS l = ofL l := by unfold getS; rw [if_pos h]
  have h9 : l.length = 9 := by simp [getB] at h; exact h.1
  have h3 : supB (ofL l) = true := by simp [getB] at h; exact h.2.2
  have h4 : l.getD 0 0 = 21317 := by simp [getB] at h; simpa using h.2.1
  rw [h2]
  refine ⟨h3, ?_⟩
  unfold putSup
  rw [if_pos h3]
  obtain ⟨a0, a1, a2, a3, a4, a5, a6, a7, a8, rfl⟩ := nine h9
  have h7 := hb a7 (by simp)
  have hw : IntKind.i64.wrap (a7 - 1) = a7 - 1 := by rw [IntKind.wrap_i64]; omega
  simp at h4
  simp [supL, ofL, hw, h4]
end Go.Proofs.Ytlmnmcfieagmbaa.PSupers
