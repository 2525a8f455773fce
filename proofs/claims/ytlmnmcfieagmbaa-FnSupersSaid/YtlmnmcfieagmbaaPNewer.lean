/- What is written counts: of a disk to which what it knows is written anew, as plain values. -/
import Derived.Test.YtlmnmcfieagmbaaMBest
import Derived.Test.YtlmnmcfieagmbaaMValB
import Derived.Test.YtlmnmcfieagmbaaMReadS
import Derived.Test.YtlmnmcfieagmbaaMWSuper
namespace Go.Proofs.Ytlmnmcfieagmbaa.PNewer
open Go Go.Proofs.Ytlmnmcfieagmbaa.MInt Go.Proofs.Ytlmnmcfieagmbaa.MKinds Go.Proofs.Ytlmnmcfieagmbaa.MRead Go.Proofs.Ytlmnmcfieagmbaa.MOk Go.Proofs.Ytlmnmcfieagmbaa.MVal Go.Proofs.Ytlmnmcfieagmbaa.MValB Go.Proofs.Ytlmnmcfieagmbaa.MReadS Go.Proofs.Ytlmnmcfieagmbaa.MSuper Go.Proofs.Ytlmnmcfieagmbaa.MBest Go.Proofs.Ytlmnmcfieagmbaa.MWSuper
set_option linter.unusedVariables false
set_option linter.unusedSimpArgs false
theorem ofL_sup {s : SupV} (h : supB s = true) : ofL (supL s) = s := by
  have hl : -1 ≤ s.lost ∧ s.lost ≤ 4 := by simp only [supB, lostB, geoB, inR, Bool.and_eq_true, decide_eq_true_eq] at h; omega
  obtain ⟨a, b, c, d, e, f, l, k⟩ := s
  simp only at hl
  have hw : IntKind.i64.wrap l = l := by rw [IntKind.wrap_i64]; omega
  simp [ofL, supL, hw]
theorem put_back {s : SupV} (h : supB s = true) : getB (putSup s) = true ∧ getS (putSup s) = s := by
  have h1 : putSup s = supL s := by unfold putSup; rw [if_pos h]
  have h2 : getB (supL s) = true := by
    unfold getB
    rw [ofL_sup h, h]
    simp [supL]
  rw [h1]
  exact ⟨h2, by unfold getS; rw [if_pos h2, ofL_sup h]⟩
def val (m : MemV) (id : Int) (i : Nat) : Bool := canRead m (i : Int) && (getB (readV m (i : Int)) && ((getS (readV m (i : Int))).id == id && ((getS (readV m (i : Int))).gen % 2 == (i : Int))))
theorem bestC_eq (m : MemV) (id : Int) (p : SupV × Bool) (i : Nat) : bestC m id p i = (val m id i && (!p.2 || decide (p.1.gen < (getS (readV m (i : Int))).gen))) := by
  unfold bestC val
  simp only [Bool.and_assoc]
section
variable {m : MemV} {n k : Int} {xs : List Int}
theorem write_eq (hc : canWrite m n xs = true) : writeV m n xs = ⟨m.secs, m.cache ++ [(n, xs)], m.failed, without m.bad n⟩ := by unfold writeV; rw [if_pos hc]
theorem canWrite_mem (hc : canWrite m n xs = true) : memB m = true := by simp only [canWrite, Bool.and_eq_true] at hc; exact hc.1
theorem read_other (hc : canWrite m n xs = true) (hk : k ≠ n) : canRead (writeV m n xs) k = canRead m k ∧ readV (writeV m n xs) k = readV m k := by
  have hm := canWrite_mem hc
  have hx : memB (writeV m n xs) = true := memB_write hm n xs
  have hb : hasN (without m.bad n) k = hasN m.bad k := by
    unfold hasN without
    rw [List.all_filter]
    congr 2
    funext x
    by_cases hxk : x = k
    · subst hxk; simp [hk]
    · simp [hxk]
  have h1 : canRead (writeV m n xs) k = canRead m k := by
    unfold canRead
    rw [hx, hm, write_eq hc]
    simp only
    rw [hb]
  refine ⟨h1, ?_⟩
  unfold readV
  rw [h1, write_eq hc]
  simp only
  rw [lastS_snoc]
  have : ((n == k) = false) := by simpa using (Ne.symm hk)
  simp only [this]
  rfl
theorem read_same (hc : canWrite m n xs = true) : canRead (writeV m n xs) n = true ∧ readV (writeV m n xs) n = xs := by
  have hm := canWrite_mem hc
  have hx : memB (writeV m n xs) = true := memB_write hm n xs
  have hb : hasN (without m.bad n) n = false := by
    unfold hasN without
    rw [List.all_filter, Bool.not_eq_false', List.all_eq_true]
    intro x _
    by_cases hxk : x = n
    · subst hxk; simp
    · simp [hxk]
  have h1 : canRead (writeV m n xs) n = true := by
    unfold canRead
    rw [hx, write_eq hc]
    simp only
    rw [hb]
    simp only [canWrite, Bool.and_eq_true] at hc
    simp only [Bool.and_eq_true, Bool.not_false, Bool.and_true]
    exact ⟨trivial, hc.2.1, hc.2.2.1⟩
  refine ⟨h1, ?_⟩
  unfold readV
  rw [h1, write_eq hc]
  simp only
  rw [lastS_snoc]
  simp
end
theorem best2 (m : MemV) (id : Int) : bestN m id 2 = bestStep m id (bestStep m id (sup0, false) 0) 1 := by rw [bestN_succ, bestN_succ]; rfl
theorem step_gen {m : MemV} {id : Int} {p : SupV × Bool} {i : Nat} (h : 0 ≤ p.1.gen) : 0 ≤ (bestStep m id p i).1.gen := by
  unfold bestStep
  split
  · rename_i hc
    have hg : getB (readV m (i : Int)) = true := by simp only [bestC, Bool.and_eq_true] at hc; exact hc.2.1
    exact (getS_gen hg).1
  · exact h
theorem best_gen (m : MemV) (id : Int) : 0 ≤ (bestN m id 2).1.gen := by rw [best2]; exact step_gen (step_gen (Int.le_refl 0))
theorem wsup_gen {m : MemV} {s : SupV} (hne : wsupV m s ≠ m) : 0 ≤ s.gen := by
  by_cases h : supB s = true
  · simp only [supB, inR, Bool.and_eq_true, decide_eq_true_eq] at h; exact h.2.1.1
  · exact absurd (by unfold wsupV; rw [if_neg h]) hne
theorem newer {m : MemV} {s : SupV} (hne : wsupV m s ≠ m) :
    (((bestN m s.id 2).2 = false ∨ ((bestN m s.id 2).1.gen < s.gen ∧ s.gen % 2 ≠ (bestN m s.id 2).1.gen % 2)) → bestN (wsupV m s) s.id 2 = (s, true)) ∧ (bestN (wsupV m s) s.id 2).2 = true := by
  have hs : supB s = true := by
    by_cases h : supB s = true
    · exact h
    · exact absurd (by unfold wsupV; rw [if_neg h]) hne
  have hx0 : wsupV m s = writeV m (s.gen % 2) (putSup s) := by unfold wsupV; rw [if_pos hs]
  have hc : canWrite m (s.gen % 2) (putSup s) = true := by
    by_cases h : canWrite m (s.gen % 2) (putSup s) = true
    · exact h
    · exact absurd (by rw [hx0]; unfold writeV; rw [if_neg h]) hne
  obtain ⟨g1, g2⟩ := put_back hs
  obtain ⟨r1, r2⟩ := read_same hc
  have hp : s.gen % 2 = 0 ∨ s.gen % 2 = 1 := by omega
  rw [hx0, best2, best2]
  simp only [bestStep, bestC_eq]
  rcases hp with hp | hp
  · have hv0 : val (writeV m (s.gen % 2) (putSup s)) s.id 0 = true := by
      unfold val
      rw [show ((0 : Nat) : Int) = s.gen % 2 from hp.symm, r1, r2, g1, g2]
      simp
    have e0 : getS (readV (writeV m (s.gen % 2) (putSup s)) ((0 : Nat) : Int)) = s := by rw [show ((0 : Nat) : Int) = s.gen % 2 from hp.symm, r2, g2]
    obtain ⟨o1, o2⟩ := read_other (k := ((1 : Nat) : Int)) hc (by rw [hp]; decide)
    have hv1 : val (writeV m (s.gen % 2) (putSup s)) s.id 1 = val m s.id 1 := by unfold val; rw [o1, o2]
    rw [hv0, hv1, e0, o2]
    generalize hG0 : getS (readV m ((0 : Nat) : Int)) = G0
    generalize hG1 : getS (readV m ((1 : Nat) : Int)) = G1
    have k0 : val m s.id 0 = true → G0.gen % 2 = 0 := by intro h; unfold val at h; simp only [Bool.and_eq_true, beq_iff_eq] at h; rw [← hG0]; exact h.2.2.2
    have k1 : val m s.id 1 = true → G1.gen % 2 = 1 := by intro h; unfold val at h; simp only [Bool.and_eq_true, beq_iff_eq] at h; rw [← hG1]; exact h.2.2.2
    cases hv : val m s.id 0 <;> cases hw : val m s.id 1 <;> simp [hv, hw] at * <;> (try split) <;> (try split) <;> simp_all <;> omega
  · have hv1 : val (writeV m (s.gen % 2) (putSup s)) s.id 1 = true := by
      unfold val
      rw [show ((1 : Nat) : Int) = s.gen % 2 from hp.symm, r1, r2, g1, g2]
      simp
    have e1 : getS (readV (writeV m (s.gen % 2) (putSup s)) ((1 : Nat) : Int)) = s := by rw [show ((1 : Nat) : Int) = s.gen % 2 from hp.symm, r2, g2]
    obtain ⟨o1, o2⟩ := read_other (k := ((0 : Nat) : Int)) hc (by rw [hp]; decide)
    have hv0 : val (writeV m (s.gen % 2) (putSup s)) s.id 0 = val m s.id 0 := by unfold val; rw [o1, o2]
    rw [hv0, hv1, e1, o2]
    generalize hG0 : getS (readV m ((0 : Nat) : Int)) = G0
    generalize hG1 : getS (readV m ((1 : Nat) : Int)) = G1
    have k0 : val m s.id 0 = true → G0.gen % 2 = 0 := by intro h; unfold val at h; simp only [Bool.and_eq_true, beq_iff_eq] at h; rw [← hG0]; exact h.2.2.2
    have k1 : val m s.id 1 = true → G1.gen % 2 = 1 := by intro h; unfold val at h; simp only [Bool.and_eq_true, beq_iff_eq] at h; rw [← hG1]; exact h.2.2.2
    cases hv : val m s.id 0 <;> cases hw : val m s.id 1 <;> simp [hv, hw] at * <;> (try split) <;> (try split) <;> simp_all <;> omega
end Go.Proofs.Ytlmnmcfieagmbaa.PNewer
