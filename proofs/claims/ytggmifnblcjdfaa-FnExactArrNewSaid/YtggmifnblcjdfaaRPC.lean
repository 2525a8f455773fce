/- A region that draws its order, walked in one order: as RP; what is taken first is waited for by what turns the world, directly or through others. -/
import Derived.Test.YtggmifnblcjdfaaRP
namespace Go.Proofs.Ytggmifnblcjdfaa.RPC
open Go Go.Proofs.Ytggmifnblcjdfaa.RJ Go.Proofs.Ytggmifnblcjdfaa.RP
set_option linter.unusedVariables false
set_option linter.unusedSimpArgs false
section
variable {P : Program} {ops : Array Oper} {Q : Exit → Act → World → Prop} {md : Region.Mode} {S : World → Prop} {T : List Nat}
/-- j waits for i, or for one that does. -/
def reach (md : Region.Mode) (ops : Array Oper) : Nat → Nat → Nat → Bool
  | 0, _, _ => false
  | n + 1, j, i => match ops[j]? with
    | some o => o.after.any (fun e => Region.binds md e && (e.on == i || reach md ops n e.on i))
    | none => false
theorem reach_some {n i j : Nat} (h : reach md ops (n + 1) j i = true) : ∃ o e, ops[j]? = some o ∧ e ∈ o.after ∧ Region.binds md e = true ∧ (e.on = i ∨ reach md ops n e.on i = true) := by
  rw [reach] at h
  cases ho : ops[j]? with
  | none => rw [ho] at h; cases h
  | some o =>
    rw [ho] at h
    obtain ⟨e, he, h2⟩ := Array.any_eq_true'.1 h
    rw [Bool.and_eq_true, Bool.or_eq_true, beq_iff_eq] at h2
    exact ⟨o, e, rfl, he, h2.1, h2.2⟩
theorem some_reach {n i j : Nat} (h : ∃ o e, ops[j]? = some o ∧ e ∈ o.after ∧ Region.binds md e = true ∧ (e.on = i ∨ reach md ops n e.on i = true)) : reach md ops (n + 1) j i = true := by
  obtain ⟨o, e, ho, he, hb, h1⟩ := h
  rw [reach, ho]
  refine Array.any_eq_true'.2 ⟨e, he, ?_⟩
  rw [Bool.and_eq_true, Bool.or_eq_true, beq_iff_eq]
  exact ⟨hb, h1⟩
theorem reach_up {i : Nat} : ∀ (n j : Nat), reach md ops n j i = true → reach md ops (n + 1) j i = true
  | 0, j, h => by cases h
  | n + 1, j, h => by
    obtain ⟨o, e, ho, he, hb, h1⟩ := reach_some h
    exact some_reach ⟨o, e, ho, he, hb, h1.imp_right (reach_up n e.on)⟩
theorem reach_step {n i j : Nat} (h : reach md ops n j i = true) : ∃ o e, ops[j]? = some o ∧ e ∈ o.after ∧ Region.binds md e = true ∧ (e.on = i ∨ reach md ops n e.on i = true) := by
  cases n with
  | zero => cases h
  | succ n =>
    obtain ⟨o, e, ho, he, hb, h1⟩ := reach_some h
    exact ⟨o, e, ho, he, hb, h1.imp_right (reach_up n e.on)⟩
theorem reach_lt {n i j : Nat} (h : reach md ops n j i = true) : j < ops.size := by
  obtain ⟨o, e, ho, _⟩ := reach_step h
  exact (Array.getElem?_eq_some_iff.1 ho).1
theorem wpAnyP_first2 {i : Nat} {oi : Oper} {v : Value} (hi : ops[i]? = some oi) (hsel : ∀ (j : Nat) (o : Oper) cs b, ops[j]? = some o → o.op ≠ .select cs b)
    (hQ : ∀ c a w, Q (.panic c) (a.put oi.dst v) w → Q (.panic c) a w) {C : Nat → Prop} (hT : ∀ j, T.contains j = true → C j) (hC : ∀ j, C j → ∃ o e, ops[j]? = some o ∧ e ∈ o.after ∧ Region.binds md e = true ∧ (e.on = i ∨ C e.on)) :
    ∀ (fuel : Nat) (listed : Array Bool) (a : Act) (w : World),
      (∀ j oj, ops[j]? = some oj → j ≠ i → listed.getD j true = false → (∀ e ∈ oj.after, Region.binds md e = true → e.on ≠ i) → oi.apart ops oj = true) →
      (∀ k, C k → listed.getD k true = false) → i ∈ Region.ready md ops listed → YieldsIf P ops S oi v a → S w →
      wpAnyP P md ops Q S T fuel (listed.setIfInBounds i true) (a.put oi.dst v) w → wpAnyP P md ops Q S T (fuel + 1) listed a w := by
  intro fuel
  induction fuel with
  | zero =>
    intro listed a w _ hCl hr hy hS H
    refine ⟨fun h => (by rw [h] at hr; cases hr), fun j hj => ?_⟩
    by_cases hji : j = i
    · subst hji; exact hy.wpOp hi hS ⟨fun _ h => h, H⟩
    · have := ready_mono hj hji
      rw [H.1] at this
      cases this
  | succ fuel ih =>
    intro listed a w hfree hCl hr hy hS H
    refine ⟨fun h => (by rw [h] at hr; cases hr), fun j hj => ?_⟩
    by_cases hji : j = i
    · subst hji; exact hy.wpOp hi hS ⟨fun _ h => h, H⟩
    · have h1 := H.2 j (ready_mono hj hji)
      obtain ⟨hjun, oj, hoj, hall⟩ := mem_ready.1 hj
      have hnot : ∀ e ∈ oj.after, Region.binds md e = true → e.on ≠ i := fun e he hb heq => by
        have h1 := hall e he hb
        have h0 := (mem_ready.1 hr).1
        rw [heq] at h1
        rcases Nat.lt_or_ge i listed.size with h' | h'
        · simp [h'] at h0 h1; rw [h0] at h1; cases h1
        · simp [Array.getElem?_eq_none h'] at h1
      have hCj : ¬ C j := fun hc => by
        obtain ⟨o2, e, ho2, he, hb, hon⟩ := hC j hc
        have : o2 = oj := Option.some.inj (ho2.symm.trans hoj)
        subst this
        rcases hon with hon | hk
        · exact absurd hon (hnot e he hb)
        · have h6 := hall e he hb
          have h7 := hCl _ hk
          rcases Nat.lt_or_ge e.on listed.size with h' | h'
          · simp [h'] at h6 h7; rw [h6] at h7; cases h7
          · simp [Array.getElem?_eq_none h'] at h6
      have hTj : T.contains j = false := by
        by_cases hc : T.contains j = true
        · exact absurd (hT j hc) hCj
        · simpa using hc
      have hCl' : ∀ k, C k → (listed.setIfInBounds j true).getD k true = false := fun k hk => by
        rw [getD_set_ne true (fun h => hCj (by rw [h]; exact hk))]; exact hCl k hk
      have h2 := wpOp_putIf hoj (hfree j oj hoj hji hjun hnot) (fun cs b => hsel i oi cs b hi) (fun cs b => hsel j oj cs b hoj) hQ hy h1
      have hfree' : ∀ k ok, ops[k]? = some ok → k ≠ i → (listed.setIfInBounds j true).getD k true = false →
          (∀ e ∈ ok.after, Region.binds md e = true → e.on ≠ i) → oi.apart ops ok = true := fun k ok hk hki hun hno => by
        refine hfree k ok hk hki ?_ hno
        by_cases hjk : j = k
        · subst hjk; exact hjun
        · rw [getD_set_ne true hjk] at hun; exact hun
      refine wpOp_mono (fun a' w' h3 => ⟨h3.2.1, ih (listed.setIfInBounds j true) a' w' hfree' hCl' (ready_mono hr (Ne.symm hji)) h3.1 (h3.2.1 hTj hS) ?_⟩) h2
      rw [Array.setIfInBounds_comm _ _ hji]
      exact h3.2.2
def seqPC (md : Region.Mode) (ops : Array Oper) (T : List Nat) : List (Nat × Nat) → Array Bool → Bool
  | [], listed => (Region.ready md ops listed).isEmpty
  | (i, 1) :: r, listed => (Region.ready md ops listed).contains i && Region.free md ops listed i && T.all (fun j => reach md ops 5 j i) && (List.range ops.size).all (fun k => !reach md ops 5 k i || !listed.getD k true) && seqPC md ops T r (listed.setIfInBounds i true)
  | (i, 2) :: r, listed => (Region.ready md ops listed).contains i && Region.free md ops listed i && seqPC md ops T r (listed.setIfInBounds i true)
  | (i, _) :: r, listed => decide (Region.ready md ops listed = [i]) && seqPC md ops T r (listed.setIfInBounds i true)
theorem anyP_of_seqc (hs : Region.noSelect ops = true) : ∀ (sched : List (Nat × Nat)) (listed : Array Bool) (a : Act) (w : World), seqPC md ops T sched listed = true → wpSeqP P ops Q S T sched a w → wpAnyP P md ops Q S T sched.length listed a w
  | [], listed, a, w, hB, h => ⟨by simpa [seqPC] using hB, h⟩
  | (i, 1) :: r, listed, a, w, hB, h => by
    obtain ⟨hS, o, v, hi, hQ, hy, h'⟩ := h
    simp only [seqPC, Bool.and_eq_true] at hB
    obtain ⟨⟨⟨⟨hr, hf⟩, hT⟩, hl⟩, hB'⟩ := hB
    refine wpAnyP_first2 (C := fun k => reach md ops 5 k i = true) hi (Region.noSelect_spec hs) hQ (fun j hj => List.all_eq_true.1 hT j (by simpa using hj)) (fun j hj => reach_step hj) r.length listed a w (Region.free_spec hi hf) (fun k hk => ?_) (by simpa using hr) hy hS (anyP_of_seqc hs r _ _ _ hB' h')
    have h1 := List.all_eq_true.1 hl k (List.mem_range.2 (reach_lt hk))
    have hk2 : reach md ops 5 k i = true := hk
    rw [hk2] at h1
    simpa using h1
  | (i, 2) :: r, listed, a, w, hB, h => by
    obtain ⟨o, v, hi, hQ, hy, h'⟩ := h
    simp only [seqPC, Bool.and_eq_true] at hB
    obtain ⟨⟨hr, hf⟩, hB'⟩ := hB
    exact wpAnyP_pure hi (Region.noSelect_spec hs) hQ r.length listed a w (Region.free_spec hi hf) (by simpa using hr) hy (anyP_of_seqc hs r _ _ _ hB' h')
  | (i, 0) :: r, listed, a, w, hB, h => by
    simp only [seqPC, Bool.and_eq_true, decide_eq_true_eq] at hB
    refine ⟨fun h1 => (by rw [hB.1] at h1; cases h1), fun j hj => ?_⟩
    rw [hB.1] at hj
    have hji : j = i := by simpa using hj
    subst hji
    exact wpOp_mono (fun a' w' h' => ⟨h'.1, anyP_of_seqc hs r _ a' w' hB.2 h'.2⟩) h
  | (i, n + 3) :: r, listed, a, w, hB, h => by
    simp only [seqPC, Bool.and_eq_true, decide_eq_true_eq] at hB
    refine ⟨fun h1 => (by rw [hB.1] at h1; cases h1), fun j hj => ?_⟩
    rw [hB.1] at hj
    have hji : j = i := by simpa using hj
    subst hji
    exact wpOp_mono (fun a' w' h' => ⟨h'.1, anyP_of_seqc hs r _ a' w' hB.2 h'.2⟩) h
/-- The beginning. -/
theorem wp_region_seqc {id : Nat} {a : Act} {w : World} (S : World → Prop) (T : List Nat) (sched : List (Nat × Nat)) (hm : P.follows .mixedOrders = true)
    (hB : (Region.noSelect ops && decide (sched.length = ops.size) && seqPC .any ops T sched (Array.replicate ops.size false)) = true)
    (h : wpSeqP P ops Q S T sched a w.drew) : (Code.region id ops true).wp P Q a w := by
  simp only [Bool.and_eq_true, decide_eq_true_eq] at hB
  obtain ⟨⟨hs, hl⟩, hB'⟩ := hB
  have h1 := anyP_of_seqc (md := .any) hs sched _ _ _ hB' h
  rw [hl] at h1
  exact wp_region_any hm (wpAny_of_P _ _ _ _ h1)
end
end Go.Proofs.Ytggmifnblcjdfaa.RPC
