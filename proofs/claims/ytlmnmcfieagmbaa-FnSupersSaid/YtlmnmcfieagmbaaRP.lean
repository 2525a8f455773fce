/- A region that draws its order, walked in one order: as RJ, and what needs nothing of the world (an extract) is taken at any time. -/
import Derived.OrdersHeld
import Derived.StillTail
import Derived.Deep.RegionHeld3
import Derived.Test.YtlmnmcfieagmbaaRJ
namespace Go.Proofs.Ytlmnmcfieagmbaa.RP
open Go Go.Proofs.Ytlmnmcfieagmbaa.RJ
set_option linter.unusedVariables false
set_option linter.unusedSimpArgs false
section
variable {P : Program} {ops : Array Oper} {Q : Exit → Act → World → Prop} {md : Region.Mode} {S : World → Prop} {T : List Nat}
def wpAnyP (P : Program) (md : Region.Mode) (ops : Array Oper) (Q : Exit → Act → World → Prop) (S : World → Prop) (T : List Nat) : Nat → Array Bool → Act → World → Prop
  | 0, listed, a, w => Region.ready md ops listed = [] ∧ Q .normal a w
  | fuel + 1, listed, a, w =>
    (Region.ready md ops listed = [] → Q .normal a w) ∧
    ∀ i ∈ Region.ready md ops listed, wpOp P ops Q i (fun a' w' => (T.contains i = false → S w → S w') ∧ wpAnyP P md ops Q S T fuel (listed.setIfInBounds i true) a' w') a w
theorem wpAny_of_P : ∀ (fuel : Nat) (listed : Array Bool) (a : Act) (w : World), wpAnyP P md ops Q S T fuel listed a w → wpAny P md ops Q fuel listed a w
  | 0, _, _, _, h => h
  | fuel + 1, _, _, _, h => ⟨h.1, fun i hi => wpOp_mono (fun a' w' h' => wpAny_of_P fuel _ a' w' h'.2) (h.2 i hi)⟩
theorem wpAnyP_first {i : Nat} {oi : Oper} {v : Value} (hi : ops[i]? = some oi) (hsel : ∀ (j : Nat) (o : Oper) cs b, ops[j]? = some o → o.op ≠ .select cs b)
    (hQ : ∀ c a w, Q (.panic c) (a.put oi.dst v) w → Q (.panic c) a w) (hT : ∀ j, T.contains j = true → Region.waitsFor md ops j i = true) :
    ∀ (fuel : Nat) (listed : Array Bool) (a : Act) (w : World),
      (∀ j oj, ops[j]? = some oj → j ≠ i → listed.getD j true = false → (∀ e ∈ oj.after, Region.binds md e = true → e.on ≠ i) → oi.apart ops oj = true) →
      i ∈ Region.ready md ops listed → YieldsIf P ops S oi v a → S w →
      wpAnyP P md ops Q S T fuel (listed.setIfInBounds i true) (a.put oi.dst v) w → wpAnyP P md ops Q S T (fuel + 1) listed a w := by
  intro fuel
  induction fuel with
  | zero =>
    intro listed a w _ hr hy hS H
    refine ⟨fun h => (by rw [h] at hr; cases hr), fun j hj => ?_⟩
    by_cases hji : j = i
    · subst hji; exact hy.wpOp hi hS ⟨fun _ h => h, H⟩
    · have := ready_mono hj hji
      rw [H.1] at this
      cases this
  | succ fuel ih =>
    intro listed a w hfree hr hy hS H
    refine ⟨fun h => (by rw [h] at hr; cases hr), fun j hj => ?_⟩
    by_cases hji : j = i
    · subst hji; exact hy.wpOp hi hS ⟨fun _ h => h, H⟩
    · have h1 := H.2 j (ready_mono hj hji)
      obtain ⟨hjun, oj, hoj, hall⟩ := mem_ready.1 hj
      have hnot : ∀ e ∈ oj.after, Region.binds md e = true → e.on ≠ i := fun e he hb heq => by
        have h1 := hall e he hb
        have h0 := (mem_ready.1 hr).1
        rw [heq] at h1
        rcases Nat.lt_or_ge i listed.size with h' | h'
        · simp [h'] at h0 h1; rw [h0] at h1; cases h1
        · simp [Array.getElem?_eq_none h'] at h1
      have hTj : T.contains j = false := by
        by_cases hc : T.contains j = true
        · obtain ⟨o2, ho2, e, he, hb, hon⟩ := Region.waitsFor_spec (hT j hc)
          have : o2 = oj := Option.some.inj (ho2.symm.trans hoj)
          subst this
          exact absurd hon (hnot e he hb)
        · simpa using hc
      have h2 := wpOp_putIf hoj (hfree j oj hoj hji hjun hnot) (fun cs b => hsel i oi cs b hi) (fun cs b => hsel j oj cs b hoj) hQ hy h1
      have hfree' : ∀ k ok, ops[k]? = some ok → k ≠ i → (listed.setIfInBounds j true).getD k true = false →
          (∀ e ∈ ok.after, Region.binds md e = true → e.on ≠ i) → oi.apart ops ok = true := fun k ok hk hki hun hno => by
        refine hfree k ok hk hki ?_ hno
        by_cases hjk : j = k
        · subst hjk; exact hjun
        · rw [getD_set_ne true hjk] at hun; exact hun
      refine wpOp_mono (fun a' w' h3 => ⟨h3.2.1, ih (listed.setIfInBounds j true) a' w' hfree' (ready_mono hr (Ne.symm hji)) h3.1 (h3.2.1 hTj hS) ?_⟩) h2
      rw [Array.setIfInBounds_comm _ _ hji]
      exact h3.2.2
/-- What yields whatever the world. -/
theorem wpAnyP_pure {i : Nat} {oi : Oper} {v : Value} (hi : ops[i]? = some oi) (hsel : ∀ (j : Nat) (o : Oper) cs b, ops[j]? = some o → o.op ≠ .select cs b)
    (hQ : ∀ c a w, Q (.panic c) (a.put oi.dst v) w → Q (.panic c) a w) :
    ∀ (fuel : Nat) (listed : Array Bool) (a : Act) (w : World),
      (∀ j oj, ops[j]? = some oj → j ≠ i → listed.getD j true = false → (∀ e ∈ oj.after, Region.binds md e = true → e.on ≠ i) → oi.apart ops oj = true) →
      i ∈ Region.ready md ops listed → YieldsIf P ops (fun _ => True) oi v a →
      wpAnyP P md ops Q S T fuel (listed.setIfInBounds i true) (a.put oi.dst v) w → wpAnyP P md ops Q S T (fuel + 1) listed a w := by
  intro fuel
  induction fuel with
  | zero =>
    intro listed a w _ hr hy H
    refine ⟨fun h => (by rw [h] at hr; cases hr), fun j hj => ?_⟩
    by_cases hji : j = i
    · subst hji; exact hy.wpOp hi trivial ⟨fun _ h => h, H⟩
    · have := ready_mono hj hji
      rw [H.1] at this
      cases this
  | succ fuel ih =>
    intro listed a w hfree hr hy H
    refine ⟨fun h => (by rw [h] at hr; cases hr), fun j hj => ?_⟩
    by_cases hji : j = i
    · subst hji; exact hy.wpOp hi trivial ⟨fun _ h => h, H⟩
    · have h1 := H.2 j (ready_mono hj hji)
      obtain ⟨hjun, oj, hoj, hall⟩ := mem_ready.1 hj
      have hnot : ∀ e ∈ oj.after, Region.binds md e = true → e.on ≠ i := fun e he hb heq => by
        have h1 := hall e he hb
        have h0 := (mem_ready.1 hr).1
        rw [heq] at h1
        rcases Nat.lt_or_ge i listed.size with h' | h'
        · simp [h'] at h0 h1; rw [h0] at h1; cases h1
        · simp [Array.getElem?_eq_none h'] at h1
      have h2 := wpOp_putIf hoj (hfree j oj hoj hji hjun hnot) (fun cs b => hsel i oi cs b hi) (fun cs b => hsel j oj cs b hoj) hQ hy h1
      have hfree' : ∀ k ok, ops[k]? = some ok → k ≠ i → (listed.setIfInBounds j true).getD k true = false →
          (∀ e ∈ ok.after, Region.binds md e = true → e.on ≠ i) → oi.apart ops ok = true := fun k ok hk hki hun hno => by
        refine hfree k ok hk hki ?_ hno
        by_cases hjk : j = k
        · subst hjk; exact hjun
        · rw [getD_set_ne true hjk] at hun; exact hun
      refine wpOp_mono (fun a' w' h3 => ⟨h3.2.1, ih (listed.setIfInBounds j true) a' w' hfree' (ready_mono hr (Ne.symm hji)) h3.1 ?_⟩) h2
      rw [Array.setIfInBounds_comm _ _ hji]
      exact h3.2.2
/-- One order: 1: what reads, or reckons; 2: what yields whatever the world; 0: what is carried out. -/
def wpSeqP (P : Program) (ops : Array Oper) (Q : Exit → Act → World → Prop) (S : World → Prop) (T : List Nat) : List (Nat × Nat) → Act → World → Prop
  | [], a, w => Q .normal a w
  | (i, 1) :: r, a, w => S w ∧ ∃ o v, ops[i]? = some o ∧ (∀ c a w, Q (.panic c) (a.put o.dst v) w → Q (.panic c) a w) ∧ YieldsIf P ops S o v a ∧ wpSeqP P ops Q S T r (a.put o.dst v) w
  | (i, 2) :: r, a, w => ∃ o v, ops[i]? = some o ∧ (∀ c a w, Q (.panic c) (a.put o.dst v) w → Q (.panic c) a w) ∧ YieldsIf P ops (fun _ => True) o v a ∧ wpSeqP P ops Q S T r (a.put o.dst v) w
  | (i, _) :: r, a, w => wpOp P ops Q i (fun a' w' => (T.contains i = false → S w → S w') ∧ wpSeqP P ops Q S T r a' w') a w
def seqPB (md : Region.Mode) (ops : Array Oper) (T : List Nat) : List (Nat × Nat) → Array Bool → Bool
  | [], listed => (Region.ready md ops listed).isEmpty
  | (i, 1) :: r, listed => (Region.ready md ops listed).contains i && Region.free md ops listed i && T.all (fun j => Region.waitsFor md ops j i) && seqPB md ops T r (listed.setIfInBounds i true)
  | (i, 2) :: r, listed => (Region.ready md ops listed).contains i && Region.free md ops listed i && seqPB md ops T r (listed.setIfInBounds i true)
  | (i, _) :: r, listed => decide (Region.ready md ops listed = [i]) && seqPB md ops T r (listed.setIfInBounds i true)
theorem anyP_of_seq (hs : Region.noSelect ops = true) : ∀ (sched : List (Nat × Nat)) (listed : Array Bool) (a : Act) (w : World), seqPB md ops T sched listed = true → wpSeqP P ops Q S T sched a w → wpAnyP P md ops Q S T sched.length listed a w
  | [], listed, a, w, hB, h => ⟨by simpa [seqPB] using hB, h⟩
  | (i, 1) :: r, listed, a, w, hB, h => by
    obtain ⟨hS, o, v, hi, hQ, hy, h'⟩ := h
    simp only [seqPB, Bool.and_eq_true] at hB
    obtain ⟨⟨⟨hr, hf⟩, hT⟩, hB'⟩ := hB
    refine wpAnyP_first hi (Region.noSelect_spec hs) hQ (fun j hj => ?_) r.length listed a w (Region.free_spec hi hf) (by simpa using hr) hy hS (anyP_of_seq hs r _ _ _ hB' h')
    exact List.all_eq_true.1 hT j (by simpa using hj)
  | (i, 2) :: r, listed, a, w, hB, h => by
    obtain ⟨o, v, hi, hQ, hy, h'⟩ := h
    simp only [seqPB, Bool.and_eq_true] at hB
    obtain ⟨⟨hr, hf⟩, hB'⟩ := hB
    exact wpAnyP_pure hi (Region.noSelect_spec hs) hQ r.length listed a w (Region.free_spec hi hf) (by simpa using hr) hy (anyP_of_seq hs r _ _ _ hB' h')
  | (i, 0) :: r, listed, a, w, hB, h => by
    simp only [seqPB, Bool.and_eq_true, decide_eq_true_eq] at hB
    refine ⟨fun h1 => (by rw [hB.1] at h1; cases h1), fun j hj => ?_⟩
    rw [hB.1] at hj
    have hji : j = i := by simpa using hj
    subst hji
    exact wpOp_mono (fun a' w' h' => ⟨h'.1, anyP_of_seq hs r _ a' w' hB.2 h'.2⟩) h
  | (i, n + 3) :: r, listed, a, w, hB, h => by
    simp only [seqPB, Bool.and_eq_true, decide_eq_true_eq] at hB
    refine ⟨fun h1 => (by rw [hB.1] at h1; cases h1), fun j hj => ?_⟩
    rw [hB.1] at hj
    have hji : j = i := by simpa using hj
    subst hji
    exact wpOp_mono (fun a' w' h' => ⟨h'.1, anyP_of_seq hs r _ a' w' hB.2 h'.2⟩) h
/-- The beginning. -/
theorem wp_region_seqp {id : Nat} {a : Act} {w : World} (S : World → Prop) (T : List Nat) (sched : List (Nat × Nat)) (hm : P.follows .mixedOrders = true)
    (hB : (Region.noSelect ops && decide (sched.length = ops.size) && seqPB .any ops T sched (Array.replicate ops.size false)) = true)
    (h : wpSeqP P ops Q S T sched a w.drew) : (Code.region id ops true).wp P Q a w := by
  simp only [Bool.and_eq_true, decide_eq_true_eq] at hB
  obtain ⟨⟨hs, hl⟩, hB'⟩ := hB
  have h1 := anyP_of_seq (md := .any) hs sched _ _ _ hB' h
  rw [hl] at h1
  exact wp_region_any hm (wpAny_of_P _ _ _ _ h1)
theorem seqp_take {i : Nat} {r : List (Nat × Nat)} {a : Act} {w : World} {o : Oper} {v : Value} (hS : S w) (hi : ops[i]? = some o) (hQ : ∀ c a w, Q (.panic c) (a.put o.dst v) w → Q (.panic c) a w) (hw : Region.wanted o (yielded ops a.tmps) = true)
    (hy : ∀ w, S w → (execOp a.eval o).run P w = .ok (.value v) w) (h : wpSeqP P ops Q S T r (a.put o.dst v) w) : wpSeqP P ops Q S T ((i, 1) :: r) a w :=
  ⟨hS, o, v, hi, hQ, .inl ⟨hw, hy⟩, h⟩
theorem seqp_pure {i : Nat} {r : List (Nat × Nat)} {a : Act} {w : World} {o : Oper} {v : Value} (hi : ops[i]? = some o) (hQ : ∀ c a w, Q (.panic c) (a.put o.dst v) w → Q (.panic c) a w) (hw : Region.wanted o (yielded ops a.tmps) = true)
    (hy : ∀ w, (execOp a.eval o).run P w = .ok (.value v) w) (h : wpSeqP P ops Q S T r (a.put o.dst v) w) : wpSeqP P ops Q S T ((i, 2) :: r) a w :=
  ⟨o, v, hi, hQ, .inl ⟨hw, fun w _ => hy w⟩, h⟩
theorem seqp_step {i : Nat} {r : List (Nat × Nat)} {a : Act} {w : World} {o : Oper} (hi : ops[i]? = some o)
    (h : ∀ K : Act → World → Prop, Next_ K (fun a' w' => (T.contains i = false → S w → S w') ∧ wpSeqP P ops Q S T r a' w') → if Region.wanted o (yielded ops a.tmps) = true then o.wp P a w K Q else K (a.put o.dst undef) w) : wpSeqP P ops Q S T ((i, 0) :: r) a w := by
  have h1 := h _ ⟨fun _ _ h => h⟩
  show wpOp P ops Q i _ a w
  unfold wpOp
  simp only [hi]
  split
  · rename_i hw
    rw [if_pos hw] at h1
    exact .inl h1
  · rename_i hw
    rw [if_neg hw] at h1
    exact h1
theorem seqp_done {a : Act} {w : World} (h : Q .normal a w) : wpSeqP P ops Q S T [] a w := h
end
end Go.Proofs.Ytlmnmcfieagmbaa.RP
