/- A region that draws its order, walked along a tree of orders: as RP, and where two operations may come first, both ways. -/
import Derived.Test.YtlmnmcfieagmbaaRP
namespace Go.Proofs.Ytlmnmcfieagmbaa.RQ
open Go Go.Proofs.Ytlmnmcfieagmbaa.RJ Go.Proofs.Ytlmnmcfieagmbaa.RP
set_option linter.unusedVariables false
set_option linter.unusedSimpArgs false
inductive Tr where
  | nil : Tr
  | s (i : Nat) (r : Tr) : Tr
  | t (i : Nat) (r : Tr) : Tr
  | p (i : Nat) (r : Tr) : Tr
  | alt (i : Nat) (ri : Tr) (r : Tr) : Tr
def Tr.len : Tr → Nat
  | .nil => 0
  | .s _ r => r.len + 1
  | .t _ r => r.len + 1
  | .p _ r => r.len + 1
  | .alt _ ri _ => ri.len + 1
/-- What may come first. -/
def Tr.heads : Tr → List Nat
  | .s i _ => [i]
  | .alt i _ r => i :: r.heads
  | _ => []
section
variable {P : Program} {ops : Array Oper} {Q : Exit → Act → World → Prop} {md : Region.Mode} {S : World → Prop} {T : List Nat}
def wpTr (P : Program) (ops : Array Oper) (Q : Exit → Act → World → Prop) (S : World → Prop) (T : List Nat) : Tr → Act → World → Prop
  | .nil, a, w => Q .normal a w
  | .t i r, a, w => S w ∧ ∃ o v, ops[i]? = some o ∧ (∀ c a w, Q (.panic c) (a.put o.dst v) w → Q (.panic c) a w) ∧ YieldsIf P ops S o v a ∧ wpTr P ops Q S T r (a.put o.dst v) w
  | .p i r, a, w => ∃ o v, ops[i]? = some o ∧ (∀ c a w, Q (.panic c) (a.put o.dst v) w → Q (.panic c) a w) ∧ YieldsIf P ops (fun _ => True) o v a ∧ wpTr P ops Q S T r (a.put o.dst v) w
  | .s i r, a, w => wpOp P ops Q i (fun a' w' => (T.contains i = false → S w → S w') ∧ wpTr P ops Q S T r a' w') a w
  | .alt i ri r, a, w => wpOp P ops Q i (fun a' w' => (T.contains i = false → S w → S w') ∧ wpTr P ops Q S T ri a' w') a w ∧ wpTr P ops Q S T r a w
/-- b: whether what is ready is looked at. -/
def trB (md : Region.Mode) (ops : Array Oper) (T : List Nat) : Tr → Bool → Array Bool → Bool
  | .nil, _, listed => (Region.ready md ops listed).isEmpty
  | .t i r, _, listed => (Region.ready md ops listed).contains i && Region.free md ops listed i && T.all (fun j => Region.waitsFor md ops j i) && trB md ops T r true (listed.setIfInBounds i true)
  | .p i r, _, listed => (Region.ready md ops listed).contains i && Region.free md ops listed i && trB md ops T r true (listed.setIfInBounds i true)
  | .s i r, b, listed => (!b || decide (Region.ready md ops listed = [i])) && trB md ops T r true (listed.setIfInBounds i true)
  | .alt i ri r, b, listed => (!b || (Region.ready md ops listed).all (fun k => (i :: r.heads).contains k) && !(Region.ready md ops listed).isEmpty) && decide (ri.len + 1 = r.len) && trB md ops T ri true (listed.setIfInBounds i true) && trB md ops T r false listed
theorem any_of_tr2 (hs : Region.noSelect ops = true) : ∀ (tr : Tr) (listed : Array Bool) (a : Act) (w : World),
    (trB md ops T tr true listed = true → wpTr P ops Q S T tr a w → wpAnyP P md ops Q S T tr.len listed a w) ∧
    (trB md ops T tr false listed = true → wpTr P ops Q S T tr a w → ∀ k ∈ tr.heads, wpOp P ops Q k (fun a' w' => (T.contains k = false → S w → S w') ∧ wpAnyP P md ops Q S T (tr.len - 1) (listed.setIfInBounds k true) a' w') a w) := by
  intro tr
  induction tr with
  | nil =>
    intro listed a w
    exact ⟨fun hB h => ⟨by simpa [trB] using hB, h⟩, fun _ _ k hk => by cases hk⟩
  | t i r ih =>
    intro listed a w
    refine ⟨fun hB h => ?_, fun _ _ k hk => by cases hk⟩
    obtain ⟨hS, o, v, hi, hQ, hy, h'⟩ := h
    simp only [trB, Bool.and_eq_true] at hB
    obtain ⟨⟨⟨hr, hf⟩, hT⟩, hB'⟩ := hB
    refine wpAnyP_first hi (Region.noSelect_spec hs) hQ (fun j hj => ?_) r.len listed a w (Region.free_spec hi hf) (by simpa using hr) hy hS ((ih _ _ _).1 hB' h')
    exact List.all_eq_true.1 hT j (by simpa using hj)
  | p i r ih =>
    intro listed a w
    refine ⟨fun hB h => ?_, fun _ _ k hk => by cases hk⟩
    obtain ⟨o, v, hi, hQ, hy, h'⟩ := h
    simp only [trB, Bool.and_eq_true] at hB
    obtain ⟨⟨hr, hf⟩, hB'⟩ := hB
    exact wpAnyP_pure hi (Region.noSelect_spec hs) hQ r.len listed a w (Region.free_spec hi hf) (by simpa using hr) hy ((ih _ _ _).1 hB' h')
  | s i r ih =>
    intro listed a w
    refine ⟨fun hB h => ?_, fun hB h k hk => ?_⟩
    · simp only [trB, Bool.and_eq_true, Bool.not_true, Bool.false_or, decide_eq_true_eq] at hB
      refine ⟨fun h1 => (by rw [hB.1] at h1; cases h1), fun j hj => ?_⟩
      rw [hB.1] at hj
      have hji : j = i := by simpa using hj
      subst hji
      exact wpOp_mono (fun a' w' h' => ⟨h'.1, (ih _ _ _).1 hB.2 h'.2⟩) h
    · have hki : k = i := by simpa [Tr.heads] using hk
      subst hki
      simp only [trB, Bool.and_eq_true] at hB
      exact wpOp_mono (fun a' w' h' => ⟨h'.1, (ih _ _ _).1 hB.2 h'.2⟩) h
  | alt i ri r ihi ihr =>
    intro listed a w
    have key : trB md ops T (.alt i ri r) false listed = true → wpTr P ops Q S T (.alt i ri r) a w → ∀ k ∈ (Tr.alt i ri r).heads, wpOp P ops Q k (fun a' w' => (T.contains k = false → S w → S w') ∧ wpAnyP P md ops Q S T ((Tr.alt i ri r).len - 1) (listed.setIfInBounds k true) a' w') a w := by
      intro hB h k hk
      simp only [trB, Bool.and_eq_true, decide_eq_true_eq] at hB
      rcases List.mem_cons.1 hk with rfl | hk
      · exact wpOp_mono (fun a' w' h' => ⟨h'.1, (ihi _ _ _).1 hB.1.2 h'.2⟩) h.1
      · refine wpOp_mono (fun a' w' h' => ⟨h'.1, ?_⟩) ((ihr _ _ _).2 hB.2 h.2 k hk)
        have hl := hB.1.1.2
        have h9 := h'.2
        rw [← hl] at h9
        exact h9
    refine ⟨fun hB h => ?_, key⟩
    simp only [trB, Bool.and_eq_true, Bool.not_true, Bool.false_or] at hB
    obtain ⟨⟨⟨⟨hr, hne⟩, hl⟩, hBi⟩, hBr⟩ := hB
    refine ⟨fun h1 => (by rw [h1] at hne; cases hne), fun j hj => ?_⟩
    have hjm := List.all_eq_true.1 hr j hj
    exact key (by simp only [trB, Bool.and_eq_true]; exact ⟨⟨⟨by rfl, hl⟩, hBi⟩, hBr⟩) h j (by simpa [Tr.heads] using hjm)
theorem any_of_tr (hs : Region.noSelect ops = true) (tr : Tr) (listed : Array Bool) (a : Act) (w : World) (hB : trB md ops T tr true listed = true) (h : wpTr P ops Q S T tr a w) : wpAnyP P md ops Q S T tr.len listed a w := (any_of_tr2 hs tr listed a w).1 hB h
/-- The beginning. -/
theorem wp_region_tr {id : Nat} {a : Act} {w : World} (S : World → Prop) (T : List Nat) (tr : Tr) (hm : P.follows .mixedOrders = true)
    (hB : (Region.noSelect ops && decide (tr.len = ops.size) && trB .any ops T tr true (Array.replicate ops.size false)) = true)
    (h : wpTr P ops Q S T tr a w.drew) : (Code.region id ops true).wp P Q a w := by
  simp only [Bool.and_eq_true, decide_eq_true_eq] at hB
  obtain ⟨⟨hs, hl⟩, hB'⟩ := hB
  have h1 := any_of_tr (md := .any) hs tr _ _ _ hB' h
  rw [hl] at h1
  exact wp_region_any hm (wpAny_of_P _ _ _ _ h1)
theorem tr_take {i : Nat} {r : Tr} {a : Act} {w : World} {o : Oper} {v : Value} (hS : S w) (hi : ops[i]? = some o) (hQ : ∀ c a w, Q (.panic c) (a.put o.dst v) w → Q (.panic c) a w) (hw : Region.wanted o (yielded ops a.tmps) = true)
    (hy : ∀ w, S w → (execOp a.eval o).run P w = .ok (.value v) w) (h : wpTr P ops Q S T r (a.put o.dst v) w) : wpTr P ops Q S T (.t i r) a w :=
  ⟨hS, o, v, hi, hQ, .inl ⟨hw, hy⟩, h⟩
theorem tr_pure {i : Nat} {r : Tr} {a : Act} {w : World} {o : Oper} {v : Value} (hi : ops[i]? = some o) (hQ : ∀ c a w, Q (.panic c) (a.put o.dst v) w → Q (.panic c) a w) (hw : Region.wanted o (yielded ops a.tmps) = true)
    (hy : ∀ w, (execOp a.eval o).run P w = .ok (.value v) w) (h : wpTr P ops Q S T r (a.put o.dst v) w) : wpTr P ops Q S T (.p i r) a w :=
  ⟨o, v, hi, hQ, .inl ⟨hw, fun w _ => hy w⟩, h⟩
theorem tr_op {i : Nat} {r : Tr} {a : Act} {w : World} {o : Oper} (hi : ops[i]? = some o)
    (h : ∀ K : Act → World → Prop, Next_ K (fun a' w' => (T.contains i = false → S w → S w') ∧ wpTr P ops Q S T r a' w') → if Region.wanted o (yielded ops a.tmps) = true then o.wp P a w K Q else K (a.put o.dst undef) w) : wpOp P ops Q i (fun a' w' => (T.contains i = false → S w → S w') ∧ wpTr P ops Q S T r a' w') a w := by
  have h1 := h _ ⟨fun _ _ h => h⟩
  unfold wpOp
  simp only [hi]
  split
  · rename_i hw
    rw [if_pos hw] at h1
    exact .inl h1
  · rename_i hw
    rw [if_neg hw] at h1
    exact h1
theorem tr_step {i : Nat} {r : Tr} {a : Act} {w : World} {o : Oper} (hi : ops[i]? = some o)
    (h : ∀ K : Act → World → Prop, Next_ K (fun a' w' => (T.contains i = false → S w → S w') ∧ wpTr P ops Q S T r a' w') → if Region.wanted o (yielded ops a.tmps) = true then o.wp P a w K Q else K (a.put o.dst undef) w) : wpTr P ops Q S T (.s i r) a w := tr_op hi h
theorem tr_two {i : Nat} {ri r : Tr} {a : Act} {w : World} (hi : wpTr P ops Q S T (.s i ri) a w) (hj : wpTr P ops Q S T r a w) : wpTr P ops Q S T (.alt i ri r) a w := ⟨hi, hj⟩
theorem tr_done {a : Act} {w : World} (h : Q .normal a w) : wpTr P ops Q S T .nil a w := h
end
end Go.Proofs.Ytlmnmcfieagmbaa.RQ
