/- A region that draws its order, walked along a tree of orders: as RP, and where two operations may come first, both ways. -/
import Derived.Test.YtlmnmcfieagmbaaRP
namespace Go.Proofs.Ytlmnmcfieagmbaa.RQ
open Go Go.Proofs.Ytlmnmcfieagmbaa.RJ Go.Proofs.Ytlmnmcfieagmbaa.RP
set_option linter.unusedVariables false
set_option linter.unusedSimpArgs false
inductive Tr where
  | nil : Tr
  | s (i : Nat) (r : Tr) : Tr
  | t (i : Nat) (r : Tr) : Tr
  | p (i : Nat) (r : Tr) : Tr
  | two (i : Nat) (ri : Tr) (j : Nat) (rj : Tr) : Tr
def Tr.len : Tr → Nat
  | .nil => 0
  | .s _ r => r.len + 1
  | .t _ r => r.len + 1
  | .p _ r => r.len + 1
  | .two _ ri _ _ => ri.len + 1
section
variable {P : Program} {ops : Array Oper} {Q : Exit → Act → World → Prop} {md : Region.Mode} {S : World → Prop} {T : List Nat}
def wpTr (P : Program) (ops : Array Oper) (Q : Exit → Act → World → Prop) (S : World → Prop) (T : List Nat) : Tr → Act → World → Prop
  | .nil, a, w => Q .normal a w
  | .t i r, a, w => S w ∧ ∃ o v, ops[i]? = some o ∧ (∀ c a w, Q (.panic c) (a.put o.dst v) w → Q (.panic c) a w) ∧ YieldsIf P ops S o v a ∧ wpTr P ops Q S T r (a.put o.dst v) w
  | .p i r, a, w => ∃ o v, ops[i]? = some o ∧ (∀ c a w, Q (.panic c) (a.put o.dst v) w → Q (.panic c) a w) ∧ YieldsIf P ops (fun _ => True) o v a ∧ wpTr P ops Q S T r (a.put o.dst v) w
  | .s i r, a, w => wpOp P ops Q i (fun a' w' => (T.contains i = false → S w → S w') ∧ wpTr P ops Q S T r a' w') a w
  | .two i ri j rj, a, w => wpOp P ops Q i (fun a' w' => (T.contains i = false → S w → S w') ∧ wpTr P ops Q S T ri a' w') a w ∧ wpOp P ops Q j (fun a' w' => (T.contains j = false → S w → S w') ∧ wpTr P ops Q S T rj a' w') a w
def trB (md : Region.Mode) (ops : Array Oper) (T : List Nat) : Tr → Array Bool → Bool
  | .nil, listed => (Region.ready md ops listed).isEmpty
  | .t i r, listed => (Region.ready md ops listed).contains i && Region.free md ops listed i && T.all (fun j => Region.waitsFor md ops j i) && trB md ops T r (listed.setIfInBounds i true)
  | .p i r, listed => (Region.ready md ops listed).contains i && Region.free md ops listed i && trB md ops T r (listed.setIfInBounds i true)
  | .s i r, listed => decide (Region.ready md ops listed = [i]) && trB md ops T r (listed.setIfInBounds i true)
  | .two i ri j rj, listed => decide (Region.ready md ops listed = [i, j] ∨ Region.ready md ops listed = [j, i]) && decide (ri.len = rj.len) && trB md ops T ri (listed.setIfInBounds i true) && trB md ops T rj (listed.setIfInBounds j true)
theorem any_of_tr (hs : Region.noSelect ops = true) : ∀ (tr : Tr) (listed : Array Bool) (a : Act) (w : World), trB md ops T tr listed = true → wpTr P ops Q S T tr a w → wpAnyP P md ops Q S T tr.len listed a w
  | .nil, listed, a, w, hB, h => ⟨by simpa [trB] using hB, h⟩
  | .t i r, listed, a, w, hB, h => by
    obtain ⟨hS, o, v, hi, hQ, hy, h'⟩ := h
    simp only [trB, Bool.and_eq_true] at hB
    obtain ⟨⟨⟨hr, hf⟩, hT⟩, hB'⟩ := hB
    refine wpAnyP_first hi (Region.noSelect_spec hs) hQ (fun j hj => ?_) r.len listed a w (Region.free_spec hi hf) (by simpa using hr) hy hS (any_of_tr hs r _ _ _ hB' h')
    exact List.all_eq_true.1 hT j (by simpa using hj)
  | .p i r, listed, a, w, hB, h => by
    obtain ⟨o, v, hi, hQ, hy, h'⟩ := h
    simp only [trB, Bool.and_eq_true] at hB
    obtain ⟨⟨hr, hf⟩, hB'⟩ := hB
    exact wpAnyP_pure hi (Region.noSelect_spec hs) hQ r.len listed a w (Region.free_spec hi hf) (by simpa using hr) hy (any_of_tr hs r _ _ _ hB' h')
  | .s i r, listed, a, w, hB, h => by
    simp only [trB, Bool.and_eq_true, decide_eq_true_eq] at hB
    refine ⟨fun h1 => (by rw [hB.1] at h1; cases h1), fun j hj => ?_⟩
    rw [hB.1] at hj
    have hji : j = i := by simpa using hj
    subst hji
    exact wpOp_mono (fun a' w' h' => ⟨h'.1, any_of_tr hs r _ a' w' hB.2 h'.2⟩) h
  | .two i ri j rj, listed, a, w, hB, h => by
    simp only [trB, Bool.and_eq_true, decide_eq_true_eq] at hB
    obtain ⟨⟨⟨hr, hl⟩, hBi⟩, hBj⟩ := hB
    refine ⟨fun h1 => (by rcases hr with hr | hr <;> (rw [hr] at h1; cases h1)), fun k hk => ?_⟩
    have hk2 : k = i ∨ k = j := by
      rcases hr with hr | hr <;> (rw [hr] at hk; simp at hk; omega)
    rcases hk2 with rfl | rfl
    · exact wpOp_mono (fun a' w' h' => ⟨h'.1, any_of_tr hs ri _ a' w' hBi h'.2⟩) h.1
    · refine wpOp_mono (fun a' w' h' => ⟨h'.1, ?_⟩) h.2
      have h9 := any_of_tr hs rj _ a' w' hBj h'.2
      show wpAnyP P md ops Q S T ri.len _ _ _
      rw [hl]; exact h9
/-- The beginning. -/
theorem wp_region_tr {id : Nat} {a : Act} {w : World} (S : World → Prop) (T : List Nat) (tr : Tr) (hm : P.follows .mixedOrders = true)
    (hB : (Region.noSelect ops && decide (tr.len = ops.size) && trB .any ops T tr (Array.replicate ops.size false)) = true)
    (h : wpTr P ops Q S T tr a w.drew) : (Code.region id ops true).wp P Q a w := by
  simp only [Bool.and_eq_true, decide_eq_true_eq] at hB
  obtain ⟨⟨hs, hl⟩, hB'⟩ := hB
  have h1 := any_of_tr (md := .any) hs tr _ _ _ hB' h
  rw [hl] at h1
  exact wp_region_any hm (wpAny_of_P _ _ _ _ h1)
theorem tr_take {i : Nat} {r : Tr} {a : Act} {w : World} {o : Oper} {v : Value} (hS : S w) (hi : ops[i]? = some o) (hQ : ∀ c a w, Q (.panic c) (a.put o.dst v) w → Q (.panic c) a w) (hw : Region.wanted o (yielded ops a.tmps) = true)
    (hy : ∀ w, S w → (execOp a.eval o).run P w = .ok (.value v) w) (h : wpTr P ops Q S T r (a.put o.dst v) w) : wpTr P ops Q S T (.t i r) a w :=
  ⟨hS, o, v, hi, hQ, .inl ⟨hw, hy⟩, h⟩
theorem tr_pure {i : Nat} {r : Tr} {a : Act} {w : World} {o : Oper} {v : Value} (hi : ops[i]? = some o) (hQ : ∀ c a w, Q (.panic c) (a.put o.dst v) w → Q (.panic c) a w) (hw : Region.wanted o (yielded ops a.tmps) = true)
    (hy : ∀ w, (execOp a.eval o).run P w = .ok (.value v) w) (h : wpTr P ops Q S T r (a.put o.dst v) w) : wpTr P ops Q S T (.p i r) a w :=
  ⟨o, v, hi, hQ, .inl ⟨hw, fun w _ => hy w⟩, h⟩
theorem tr_op {i : Nat} {r : Tr} {a : Act} {w : World} {o : Oper} (hi : ops[i]? = some o)
    (h : ∀ K : Act → World → Prop, Next_ K (fun a' w' => (T.contains i = false → S w → S w') ∧ wpTr P ops Q S T r a' w') → if Region.wanted o (yielded ops a.tmps) = true then o.wp P a w K Q else K (a.put o.dst undef) w) : wpOp P ops Q i (fun a' w' => (T.contains i = false → S w → S w') ∧ wpTr P ops Q S T r a' w') a w := by
  have h1 := h _ ⟨fun _ _ h => h⟩
  unfold wpOp
  simp only [hi]
  split
  · rename_i hw
    rw [if_pos hw] at h1
    exact .inl h1
  · rename_i hw
    rw [if_neg hw] at h1
    exact h1
theorem tr_step {i : Nat} {r : Tr} {a : Act} {w : World} {o : Oper} (hi : ops[i]? = some o)
    (h : ∀ K : Act → World → Prop, Next_ K (fun a' w' => (T.contains i = false → S w → S w') ∧ wpTr P ops Q S T r a' w') → if Region.wanted o (yielded ops a.tmps) = true then o.wp P a w K Q else K (a.put o.dst undef) w) : wpTr P ops Q S T (.s i r) a w := tr_op hi h
theorem tr_two {i j : Nat} {ri rj : Tr} {a : Act} {w : World} (hi : wpTr P ops Q S T (.s i ri) a w) (hj : wpTr P ops Q S T (.s j rj) a w) : wpTr P ops Q S T (.two i ri j rj) a w := ⟨hi, hj⟩
theorem tr_done {a : Act} {w : World} (h : Q .normal a w) : wpTr P ops Q S T .nil a w := h
end
end Go.Proofs.Ytlmnmcfieagmbaa.RQ
