/- Things held: some of the first ones chosen, the rest left; a box of four cells stored whole; numbers stored. -/
import Derived.Test.YtlmnmcfieagmbaaSepMore
import Derived.Test.YtlmnmcfieagmbaaMVal
namespace Go.Proofs.Ytlmnmcfieagmbaa.Sep
open Go.RowKit Go.Proofs.YtlmnmcfieagmbaaW.PrintWords Go.Proofs.Ytlmnmcfieagmbaa.Fp Go.Proofs.Ytlmnmcfieagmbaa.MInt Go.Proofs.Ytlmnmcfieagmbaa.MKinds Go.Proofs.Ytlmnmcfieagmbaa.MRead Go.Proofs.Ytlmnmcfieagmbaa.MMake Go.Proofs.Ytlmnmcfieagmbaa.MPut
set_option linter.unusedVariables false
set_option linter.unusedSimpArgs false
section
variable {w0 w : World} {S : List Nat} {L : List Res}
theorem drop_picks (L : List Res) (n : Nat) : L.drop n = (List.range' n (L.length - n)).map (pick L) := by
  apply List.ext_getElem
  · simp
  · intro i h1 h2
    simp only [List.length_drop] at h1
    have h3 : n + i < L.length := by omega
    simp [pick, List.getD, h3]
/-- Some of the first n things, in an order that is named; behind the n-th all as it was. -/
theorem Sep.selT (h : Sep w0 S w L) (n : Nat) (is : List Nat) (hn : is.Nodup) (hm : ∀ i ∈ is, i < n ∧ i < L.length) : Sep w0 S w (is.map (pick L) ++ L.drop n) := by
  rw [drop_picks L n, ← List.map_append]
  refine h.sel _ ?_ ?_
  · rw [List.nodup_append]
    refine ⟨hn, List.nodup_range', fun a ha b hb e => ?_⟩
    subst e
    have h1 := (hm a ha).1
    simp at hb
    omega
  · intro i hi
    rcases List.mem_append.1 hi with hi | hi
    · exact (hm i hi).2
    · simp at hi
      omega
theorem Sep.box4 (h : Sep w0 S w L) (i : Nat) {g : Nat} {t : TypeId} {a0 a1 a2 a3 : Value} (hi : L[i]? = some (bx g t #[a0, a1, a2, a3])) (b0 b1 b2 b3 : Value) :
    Sep w0 S ((((w.setCell ⟨g, 0, none⟩ b0).setCell ⟨g, 1, none⟩ b1).setCell ⟨g, 2, none⟩ b2).setCell ⟨g, 3, none⟩ b3) (L.set i (bx g t #[b0, b1, b2, b3])) := by
  have hl : i < L.length := (List.getElem?_eq_some_iff.1 hi).1
  have h1 := h.setb i hi 0 b0 (cs' := #[b0, a1, a2, a3]) rfl
  have h2 := h1.setb i (g := g) (t := t) (cs := #[b0, a1, a2, a3]) (by simp [hl]) 1 b1 (cs' := #[b0, b1, a2, a3]) rfl
  have h3 := h2.setb i (g := g) (t := t) (cs := #[b0, b1, a2, a3]) (by simp [hl]) 2 b2 (cs' := #[b0, b1, b2, a3]) rfl
  have h4 := h3.setb i (g := g) (t := t) (cs := #[b0, b1, b2, a3]) (by simp [hl]) 3 b3 (cs' := #[b0, b1, b2, b3]) rfl
  simpa using h4
theorem Sep.seti (h : Sep w0 S w L) (i : Nat) {e : TypeId} {F : List Nat} {g n cap j : Nat} {ys : List Int} (hi : L[i]? = some (rw_ oInt e F (.slice (some ⟨g, 0, none⟩) n cap) ys)) (hj : j < ys.length) (x : Int) :
    Sep w0 S (w.setCell ⟨g, j, none⟩ (.int .i64 x)) (L.set i (rw_ oInt e F (.slice (some ⟨g, 0, none⟩) n cap) (ys.set j x))) := by
  have ho : oInt.O e w F (.slice (some ⟨g, 0, none⟩) n cap) ys := h.get i hi
  exact h.upd i hi ⟨(Chg.refl _ _).set (.inl (mem_own ho g rfl)) _, (h.fnd i hi :), fun k hk => .inl hk, lies_row (O_int_set ho hj x)⟩
/-- A disk that is owned, taken apart. -/
theorem Sep.ofMemL {F : List Nat} {a b d : Value} {f : Bool} {m : MemV} (h : Sep w0 S w (me F (.agg #[a, b, .bool f, d]) m :: L)) :
    ∃ F1 F2 F3, Sep w0 S w (rw_ oSec 24 F1 a m.secs :: rw_ oWr 66 F2 b m.cache :: rw_ oInt 3 F3 d m.bad :: L) := by
  obtain ⟨A1, c1, A2, c2, A3, c3, F1, F2, F3, hv, hs⟩ := h.ofMem
  have h1 := congrArg Array.toList (Value.agg.inj hv)
  simp only [List.cons.injEq, and_true] at h1
  obtain ⟨e1, e2, _, e3⟩ := h1
  subst e1 e2 e3
  exact ⟨F1, F2, F3, hs⟩
end
end Go.Proofs.Ytlmnmcfieagmbaa.Sep
