/- A region that draws its order, walked in one order: operations under a guard that does not hold. -/
import Derived.Test.YtggmifnblcjdfaaRP
namespace Go.Proofs.Ytggmifnblcjdfaa.RP
open Go Go.Proofs.Ytggmifnblcjdfaa.RJ
set_option linter.unusedVariables false
set_option linter.unusedSimpArgs false
section
variable {P : Program} {ops : Array Oper} {Q : Exit → Act → World → Prop} {md : Region.Mode} {S : World → Prop} {T : List Nat}
theorem seqp_skip1 {i : Nat} {r : List (Nat × Nat)} {a : Act} {w : World} {o : Oper} (hS : S w) (hi : ops[i]? = some o) (hQ : ∀ c a w, Q (.panic c) (a.put o.dst undef) w → Q (.panic c) a w) (hw : Region.wanted o (yielded ops a.tmps) = false)
    (h : wpSeqP P ops Q S T r (a.put o.dst undef) w) : wpSeqP P ops Q S T ((i, 1) :: r) a w :=
  ⟨hS, o, undef, hi, hQ, .inr ⟨hw, rfl⟩, h⟩
theorem seqp_skip2 {i : Nat} {r : List (Nat × Nat)} {a : Act} {w : World} {o : Oper} (hi : ops[i]? = some o) (hQ : ∀ c a w, Q (.panic c) (a.put o.dst undef) w → Q (.panic c) a w) (hw : Region.wanted o (yielded ops a.tmps) = false)
    (h : wpSeqP P ops Q S T r (a.put o.dst undef) w) : wpSeqP P ops Q S T ((i, 2) :: r) a w :=
  ⟨o, undef, hi, hQ, .inr ⟨hw, rfl⟩, h⟩
theorem seqp_skip0 {i : Nat} {r : List (Nat × Nat)} {a : Act} {w : World} {o : Oper} (hi : ops[i]? = some o) (hw : Region.wanted o (yielded ops a.tmps) = false)
    (h : wpSeqP P ops Q S T r (a.put o.dst undef) w) : wpSeqP P ops Q S T ((i, 0) :: r) a w :=
  seqp_step hi (fun K hK => by rw [if_neg (by rw [hw]; decide)]; exact hK.out _ _ ⟨fun _ h => h, h⟩)
end
end Go.Proofs.Ytggmifnblcjdfaa.RP
