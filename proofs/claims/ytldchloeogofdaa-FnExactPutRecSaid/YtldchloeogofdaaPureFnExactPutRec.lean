/- The law FnExactPutRec, as its row calls it. -/
-- OWN KINDS
import Derived.Test.YtldchloeogofdaaLawPutRec
namespace Go.Proofs.Ytldchloeogofdaa.Pure
open Go.RowKit Go.Proofs.YtldchloeogofdaaW.PrintWords Go.Proofs.Ytldchloeogofdaa.Fp Go.Proofs.Ytldchloeogofdaa.MKinds Go.Proofs.Ytldchloeogofdaa.LawPutRec
theorem FnExactPutRec_calls (a0 a1 : Int) (A2 : Option Addr) (c2 : Nat) (l2 : List Int) (W : World)
    (hr2 : Kd.C kInt W A2 l2.length l2) (hc2 : l2.length ≤ c2) :
    Calls Try.prog 3 #[.agg #[.int .i64 a0, .int .i64 a1, .slice A2 l2.length c2]] W fun e w' => e = .returned (.bool true) ∧ Below W.heap.size W w' :=
  law_PutRec ⟨A2, c2, rfl, hc2, hr2⟩
end Go.Proofs.Ytldchloeogofdaa.Pure
