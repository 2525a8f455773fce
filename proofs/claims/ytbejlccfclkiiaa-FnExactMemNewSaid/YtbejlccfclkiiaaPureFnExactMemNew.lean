/- The law FnExactMemNew, as its row calls it. -/
-- OWN KINDS
import Derived.Test.YtbejlccfclkiiaaLawMemNew
namespace Go.Proofs.Ytbejlccfclkiiaa.Pure
open Go.RowKit Go.Proofs.YtbejlccfclkiiaaW.PrintWords Go.Proofs.Ytbejlccfclkiiaa.Fp Go.Proofs.Ytbejlccfclkiiaa.MKinds Go.Proofs.Ytbejlccfclkiiaa.LawMemNew
theorem FnExactMemNew_calls (a0 : Int) (W : World) : Calls Try.prog 3 #[.int .i64 a0] W fun e w' => e = .returned (.bool true) ∧ Below W.heap.size W w' := law_MemNew
end Go.Proofs.Ytbejlccfclkiiaa.Pure
