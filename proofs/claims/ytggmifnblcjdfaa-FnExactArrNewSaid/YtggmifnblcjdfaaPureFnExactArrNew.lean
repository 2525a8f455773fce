/- The law FnExactArrNew, as its row calls it. -/
-- OWN KINDS
import Derived.Test.YtggmifnblcjdfaaLawArrNew
namespace Go.Proofs.Ytggmifnblcjdfaa.Pure
open Go.RowKit Go.Proofs.YtggmifnblcjdfaaW.PrintWords Go.Proofs.Ytggmifnblcjdfaa.Fp Go.Proofs.Ytggmifnblcjdfaa.MKinds Go.Proofs.Ytggmifnblcjdfaa.LawArrNew
theorem FnExactArrNew_calls (a0 a1_0 a1_1 : Int) (W : World) : Calls Try.prog 5 #[.int .i64 a0, .agg #[.int .i64 a1_0, .int .i64 a1_1]] W fun e w' => e = .returned (.bool true) ∧ Below W.heap.size W w' := law_ArrNew
end Go.Proofs.Ytggmifnblcjdfaa.Pure
