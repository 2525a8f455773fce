/- Own text: PureFnWritesBent. -/
import Derived.Test.YtggmifnblcjdfaaGreatXLaw
set_option linter.unusedVariables false
set_option linter.unusedSimpArgs false
namespace Go.Proofs.YtggmifnblcjdfaaGreat
-- OWN KINDS
namespace Pure
open Go.RowKit Go.Proofs.YtggmifnblcjdfaaGreatW.PrintWords Fp MKinds LawFnWritesBent
theorem FnWritesBent_calls (A0 : Option Addr) (c0 : Nat) (l0 : List Int) (W : World) (hr0 : Kd.C (Kd.int .u8) W A0 l0.length l0) (hc0 : l0.length ≤ c0) :
  Calls Tryz.prog 4 #[.slice A0 l0.length c0] W fun e w' => e = .returned (.bool true) ∧ Below W.heap.size W w' :=
 law_FnWritesBent ⟨A0, c0, rfl, hc0, hr0⟩
end Pure
end Go.Proofs.YtggmifnblcjdfaaGreat
