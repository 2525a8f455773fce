/- The law FnSupers, as its row calls it. -/
-- OWN KINDS
import Derived.Test.YtlmnmcfieagmbaaLawFnSupers
namespace Go.Proofs.Ytlmnmcfieagmbaa.Pure
open Go.RowKit Go.Proofs.YtlmnmcfieagmbaaW.PrintWords Go.Proofs.Ytlmnmcfieagmbaa.Fp Go.Proofs.Ytlmnmcfieagmbaa.MKinds Go.Proofs.Ytlmnmcfieagmbaa.LawFnSupers
theorem FnSupers_calls (A0 : Option Addr) (c0 : Nat) (l0 : List Int) (W : World) (hr0 : Kd.C (Kd.int .u8) W A0 l0.length l0) (hc0 : l0.length ≤ c0) :
    Calls Try.prog 6 #[.slice A0 l0.length c0] W fun e w' => e = .returned (.bool true) ∧ Below W.heap.size W w' :=
  law_FnSupers ⟨A0, c0, rfl, hc0, hr0⟩
end Go.Proofs.Ytlmnmcfieagmbaa.Pure
