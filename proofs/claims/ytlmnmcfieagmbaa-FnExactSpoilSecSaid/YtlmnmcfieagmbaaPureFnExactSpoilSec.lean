/- The law FnExactSpoilSec, as its row calls it. -/
-- OWN KINDS
import Derived.Test.YtlmnmcfieagmbaaLawSpoilSec
namespace Go.Proofs.Ytlmnmcfieagmbaa.Pure
open Go.RowKit Go.Proofs.YtlmnmcfieagmbaaW.PrintWords Go.Proofs.Ytlmnmcfieagmbaa.Fp Go.Proofs.Ytlmnmcfieagmbaa.MKinds Go.Proofs.Ytlmnmcfieagmbaa.LawSpoilSec
theorem FnExactSpoilSec_calls (A0 : Option Addr) (c0 : Nat) (l0 : List (List Int)) (A1 : Option Addr) (c1 : Nat) (l1 : List (Int × List Int)) (a2 : Bool) (A3 : Option Addr) (c3 : Nat) (l3 : List Int) (a1 : Int) (W : World)
    (hr0 : Kd.C kSec W A0 l0.length l0) (hc0 : l0.length ≤ c0) (hr1 : Kd.C kWr W A1 l1.length l1) (hc1 : l1.length ≤ c1) (hr3 : Kd.C kInt W A3 l3.length l3) (hc3 : l3.length ≤ c3) :
    Calls Try.prog 3 #[.agg #[.slice A0 l0.length c0, .slice A1 l1.length c1, .bool a2, .slice A3 l3.length c3], .int .i64 a1] W fun e w' => e = .returned (.bool true) ∧ Below W.heap.size W w' :=
  law_SpoilSec (m := ⟨l0, l1, a2, l3⟩) ⟨_, _, _, rfl, ⟨A0, c0, rfl, hc0, hr0⟩, ⟨A1, c1, rfl, hc1, hr1⟩, ⟨A3, c3, rfl, hc3, hr3⟩⟩
end Go.Proofs.Ytlmnmcfieagmbaa.Pure
