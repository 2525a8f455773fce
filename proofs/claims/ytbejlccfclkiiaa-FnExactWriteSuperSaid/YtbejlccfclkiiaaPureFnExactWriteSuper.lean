/- The law FnExactWriteSuper, as its row calls it. -/
-- OWN KINDS
import Derived.Test.YtbejlccfclkiiaaLawWriteSuper
namespace Go.Proofs.Ytbejlccfclkiiaa.Pure
open Go.RowKit Go.Proofs.YtbejlccfclkiiaaW.PrintWords Go.Proofs.Ytbejlccfclkiiaa.Fp Go.Proofs.Ytbejlccfclkiiaa.MKinds Go.Proofs.Ytbejlccfclkiiaa.LawWriteSuper
theorem FnExactWriteSuper_calls (A0 : Option Addr) (c0 : Nat) (l0 : List (List Int)) (A1 : Option Addr) (c1 : Nat) (l1 : List (Int × List Int)) (a2 : Bool) (A3 : Option Addr) (c3 : Nat) (l3 : List Int) (a10 a11 a12 a13 a14 a15 a16 a17 : Int) (W : World)
    (hr0 : Kd.C kSec W A0 l0.length l0) (hc0 : l0.length ≤ c0) (hr1 : Kd.C kWr W A1 l1.length l1) (hc1 : l1.length ≤ c1) (hr3 : Kd.C kInt W A3 l3.length l3) (hc3 : l3.length ≤ c3) :
    Calls Try.prog 10 #[.agg #[.slice A0 l0.length c0, .slice A1 l1.length c1, .bool a2, .slice A3 l3.length c3], .agg #[.int .i64 a10, .int .i64 a11, .int .i64 a12, .int .i64 a13, .int .i64 a14, .int .i64 a15, .int .i64 a16, .int .i64 a17]] W fun e w' => e = .returned (.bool true) ∧ Below W.heap.size W w' :=
  law_WriteSuper (m := ⟨l0, l1, a2, l3⟩) ⟨_, _, _, rfl, ⟨A0, c0, rfl, hc0, hr0⟩, ⟨A1, c1, rfl, hc1, hr1⟩, ⟨A3, c3, rfl, hc3, hr3⟩⟩ a10 a11 a12 a13 a14 a15 a16 a17
end Go.Proofs.Ytbejlccfclkiiaa.Pure
