/- The law FnExactWriteStripe, as its row calls it. -/
-- OWN KINDS
import Derived.Test.YtggmifnblcjdfaaGreatLawWriteStripe
import Derived.Test.YtggmifnblcjdfaaGreatAPure
namespace Go.Proofs.YtggmifnblcjdfaaGreat.Pure
open Go.RowKit Go.Proofs.YtggmifnblcjdfaaGreat.MInt Go.Proofs.YtggmifnblcjdfaaGreatW.PrintWords Go.Proofs.YtggmifnblcjdfaaGreat.Fp Go.Proofs.YtggmifnblcjdfaaGreat.MKinds Go.Proofs.YtggmifnblcjdfaaGreat.AKinds Go.Proofs.YtggmifnblcjdfaaGreat.APure Go.Proofs.YtggmifnblcjdfaaGreat.LawWriteStripe
theorem FnExactWriteStripe_calls (a0_0 a0_1 a0_2 : Int) (A0_3 : Option Addr) (c0_3 : Nat) (l0_3 : List MemT) (a0_4 a0_5 a0_6 a0_7 a0_8 : Int) (A0_9 : Option Addr) (c0_9 : Nat) (l0_9 : List (Int × List Int)) (a0_10 : Int) (a0_11 a0_12 : Bool) (a1 : Int) (A2 : Option Addr) (c2 : Nat) (l2 : List Int) (W : World)
    (hr0_3 : Kd.C kMemT W A0_3 l0_3.length l0_3) (hc0_3 : l0_3.length ≤ c0_3) (hr0_9 : Kd.C kWr W A0_9 l0_9.length l0_9) (hc0_9 : l0_9.length ≤ c0_9) (hr2 : Kd.C kInt W A2 l2.length l2) (hc2 : l2.length ≤ c2) :
    Calls Tryz.prog 3 #[.agg #[.int .i64 a0_0, .int .i64 a0_1, .int .i64 a0_2, .slice A0_3 l0_3.length c0_3, .int .i64 a0_4, .int .i64 a0_5, .int .i64 a0_6, .int .i64 a0_7, .int .i64 a0_8, .slice A0_9 l0_9.length c0_9, .int .i64 a0_10, .bool a0_11, .bool a0_12], .int .i64 a1, .slice A2 l2.length c2] W fun e w' => e = .returned (.bool true) ∧ Below W.heap.size W w' :=
  law_WriteStripe (arr_row a0_0 a0_1 a0_2 a0_4 a0_5 a0_6 a0_7 a0_8 a0_10 a0_11 a0_12 hr0_3 hc0_3 hr0_9 hc0_9) ⟨A2, c2, rfl, hc2, hr2⟩
end Go.Proofs.YtggmifnblcjdfaaGreat.Pure
