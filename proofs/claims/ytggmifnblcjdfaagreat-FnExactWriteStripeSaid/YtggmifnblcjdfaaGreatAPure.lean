/- A row of disks as a row calls it. -/
import Derived.Test.YtggmifnblcjdfaaGreatAKinds
namespace Go.Proofs.YtggmifnblcjdfaaGreat.APure
open Go.RowKit Go.Proofs.YtggmifnblcjdfaaGreatW.PrintWords Go.Proofs.YtggmifnblcjdfaaGreat.Fp Go.Proofs.YtggmifnblcjdfaaGreat.MInt Go.Proofs.YtggmifnblcjdfaaGreat.MKinds Go.Proofs.YtggmifnblcjdfaaGreat.AKinds
abbrev MemT := List (List Int) × List (Int × List Int) × Bool × List Int
def memOf (p : MemT) : MemV := ⟨p.1, p.2.1, p.2.2.1, p.2.2.2⟩
@[reducible] def kMemT : Kd MemT := Kd.pair kSecs (Kd.pair kCache (Kd.pair Kd.bool kSec))
theorem C_mems {w : World} {A : Option Addr} {n : Nat} {l : List MemT} (h : Kd.C kMemT w A n l) : Kd.C kMem w A n (l.map memOf) := by
  obtain ⟨h1, h2, h3⟩ := h
  refine ⟨by simpa using h1, h2, fun hn => ?_⟩
  obtain ⟨ad, rfl, hc⟩ := h3 hn
  refine ⟨ad, rfl, fun j p hp => ?_⟩
  rw [List.getElem?_map] at hp
  obtain ⟨q, hq, rfl⟩ := Option.map_eq_some_iff.1 hp
  exact hc j q hq
theorem arr_row {W : World} {A0 A1 : Option Addr} {c0 c1 : Nat} {l0 : List MemT} {l1 : List (Int × List Int)} (a0 a1 a2 a4 a5 a6 a7 a8 a10 : Int) (a11 a12 : Bool)
    (hr0 : Kd.C kMemT W A0 l0.length l0) (hc0 : l0.length ≤ c0) (hr1 : Kd.C kWr W A1 l1.length l1) (hc1 : l1.length ≤ c1) :
    ArrR W (.agg #[.int .i64 a0, .int .i64 a1, .int .i64 a2, .slice A0 l0.length c0, .int .i64 a4, .int .i64 a5, .int .i64 a6, .int .i64 a7, .int .i64 a8, .slice A1 l1.length c1, .int .i64 a10, .bool a11, .bool a12]) ⟨a0, a1, a2, l0.map memOf, a4, a5, a6, a7, a8, l1, a10, a11, a12⟩ :=
  ⟨_, _, rfl, ⟨A0, c0, by rw [List.length_map], by rw [List.length_map]; exact hc0, by rw [List.length_map]; exact C_mems hr0⟩, ⟨A1, c1, rfl, hc1, hr1⟩⟩
end Go.Proofs.YtggmifnblcjdfaaGreat.APure
