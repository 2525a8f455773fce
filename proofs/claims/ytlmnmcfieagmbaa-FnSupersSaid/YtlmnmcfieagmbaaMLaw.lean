/- big, at of the laws. -/
import Derived.Test.YtlmnmcfieagmbaaSepT
namespace Go.Proofs.Ytlmnmcfieagmbaa.MLaw
open Go.RowKit Go.Proofs.YtlmnmcfieagmbaaW.PrintWords Go.Proofs.Ytlmnmcfieagmbaa.Fp Go.Proofs.Ytlmnmcfieagmbaa.MInt Go.Proofs.Ytlmnmcfieagmbaa.MKinds Go.Proofs.Ytlmnmcfieagmbaa.MRead Go.Proofs.Ytlmnmcfieagmbaa.Sep
set_option linter.unusedVariables false
set_option linter.unusedSimpArgs false
theorem c_big {w : World} {B : Value} {bs : List Int} (hB : RK (Kd.int .u8) w B bs) : Calls Try.prog 18 #[B] w fun e w' => e = .returned (.bool (decide ((1048576 : Int) < bs.length))) ∧ ∃ n, w' = w.drewN n := by
  obtain ⟨A, c, rfl, _, _⟩ := hB
  go_enter Try.func18, Try.ntmps18
  go_wp2
  go_ret
  exact ⟨rfl, 0, rfl⟩
set_option maxHeartbeats 1000000 in
theorem c_at {w : World} {B : Value} {bs : List Int} (hB : RK (Kd.int .u8) w B bs) (i : Nat) (hi : i ≤ 1000) : Calls Try.prog 55 #[B, .int .i64 (i : Int)] w fun e w' => (∃ x : Int, e = .returned (.int .i64 x)) ∧ ∃ n, w' = w.drewN n := by
  have lx := RK_len hB
  by_cases hl : i < bs.length
  · obtain ⟨ad, cap, rfl, hc⟩ := ints_at hB (by omega)
    obtain ⟨x, hx⟩ : ∃ x, bs[i]? = some x := ⟨_, List.getElem?_eq_getElem hl⟩
    have cx := hc i x hx
    have hl1 : (i : Int) < (bs.length : Int) := by omega
    have hl0 : (0 : Int) ≤ (i : Int) := by omega
    clear hc hx
    go_enter Try.func55, Try.ntmps55
    go_wp2
    go_ret
    exact ⟨⟨_, rfl⟩, 0, rfl⟩
  · obtain ⟨A, cap, rfl, _, _⟩ := hB
    have hl1 : ¬ (i : Int) < (bs.length : Int) := by omega
    go_enter Try.func55, Try.ntmps55
    go_wp2
    go_ret
    exact ⟨⟨_, rfl⟩, 0, rfl⟩
end Go.Proofs.Ytlmnmcfieagmbaa.MLaw
