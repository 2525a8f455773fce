/- The row of FnExactSpoilSec: for every input that can be read as data the law returns true, and each argument reads behind the call as it read before. Conditions: none. -/
import Derived.Test.YtlmnmcfieagmbaaRows
import Derived.Test.YtlmnmcfieagmbaaPureFnExactSpoilSec
import Derived.Test.YtlmnmcfieagmbaaPureFnExactSpoilSec
import Derived.Test.YtlmnmcfieagmbaaOpen
import Derived.WalkKit
import Derived.ProofKit
import Derived.OpenShut
import Derived.ShutString
import Derived.ChangeOld
import Derived.Below
import Derived.SizedLaws
namespace Go.Proofs.Ytlmnmcfieagmbaa.rowFnExactSpoilSec
open Go.ChangeShapes Go.WideShapes Go.ChangeAt Go.RowKit Go.Proofs.Ytlmnmcfieagmbaa.Pure Go.Proofs.Ytlmnmcfieagmbaa.Pure Go.Proofs.Ytlmnmcfieagmbaa.Open Go.Proofs.YtlmnmcfieagmbaaW.PrintWords
open Go.ChangeMaps (open_string shut_string)
set_option linter.unusedVariables false
set_option linter.unusedSimpArgs false
theorem own : ownKnob Try.prog.godebug = none := by kernel_rfl
theorem laidOut : laidOutB Try.prog = true := by kernel_rfl
set_option maxRecDepth 100000 in
set_option maxHeartbeats 1000000 in
theorem lifted (os : Os) (started : os.Started) (H : Type) (enc : TypeId × Value → H) :
    ReturnsInHanded {} Try.checked os 3 .any (Rows.fnExactSpoilSecSpec.pre6 enc Try.prog Try.f3 Rows.fnExactSpoilSecRow.domain false) (Rows.fnExactSpoilSecSpec.post enc Try.prog Try.f3 false true false false) := by
  refine returnsInHanded_of_change_sized (C := Try.checked) own started (by kernel_rfl) Try.func3
    (ChangeSpec.witness6 (enc := enc) (C := Try.checked) false ⟨#[], #[.agg #[.slice none 0 0, .slice none 0 0, .bool false, .slice none 0 0], .int .i64 0], []⟩ 8 (by kernel_rfl) (by kernel_rfl) (by kernel_rfl) (by kernel_rfl)) ?_
  intro W base args ds gs before hval0 hW hcnd hsz0 _
  have hval : ∀ (j : Nat) t v, Try.f3.params[j]? = some t → args[j]? = some v → Value.okWide Try.prog W .any base t v := hval0
  have hW' := hW
  obtain ⟨p, q, hA0, hV, rfl, hfz, hnd⟩ := hW
  have hA : DataW.TrodAll enc Try.prog W 0 (fun _ => true) true Try.f3.params.toList args.toList ds p := hA0
  rw [Try.params3] at hA hval
  obtain ⟨v0, vs0, d0, ds0, p0, q0, hargs, rfl, rfl, h0, r0⟩ := trodAll_cons hA
  obtain ⟨v1, vs1, d1, ds1, p1, q1, rfl, rfl, rfl, h1, r1⟩ := trodAll_cons r0
  obtain ⟨rfl, rfl, rfl⟩ := trodAll_nil r1
  obtain rfl : args = #[v0, v1] := by cases args; simp_all
  obtain ⟨rfl, rfl⟩ := trodVars_none hV
  have k0_ := h0
  have lt0 : ∀ x ∈ p0, x.block < W.heap.size := by obtain ⟨m, hm⟩ := k0_; exact DataW.trod_lt m _ _ _ hm
  obtain ⟨cs0, rfl, _, _⟩ : ∃ cs, v0 = .agg cs ∧ cs.size = Try.prog.cellsOf 26 ∧ Row.okWide Try.prog W .any base 26 cs := by
    have hv := hval 0 26 v0 rfl rfl
    unfold Value.okWide at hv
    rw [Try.underlying26] at hv
    exact hv
  obtain ⟨⟨l0_0, l0_1, a0_2, l0_3⟩, ⟨_, _, e0, ⟨A0_0, c0_0, rfl, hc0_0, hr0_0⟩, ⟨_, _, rfl, ⟨A0_1, c0_1, rfl, hc0_1, hr0_1⟩, ⟨_, _, rfl, rfl, ⟨A0_3, c0_3, rfl, hc0_3, hr0_3⟩⟩⟩⟩, ⟨w0_0, w0_1, w0_2, w0_3⟩⟩ := (show TK Try.prog 26 _ _ from (TK_tuple Try.underlying26 (by kernel_rfl) (TKs_cons rfl (by kernel_rfl) (TK_slice Try.underlying22 (by kernel_rfl) (TK_slice Try.underlying24 (by kernel_rfl) (TK_int Try.underlying3) 3) 24) (TKs_cons rfl (by kernel_rfl) (TK_slice Try.underlying23 (by kernel_rfl) (TK_tuple Try.underlying121 (by kernel_rfl) (TKs_cons rfl (by kernel_rfl) (TK_int Try.underlying3) (TKs_one rfl (by kernel_rfl) (TK_slice Try.underlying24 (by kernel_rfl) (TK_int Try.underlying3) 3)))) 121) (TKs_cons rfl (by kernel_rfl) (TK_bool Try.underlying4) (TKs_one rfl (by kernel_rfl) (TK_slice Try.underlying24 (by kernel_rfl) (TK_int Try.underlying3) 3))))))).arg h0
  obtain rfl : cs0 = #[.slice A0_0 l0_0.length c0_0, .slice A0_1 l0_1.length c0_1, .bool a0_2, .slice A0_3 l0_3.length c0_3] := by
    apply Array.ext'
    simpa [Value.cells] using e0
  obtain ⟨a1, rfl, rfl, rfl, w1⟩ := open_int Try.underlying3 (hval 1 3 v1 rfl rfl) h1
  clear hA0 hval0 hsz0
  refine (Pure.FnExactSpoilSec_calls A0_0 c0_0 l0_0 A0_1 c0_1 l0_1 a0_2 A0_3 c0_3 l0_3 a1 W hr0_0 hc0_0 hr0_1 hc0_1 hr0_3 hc0_3 ).mono ?_
  rintro e W' ⟨rfl, bel'⟩
  have bel : Below W.heap.size W W' := bel'
  exact ⟨_, rfl, _, _, _, [], _, [], hW', trodAll_mk1 (shut_bool Try.underlying4 _), (trodAll_cons_mk (Below.trod laidOut (by kernel_rfl) (of_decide_eq_true (by kernel_rfl)) k0_ bel lt0) (trodAll_cons_mk (shut_int Try.underlying3 w1) trodAll_mk0)), rfl, bel.frame _, fun h => by cases h⟩
theorem over : Rows.fnExactSpoilSecRow.holds Try.pinned (OpenSpec.ofChange Rows.fnExactSpoilSecSpec) :=
  OpenClaim.holds_of_wide 3 Try.f3 rfl rfl rfl rfl rfl rfl rfl ⟨rfl, rfl, rfl, rfl, rfl⟩ rfl rfl rfl rfl rfl (by kernel_rfl) Try.func3 (by kernel_rfl)
    (of_decide_eq_true (by kernel_rfl)) (by unfold Func.isWrapper; first | (rw [if_pos (by decide +kernel)]; kernel_rfl) | (rw [if_neg (by decide +kernel)]; exact ⟨rfl, rfl⟩))
    (fun os started H enc _ => lifted os started H enc)
end Go.Proofs.Ytlmnmcfieagmbaa.rowFnExactSpoilSec
namespace Go.Proofs.Ytlmnmcfieagmbaa
/-- The row. -/
theorem fnExactSpoilSec_holds : Rows.FnExactSpoilSecSaid := rowFnExactSpoilSec.over
#print axioms fnExactSpoilSec_holds
end Go.Proofs.Ytlmnmcfieagmbaa
