/- The row of FnExactCheck: for every input that can be read as data the law returns true, and each argument reads behind the call as it read before. Conditions: none. -/
import Derived.Test.YtggmifnblcjdfaaRows
import Derived.Test.YtggmifnblcjdfaaPureFnExactCheck
import Derived.Test.YtggmifnblcjdfaaPureFnExactCheck
import Derived.Test.YtggmifnblcjdfaaOpen
import Derived.WalkKit
import Derived.ProofKit
import Derived.OpenShut
import Derived.ShutString
import Derived.ChangeOld
import Derived.Below
import Derived.SizedLaws
namespace Go.Proofs.Ytggmifnblcjdfaa.rowFnExactCheck
open Go.ChangeShapes Go.WideShapes Go.ChangeAt Go.RowKit Go.Proofs.Ytggmifnblcjdfaa.Pure Go.Proofs.Ytggmifnblcjdfaa.Pure Go.Proofs.Ytggmifnblcjdfaa.Open Go.Proofs.YtggmifnblcjdfaaW.PrintWords
open Go.ChangeMaps (open_string shut_string)
set_option linter.unusedVariables false
set_option linter.unusedSimpArgs false
theorem own : ownKnob Try.prog.godebug = none := by kernel_rfl
theorem laidOut : laidOutB Try.prog = true := by kernel_rfl
set_option maxRecDepth 100000 in
set_option maxHeartbeats 1000000 in
theorem lifted (os : Os) (started : os.Started) (H : Type) (enc : TypeId × Value → H) :
    ReturnsInHanded {} Try.checked os 9 .any (Rows.fnExactCheckSpec.pre6 enc Try.prog Try.f9 Rows.fnExactCheckRow.domain false) (Rows.fnExactCheckSpec.post enc Try.prog Try.f9 false true false false) := by
  refine returnsInHanded_of_change_sized (C := Try.checked) own started (by kernel_rfl) Try.func9
    (ChangeSpec.witness6 (enc := enc) (C := Try.checked) false ⟨#[], #[.agg #[.int .i64 0, .int .i64 0, .int .i64 0, .slice none 0 0, .int .i64 0, .int .i64 0, .int .i64 0, .int .i64 0, .int .i64 0, .slice none 0 0, .int .i64 0, .bool false, .bool false]], []⟩ 8 (by kernel_rfl) (by kernel_rfl) (by kernel_rfl) (by kernel_rfl)) ?_
  intro W base args ds gs before hval0 hW hcnd hsz0 _
  have hval : ∀ (j : Nat) t v, Try.f9.params[j]? = some t → args[j]? = some v → Value.okWide Try.prog W .any base t v := hval0
  have hW' := hW
  obtain ⟨p, q, hA0, hV, rfl, hfz, hnd⟩ := hW
  have hA : DataW.TrodAll enc Try.prog W 0 (fun _ => true) true Try.f9.params.toList args.toList ds p := hA0
  rw [Try.params9] at hA hval
  obtain ⟨v0, vs0, d0, ds0, p0, q0, hargs, rfl, rfl, h0, r0⟩ := trodAll_cons hA
  obtain ⟨rfl, rfl, rfl⟩ := trodAll_nil r0
  obtain rfl : args = #[v0] := by cases args; simp_all
  obtain ⟨rfl, rfl⟩ := trodVars_none hV
  have k0_ := h0
  have lt0 : ∀ x ∈ p0, x.block < W.heap.size := by obtain ⟨m, hm⟩ := k0_; exact DataW.trod_lt m _ _ _ hm
  obtain ⟨cs0, rfl, _, _⟩ : ∃ cs, v0 = .agg cs ∧ cs.size = Try.prog.cellsOf 27 ∧ Row.okWide Try.prog W .any base 27 cs := by
    have hv := hval 0 27 v0 rfl rfl
    unfold Value.okWide at hv
    rw [Try.underlying27] at hv
    exact hv
  obtain ⟨⟨a0_0, ⟨a0_1, a0_2⟩, l0_3, a0_4, a0_5, a0_6, a0_7, a0_8, l0_9, a0_10, a0_11, a0_12⟩, ⟨_, _, e0, rfl, ⟨_, _, rfl, ⟨_, _, rfl, rfl, rfl⟩, ⟨_, _, rfl, ⟨A0_3, c0_3, rfl, hc0_3, hr0_3⟩, ⟨_, _, rfl, rfl, ⟨_, _, rfl, rfl, ⟨_, _, rfl, rfl, ⟨_, _, rfl, rfl, ⟨_, _, rfl, rfl, ⟨_, _, rfl, ⟨A0_9, c0_9, rfl, hc0_9, hr0_9⟩, ⟨_, _, rfl, rfl, ⟨_, _, rfl, rfl, rfl⟩⟩⟩⟩⟩⟩⟩⟩⟩⟩⟩, ⟨w0_0, ⟨w0_1, w0_2⟩, w0_3, w0_4, w0_5, w0_6, w0_7, w0_8, w0_9, w0_10, w0_11, w0_12⟩⟩ := (show TK Try.prog 27 _ _ from (TK_tuple Try.underlying27 (by kernel_rfl) (TKs_cons rfl (by kernel_rfl) (TK_int Try.underlying3) (TKs_cons rfl (by kernel_rfl) (TK_tuple Try.underlying23 (by kernel_rfl) (TKs_cons rfl (by kernel_rfl) (TK_int Try.underlying3) (TKs_one rfl (by kernel_rfl) (TK_int Try.underlying3)))) (TKs_cons rfl (by kernel_rfl) (TK_slice Try.underlying24 (by kernel_rfl) (TK_tuple Try.underlying89 (by kernel_rfl) (TKs_cons rfl (by kernel_rfl) (TK_slice Try.underlying54 (by kernel_rfl) (TK_slice Try.underlying44 (by kernel_rfl) (TK_int Try.underlying3) 3) 44) (TKs_cons rfl (by kernel_rfl) (TK_slice Try.underlying87 (by kernel_rfl) (TK_tuple Try.underlying124 (by kernel_rfl) (TKs_cons rfl (by kernel_rfl) (TK_int Try.underlying3) (TKs_one rfl (by kernel_rfl) (TK_slice Try.underlying44 (by kernel_rfl) (TK_int Try.underlying3) 3)))) 124) (TKs_cons rfl (by kernel_rfl) (TK_bool Try.underlying4) (TKs_one rfl (by kernel_rfl) (TK_slice Try.underlying44 (by kernel_rfl) (TK_int Try.underlying3) 3)))))) 89) (TKs_cons rfl (by kernel_rfl) (TK_int Try.underlying3) (TKs_cons rfl (by kernel_rfl) (TK_int Try.underlying3) (TKs_cons rfl (by kernel_rfl) (TK_int Try.underlying3) (TKs_cons rfl (by kernel_rfl) (TK_int Try.underlying3) (TKs_cons rfl (by kernel_rfl) (TK_int Try.underlying3) (TKs_cons rfl (by kernel_rfl) (TK_slice Try.underlying25 (by kernel_rfl) (TK_tuple Try.underlying92 (by kernel_rfl) (TKs_cons rfl (by kernel_rfl) (TK_int Try.underlying3) (TKs_one rfl (by kernel_rfl) (TK_slice Try.underlying44 (by kernel_rfl) (TK_int Try.underlying3) 3)))) 92) (TKs_cons rfl (by kernel_rfl) (TK_int Try.underlying3) (TKs_cons rfl (by kernel_rfl) (TK_bool Try.underlying4) (TKs_one rfl (by kernel_rfl) (TK_bool Try.underlying4))))))))))))))).arg h0
  obtain rfl : cs0 = #[.int .i64 a0_0, .int .i64 a0_1, .int .i64 a0_2, .slice A0_3 l0_3.length c0_3, .int .i64 a0_4, .int .i64 a0_5, .int .i64 a0_6, .int .i64 a0_7, .int .i64 a0_8, .slice A0_9 l0_9.length c0_9, .int .i64 a0_10, .bool a0_11, .bool a0_12] := by
    apply Array.ext'
    simpa [Value.cells] using e0
  clear hA0 hval0 hsz0
  refine (Pure.FnExactCheck_calls a0_0 a0_1 a0_2 A0_3 c0_3 l0_3 a0_4 a0_5 a0_6 a0_7 a0_8 A0_9 c0_9 l0_9 a0_10 a0_11 a0_12 W hr0_3 hc0_3 hr0_9 hc0_9 ).mono ?_
  rintro e W' ⟨rfl, bel'⟩
  have bel : Below W.heap.size W W' := bel'
  exact ⟨_, rfl, _, _, _, [], _, [], hW', trodAll_mk1 (shut_bool Try.underlying4 _), (trodAll_cons_mk (Below.trod laidOut (by kernel_rfl) (of_decide_eq_true (by kernel_rfl)) k0_ bel lt0) trodAll_mk0), rfl, bel.frame _, fun h => by cases h⟩
theorem over : Rows.fnExactCheckRow.holds Try.pinned (OpenSpec.ofChange Rows.fnExactCheckSpec) :=
  OpenClaim.holds_of_wide 9 Try.f9 rfl rfl rfl rfl rfl rfl rfl ⟨rfl, rfl, rfl, rfl, rfl⟩ rfl rfl rfl rfl rfl (by kernel_rfl) Try.func9 (by kernel_rfl)
    (of_decide_eq_true (by kernel_rfl)) (by unfold Func.isWrapper; first | (rw [if_pos (by decide +kernel)]; kernel_rfl) | (rw [if_neg (by decide +kernel)]; exact ⟨rfl, rfl⟩))
    (fun os started H enc _ => lifted os started H enc)
end Go.Proofs.Ytggmifnblcjdfaa.rowFnExactCheck
namespace Go.Proofs.Ytggmifnblcjdfaa
/-- The row. -/
theorem fnExactCheck_holds : Rows.FnExactCheckSaid := rowFnExactCheck.over
#print axioms fnExactCheck_holds
end Go.Proofs.Ytggmifnblcjdfaa
