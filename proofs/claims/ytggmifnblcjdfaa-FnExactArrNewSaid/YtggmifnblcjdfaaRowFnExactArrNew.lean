/- The row of FnExactArrNew: for every input that can be read as data the law returns true, and each argument reads behind the call as it read before. Conditions: none. -/
import Derived.Test.YtggmifnblcjdfaaRows
import Derived.Test.YtggmifnblcjdfaaPureFnExactArrNew
import Derived.Test.YtggmifnblcjdfaaPureFnExactArrNew
import Derived.Test.YtggmifnblcjdfaaOpen
import Derived.WalkKit
import Derived.ProofKit
import Derived.OpenShut
import Derived.ShutString
import Derived.ChangeOld
import Derived.Below
import Derived.SizedLaws
namespace Go.Proofs.Ytggmifnblcjdfaa.rowFnExactArrNew
open Go.ChangeShapes Go.WideShapes Go.ChangeAt Go.RowKit Go.Proofs.Ytggmifnblcjdfaa.Pure Go.Proofs.Ytggmifnblcjdfaa.Pure Go.Proofs.Ytggmifnblcjdfaa.Open Go.Proofs.YtggmifnblcjdfaaW.PrintWords
open Go.ChangeMaps (open_string shut_string)
set_option linter.unusedVariables false
set_option linter.unusedSimpArgs false
theorem own : ownKnob Try.prog.godebug = none := by kernel_rfl
theorem laidOut : laidOutB Try.prog = true := by kernel_rfl
set_option maxRecDepth 100000 in
set_option maxHeartbeats 1000000 in
theorem lifted (os : Os) (started : os.Started) (H : Type) (enc : TypeId × Value → H) :
    ReturnsInHanded {} Try.checked os 5 .any (Rows.fnExactArrNewSpec.pre6 enc Try.prog Try.f5 Rows.fnExactArrNewRow.domain false) (Rows.fnExactArrNewSpec.post enc Try.prog Try.f5 false true false false) := by
  refine returnsInHanded_of_change_sized (C := Try.checked) own started (by kernel_rfl) Try.func5
    (ChangeSpec.witness6 (enc := enc) (C := Try.checked) false ⟨#[], #[.int .i64 0, .agg #[.int .i64 0, .int .i64 0]], []⟩ 8 (by kernel_rfl) (by kernel_rfl) (by kernel_rfl) (by kernel_rfl)) ?_
  intro W base args ds gs before hval0 hW hcnd hsz0 _
  have hval : ∀ (j : Nat) t v, Try.f5.params[j]? = some t → args[j]? = some v → Value.okWide Try.prog W .any base t v := hval0
  have hW' := hW
  obtain ⟨p, q, hA0, hV, rfl, hfz, hnd⟩ := hW
  have hA : DataW.TrodAll enc Try.prog W 0 (fun _ => true) true Try.f5.params.toList args.toList ds p := hA0
  rw [Try.params5] at hA hval
  obtain ⟨v0, vs0, d0, ds0, p0, q0, hargs, rfl, rfl, h0, r0⟩ := trodAll_cons hA
  obtain ⟨v1, vs1, d1, ds1, p1, q1, rfl, rfl, rfl, h1, r1⟩ := trodAll_cons r0
  obtain ⟨rfl, rfl, rfl⟩ := trodAll_nil r1
  obtain rfl : args = #[v0, v1] := by cases args; simp_all
  obtain ⟨rfl, rfl⟩ := trodVars_none hV
  obtain ⟨a0, rfl, rfl, rfl, w0⟩ := open_int Try.underlying3 (hval 0 3 v0 rfl rfl) h0
  have k1_ := h1
  have lt1 : ∀ x ∈ p1, x.block < W.heap.size := by obtain ⟨m, hm⟩ := k1_; exact DataW.trod_lt m _ _ _ hm
  obtain ⟨cs1, rfl, _, _⟩ : ∃ cs, v1 = .agg cs ∧ cs.size = Try.prog.cellsOf 23 ∧ Row.okWide Try.prog W .any base 23 cs := by
    have hv := hval 1 23 v1 rfl rfl
    unfold Value.okWide at hv
    rw [Try.underlying23] at hv
    exact hv
  obtain ⟨⟨a1_0, a1_1⟩, ⟨_, _, e1, rfl, rfl⟩, ⟨w1_0, w1_1⟩⟩ := (show TK Try.prog 23 _ _ from (TK_tuple Try.underlying23 (by kernel_rfl) (TKs_cons rfl (by kernel_rfl) (TK_int Try.underlying3) (TKs_one rfl (by kernel_rfl) (TK_int Try.underlying3))))).arg h1
  obtain rfl : cs1 = #[.int .i64 a1_0, .int .i64 a1_1] := by
    apply Array.ext'
    simpa [Value.cells] using e1
  clear hA0 hval0 hsz0
  refine (Pure.FnExactArrNew_calls a0 a1_0 a1_1 W  ).mono ?_
  rintro e W' ⟨rfl, bel'⟩
  have bel : Below W.heap.size W W' := bel'
  exact ⟨_, rfl, _, _, _, [], _, [], hW', trodAll_mk1 (shut_bool Try.underlying4 _), (trodAll_cons_mk (shut_int Try.underlying3 w0) (trodAll_cons_mk (Below.trod laidOut (by kernel_rfl) (of_decide_eq_true (by kernel_rfl)) k1_ bel lt1) trodAll_mk0)), rfl, bel.frame _, fun h => by cases h⟩
theorem over : Rows.fnExactArrNewRow.holds Try.pinned (OpenSpec.ofChange Rows.fnExactArrNewSpec) :=
  OpenClaim.holds_of_wide 5 Try.f5 rfl rfl rfl rfl rfl rfl rfl ⟨rfl, rfl, rfl, rfl, rfl⟩ rfl rfl rfl rfl rfl (by kernel_rfl) Try.func5 (by kernel_rfl)
    (of_decide_eq_true (by kernel_rfl)) (by unfold Func.isWrapper; first | (rw [if_pos (by decide +kernel)]; kernel_rfl) | (rw [if_neg (by decide +kernel)]; exact ⟨rfl, rfl⟩))
    (fun os started H enc _ => lifted os started H enc)
end Go.Proofs.Ytggmifnblcjdfaa.rowFnExactArrNew
namespace Go.Proofs.Ytggmifnblcjdfaa
/-- The row. -/
theorem fnExactArrNew_holds : Rows.FnExactArrNewSaid := rowFnExactArrNew.over
#print axioms fnExactArrNew_holds
end Go.Proofs.Ytggmifnblcjdfaa
