/- The row of FnExactPutRec: for every input that can be read as data the law returns true, and each argument reads behind the call as it read before. Conditions: none. -/
import Derived.Test.YtldchloeogofdaaRows
import Derived.Test.YtldchloeogofdaaPureFnExactPutRec
import Derived.Test.YtldchloeogofdaaPureFnExactPutRec
import Derived.Test.YtldchloeogofdaaOpen
import Derived.WalkKit
import Derived.ProofKit
import Derived.OpenShut
import Derived.ShutString
import Derived.ChangeOld
import Derived.Below
import Derived.SizedLaws
namespace Go.Proofs.Ytldchloeogofdaa.rowFnExactPutRec
open Go.ChangeShapes Go.WideShapes Go.ChangeAt Go.RowKit Go.Proofs.Ytldchloeogofdaa.Pure Go.Proofs.Ytldchloeogofdaa.Pure Go.Proofs.Ytldchloeogofdaa.Open Go.Proofs.YtldchloeogofdaaW.PrintWords
open Go.ChangeMaps (open_string shut_string)
set_option linter.unusedVariables false
set_option linter.unusedSimpArgs false
theorem own : ownKnob Try.prog.godebug = none := by kernel_rfl
theorem laidOut : laidOutB Try.prog = true := by kernel_rfl
set_option maxRecDepth 100000 in
set_option maxHeartbeats 1000000 in
theorem lifted (os : Os) (started : os.Started) (H : Type) (enc : TypeId × Value → H) :
    ReturnsInHanded {} Try.checked os 3 .any (Rows.fnExactPutRecSpec.pre6 enc Try.prog Try.f3 Rows.fnExactPutRecRow.domain false) (Rows.fnExactPutRecSpec.post enc Try.prog Try.f3 false true false false) := by
  refine returnsInHanded_of_change_sized (C := Try.checked) own started (by kernel_rfl) Try.func3
    (ChangeSpec.witness6 (enc := enc) (C := Try.checked) false ⟨#[], #[.agg #[.int .i64 0, .int .i64 0, .slice none 0 0]], []⟩ 8 (by kernel_rfl) (by kernel_rfl) (by kernel_rfl) (by kernel_rfl)) ?_
  intro W base args ds gs before hval0 hW hcnd hsz0 _
  have hval : ∀ (j : Nat) t v, Try.f3.params[j]? = some t → args[j]? = some v → Value.okWide Try.prog W .any base t v := hval0
  have hW' := hW
  obtain ⟨p, q, hA0, hV, rfl, hfz, hnd⟩ := hW
  have hA : DataW.TrodAll enc Try.prog W 0 (fun _ => true) true Try.f3.params.toList args.toList ds p := hA0
  rw [Try.params3] at hA hval
  obtain ⟨v0, vs0, d0, ds0, p0, q0, hargs, rfl, rfl, h0, r0⟩ := trodAll_cons hA
  obtain ⟨rfl, rfl, rfl⟩ := trodAll_nil r0
  obtain rfl : args = #[v0] := by cases args; simp_all
  obtain ⟨rfl, rfl⟩ := trodVars_none hV
  have k0_ := h0
  have lt0 : ∀ x ∈ p0, x.block < W.heap.size := by obtain ⟨m, hm⟩ := k0_; exact DataW.trod_lt m _ _ _ hm
  obtain ⟨cs0, rfl, _, _⟩ : ∃ cs, v0 = .agg cs ∧ cs.size = Try.prog.cellsOf 24 ∧ Row.okWide Try.prog W .any base 24 cs := by
    have hv := hval 0 24 v0 rfl rfl
    unfold Value.okWide at hv
    rw [Try.underlying24] at hv
    exact hv
  obtain ⟨⟨a0_0, a0_1, l0_2⟩, ⟨_, _, e0, rfl, ⟨_, _, rfl, rfl, ⟨A0_2, c0_2, rfl, hc0_2, hr0_2⟩⟩⟩, ⟨w0_0, w0_1, w0_2⟩⟩ := (show TK Try.prog 24 _ _ from (TK_tuple Try.underlying24 (by kernel_rfl) (TKs_cons rfl (by kernel_rfl) (TK_int Try.underlying3) (TKs_cons rfl (by kernel_rfl) (TK_int Try.underlying3) (TKs_one rfl (by kernel_rfl) (TK_slice Try.underlying22 (by kernel_rfl) (TK_int Try.underlying3) 3)))))).arg h0
  obtain rfl : cs0 = #[.int .i64 a0_0, .int .i64 a0_1, .slice A0_2 l0_2.length c0_2] := by
    apply Array.ext'
    simpa [Value.cells] using e0
  clear hA0 hval0 hsz0
  refine (Pure.FnExactPutRec_calls a0_0 a0_1 A0_2 c0_2 l0_2 W hr0_2 hc0_2 ).mono ?_
  rintro e W' ⟨rfl, bel'⟩
  have bel : Below W.heap.size W W' := bel'
  exact ⟨_, rfl, _, _, _, [], _, [], hW', trodAll_mk1 (shut_bool Try.underlying4 _), (trodAll_cons_mk (Below.trod laidOut (by kernel_rfl) (of_decide_eq_true (by kernel_rfl)) k0_ bel lt0) trodAll_mk0), rfl, bel.frame _, fun h => by cases h⟩
theorem over : Rows.fnExactPutRecRow.holds Try.pinned (OpenSpec.ofChange Rows.fnExactPutRecSpec) :=
  OpenClaim.holds_of_wide 3 Try.f3 rfl rfl rfl rfl rfl rfl rfl ⟨rfl, rfl, rfl, rfl, rfl⟩ rfl rfl rfl rfl rfl (by kernel_rfl) Try.func3 (by kernel_rfl)
    (of_decide_eq_true (by kernel_rfl)) (by unfold Func.isWrapper; first | (rw [if_pos (by decide +kernel)]; kernel_rfl) | (rw [if_neg (by decide +kernel)]; exact ⟨rfl, rfl⟩))
    (fun os started H enc _ => lifted os started H enc)
end Go.Proofs.Ytldchloeogofdaa.rowFnExactPutRec
namespace Go.Proofs.Ytldchloeogofdaa
/-- The row. -/
theorem fnExactPutRec_holds : Rows.FnExactPutRecSaid := rowFnExactPutRec.over
#print axioms fnExactPutRec_holds
end Go.Proofs.Ytldchloeogofdaa
