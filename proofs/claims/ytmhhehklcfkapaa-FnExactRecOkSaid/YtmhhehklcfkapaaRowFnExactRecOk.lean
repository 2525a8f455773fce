/- The row of FnExactRecOk: for every input that can be read as data the law returns true, and each argument reads behind the call as it read before. Conditions: none. -/
import Derived.Test.YtmhhehklcfkapaaRows
import Derived.Test.YtmhhehklcfkapaaPFnExactRecOkx2
import Derived.Test.YtmhhehklcfkapaaPureFnExactRecOk
import Derived.Test.YtmhhehklcfkapaaOpen
import Derived.WalkKit
import Derived.ProofKit
import Derived.OpenShut
import Derived.ShutString
import Derived.ChangeOld
import Derived.Below
import Derived.SizedLaws
namespace Go.Proofs.Ytmhhehklcfkapaa.rowFnExactRecOk
open Go.ChangeShapes Go.WideShapes Go.ChangeAt Go.RowKit Go.Proofs.Ytmhhehklcfkapaa.PFnExactRecOk Go.Proofs.Ytmhhehklcfkapaa.Pure Go.Proofs.Ytmhhehklcfkapaa.Open Go.Proofs.YtmhhehklcfkapaaW.PrintWords
open Go.ChangeMaps (open_string shut_string)
set_option linter.unusedVariables false
set_option linter.unusedSimpArgs false
theorem own : ownKnob Try.prog.godebug = none := by kernel_rfl
theorem laidOut : laidOutB Try.prog = true := by kernel_rfl
set_option maxRecDepth 100000 in
set_option maxHeartbeats 1000000 in
theorem lifted (os : Os) (started : os.Started) (H : Type) (enc : TypeId × Value → H) :
    ReturnsInHanded {} Try.checked os 14 .any (Rows.fnExactRecOkSpec.pre6 enc Try.prog Try.f14 Rows.fnExactRecOkRow.domain false) (Rows.fnExactRecOkSpec.post enc Try.prog Try.f14 false true false false) := by
  refine returnsInHanded_of_change_sized (C := Try.checked) own started (by kernel_rfl) Try.func14
    (ChangeSpec.witness6 (enc := enc) (C := Try.checked) false ⟨#[], #[.agg #[.int .i64 0, .int .i64 0, .slice none 0 0]], []⟩ 8 (by kernel_rfl) (by kernel_rfl) (by kernel_rfl) (by kernel_rfl)) ?_
  intro W base args ds gs before hval0 hW hcnd hsz0 _
  have hval : ∀ (j : Nat) t v, Try.f14.params[j]? = some t → args[j]? = some v → Value.okWide Try.prog W .any base t v := hval0
  have hW' := hW
  obtain ⟨p, q, hA0, hV, rfl, hfz, hnd⟩ := hW
  have hA : DataW.TrodAll enc Try.prog W 0 (fun _ => true) true Try.f14.params.toList args.toList ds p := hA0
  rw [Try.params14] at hA hval
  obtain ⟨v0, vs0, d0, ds0, p0, q0, hargs, rfl, rfl, h0, r0⟩ := trodAll_cons hA
  obtain ⟨rfl, rfl, rfl⟩ := trodAll_nil r0
  obtain rfl : args = #[v0] := by cases args; simp_all
  obtain ⟨rfl, rfl⟩ := trodVars_none hV
  have k0_ := h0
  have lt0 : ∀ x ∈ p0, x.block < W.heap.size := by obtain ⟨m, hm⟩ := k0_; exact DataW.trod_lt m _ _ _ hm
  obtain ⟨cs0, rfl, _, _⟩ : ∃ cs, v0 = .agg cs ∧ cs.size = Try.prog.cellsOf 45 ∧ Row.okWide Try.prog W .any base 45 cs := by
    have hv := hval 0 45 v0 rfl rfl
    unfold Value.okWide at hv
    rw [Try.underlying45] at hv
    exact hv
  obtain ⟨⟨a0_0, a0_1, l0_2⟩, ⟨_, _, e0, rfl, ⟨_, _, rfl, rfl, ⟨A0_2, c0_2, rfl, hc0_2, hr0_2⟩⟩⟩, ⟨w0_0, w0_1, w0_2⟩⟩ := (show TK Try.prog 45 _ _ from (TK_tuple Try.underlying45 (by kernel_rfl) (TKs_cons rfl (by kernel_rfl) (TK_int Try.underlying3) (TKs_cons rfl (by kernel_rfl) (TK_int Try.underlying3) (TKs_one rfl (by kernel_rfl) (TK_slice Try.underlying34 (by kernel_rfl) (TK_int Try.underlying3) 3)))))).arg h0
  obtain rfl : cs0 = #[.int .i64 a0_0, .int .i64 a0_1, .slice A0_2 l0_2.length c0_2] := by
    apply Array.ext'
    simpa [Value.cells] using e0
  clear hA0 hval0 hsz0
  obtain ⟨k, hk⟩ := Pure.FnExactRecOk a0_0 a0_1 l0_2 w0_0 w0_1 w0_2
  refine (laws_FnExactRecOk.calls k a0_0 a0_1 A0_2 c0_2 l0_2 true W hr0_2 hc0_2 hk).mono ?_
  rintro e W' ⟨rfl, bel'⟩
  have bel : Below W.heap.size W W' := bel'
  exact ⟨_, rfl, _, _, _, [], _, [], hW', trodAll_mk1 (shut_bool Try.underlying4 _), (trodAll_cons_mk (Below.trod laidOut (by kernel_rfl) (of_decide_eq_true (by kernel_rfl)) k0_ bel lt0) trodAll_mk0), rfl, bel.frame _, fun h => by cases h⟩
theorem over : Rows.fnExactRecOkRow.holds Try.pinned (OpenSpec.ofChange Rows.fnExactRecOkSpec) :=
  OpenClaim.holds_of_wide 14 Try.f14 rfl rfl rfl rfl rfl rfl rfl ⟨rfl, rfl, rfl, rfl, rfl⟩ rfl rfl rfl rfl rfl (by kernel_rfl) Try.func14 (by kernel_rfl)
    (of_decide_eq_true (by kernel_rfl)) (by unfold Func.isWrapper; first | (rw [if_pos (by decide +kernel)]; kernel_rfl) | (rw [if_neg (by decide +kernel)]; exact ⟨rfl, rfl⟩))
    (fun os started H enc _ => lifted os started H enc)
end Go.Proofs.Ytmhhehklcfkapaa.rowFnExactRecOk
namespace Go.Proofs.Ytmhhehklcfkapaa
/-- The row. -/
theorem fnExactRecOk_holds : Rows.FnExactRecOkSaid := rowFnExactRecOk.over
#print axioms fnExactRecOk_holds
end Go.Proofs.Ytmhhehklcfkapaa
