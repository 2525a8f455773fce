/- The row of FnExactWriteStripe: for every input that can be read as data the law returns true, and each argument reads behind the call as it read before. Conditions: none. -/
import Derived.Test.YtggmifnblcjdfaaGreatRows
import Derived.Test.YtggmifnblcjdfaaGreatPureFnExactWriteStripe
import Derived.Test.YtggmifnblcjdfaaGreatPureFnExactWriteStripe
import Derived.Test.YtggmifnblcjdfaaGreatOpen
import Derived.WalkKit
import Derived.ProofKit
import Derived.OpenShut
import Derived.ShutString
import Derived.ChangeOld
import Derived.Below
import Derived.SizedLaws
namespace Go.Proofs.YtggmifnblcjdfaaGreat.rowFnExactWriteStripe
open Go.ChangeShapes Go.WideShapes Go.ChangeAt Go.RowKit Go.Proofs.YtggmifnblcjdfaaGreat.Pure Go.Proofs.YtggmifnblcjdfaaGreat.Pure Go.Proofs.YtggmifnblcjdfaaGreat.Open Go.Proofs.YtggmifnblcjdfaaGreatW.PrintWords
open Go.ChangeMaps (open_string shut_string)
set_option linter.unusedVariables false
set_option linter.unusedSimpArgs false
theorem own : ownKnob Tryz.prog.godebug = none := by kernel_rfl
theorem laidOut : laidOutB Tryz.prog = true := by kernel_rfl
set_option maxRecDepth 100000 in
set_option maxHeartbeats 1000000 in
theorem lifted (os : Os) (started : os.Started) (H : Type) (enc : TypeId × Value → H) :
    ReturnsInHanded {} Tryz.checked os 3 .any (Rows.fnExactWriteStripeSpec.pre6 enc Tryz.prog Tryz.f3 Rows.fnExactWriteStripeRow.domain false) (Rows.fnExactWriteStripeSpec.post enc Tryz.prog Tryz.f3 false true false false) := by
  refine returnsInHanded_of_change_sized (C := Tryz.checked) own started (by kernel_rfl) Tryz.func3
    (ChangeSpec.witness6 (enc := enc) (C := Tryz.checked) false ⟨#[], #[.agg #[.int .i64 0, .int .i64 0, .int .i64 0, .slice none 0 0, .int .i64 0, .int .i64 0, .int .i64 0, .int .i64 0, .int .i64 0, .slice none 0 0, .int .i64 0, .bool false, .bool false], .int .i64 0, .slice none 0 0], []⟩ 8 (by kernel_rfl) (by kernel_rfl) (by kernel_rfl) (by kernel_rfl)) ?_
  intro W base args ds gs before hval0 hW hcnd hsz0 _
  have hval : ∀ (j : Nat) t v, Tryz.f3.params[j]? = some t → args[j]? = some v → Value.okWide Tryz.prog W .any base t v := hval0
  have hW' := hW
  obtain ⟨p, q, hA0, hV, rfl, hfz, hnd⟩ := hW
  have hA : DataW.TrodAll enc Tryz.prog W 0 (fun _ => true) true Tryz.f3.params.toList args.toList ds p := hA0
  rw [Tryz.params3] at hA hval
  obtain ⟨v0, vs0, d0, ds0, p0, q0, hargs, rfl, rfl, h0, r0⟩ := trodAll_cons hA
  obtain ⟨v1, vs1, d1, ds1, p1, q1, rfl, rfl, rfl, h1, r1⟩ := trodAll_cons r0
  obtain ⟨v2, vs2, d2, ds2, p2, q2, rfl, rfl, rfl, h2, r2⟩ := trodAll_cons r1
  obtain ⟨rfl, rfl, rfl⟩ := trodAll_nil r2
  obtain rfl : args = #[v0, v1, v2] := by cases args; simp_all
  obtain ⟨rfl, rfl⟩ := trodVars_none hV
  have k0_ := h0
  have lt0 : ∀ x ∈ p0, x.block < W.heap.size := by obtain ⟨m, hm⟩ := k0_; exact DataW.trod_lt m _ _ _ hm
  obtain ⟨cs0, rfl, _, _⟩ : ∃ cs, v0 = .agg cs ∧ cs.size = Tryz.prog.cellsOf 27 ∧ Row.okWide Tryz.prog W .any base 27 cs := by
    have hv := hval 0 27 v0 rfl rfl
    unfold Value.okWide at hv
    rw [Tryz.underlying27] at hv
    exact hv
  obtain ⟨⟨a0_0, ⟨a0_1, a0_2⟩, l0_3, a0_4, a0_5, a0_6, a0_7, a0_8, l0_9, a0_10, a0_11, a0_12⟩, ⟨_, _, e0, rfl, ⟨_, _, rfl, ⟨_, _, rfl, rfl, rfl⟩, ⟨_, _, rfl, ⟨A0_3, c0_3, rfl, hc0_3, hr0_3⟩, ⟨_, _, rfl, rfl, ⟨_, _, rfl, rfl, ⟨_, _, rfl, rfl, ⟨_, _, rfl, rfl, ⟨_, _, rfl, rfl, ⟨_, _, rfl, ⟨A0_9, c0_9, rfl, hc0_9, hr0_9⟩, ⟨_, _, rfl, rfl, ⟨_, _, rfl, rfl, rfl⟩⟩⟩⟩⟩⟩⟩⟩⟩⟩⟩, ⟨w0_0, ⟨w0_1, w0_2⟩, w0_3, w0_4, w0_5, w0_6, w0_7, w0_8, w0_9, w0_10, w0_11, w0_12⟩⟩ := (show TK Tryz.prog 27 _ _ from (TK_tuple Tryz.underlying27 (by kernel_rfl) (TKs_cons rfl (by kernel_rfl) (TK_int Tryz.underlying3) (TKs_cons rfl (by kernel_rfl) (TK_tuple Tryz.underlying23 (by kernel_rfl) (TKs_cons rfl (by kernel_rfl) (TK_int Tryz.underlying3) (TKs_one rfl (by kernel_rfl) (TK_int Tryz.underlying3)))) (TKs_cons rfl (by kernel_rfl) (TK_slice Tryz.underlying24 (by kernel_rfl) (TK_tuple Tryz.underlying83 (by kernel_rfl) (TKs_cons rfl (by kernel_rfl) (TK_slice Tryz.underlying80 (by kernel_rfl) (TK_slice Tryz.underlying28 (by kernel_rfl) (TK_int Tryz.underlying3) 3) 28) (TKs_cons rfl (by kernel_rfl) (TK_slice Tryz.underlying81 (by kernel_rfl) (TK_tuple Tryz.underlying144 (by kernel_rfl) (TKs_cons rfl (by kernel_rfl) (TK_int Tryz.underlying3) (TKs_one rfl (by kernel_rfl) (TK_slice Tryz.underlying28 (by kernel_rfl) (TK_int Tryz.underlying3) 3)))) 144) (TKs_cons rfl (by kernel_rfl) (TK_bool Tryz.underlying4) (TKs_one rfl (by kernel_rfl) (TK_slice Tryz.underlying28 (by kernel_rfl) (TK_int Tryz.underlying3) 3)))))) 83) (TKs_cons rfl (by kernel_rfl) (TK_int Tryz.underlying3) (TKs_cons rfl (by kernel_rfl) (TK_int Tryz.underlying3) (TKs_cons rfl (by kernel_rfl) (TK_int Tryz.underlying3) (TKs_cons rfl (by kernel_rfl) (TK_int Tryz.underlying3) (TKs_cons rfl (by kernel_rfl) (TK_int Tryz.underlying3) (TKs_cons rfl (by kernel_rfl) (TK_slice Tryz.underlying25 (by kernel_rfl) (TK_tuple Tryz.underlying86 (by kernel_rfl) (TKs_cons rfl (by kernel_rfl) (TK_int Tryz.underlying3) (TKs_one rfl (by kernel_rfl) (TK_slice Tryz.underlying28 (by kernel_rfl) (TK_int Tryz.underlying3) 3)))) 86) (TKs_cons rfl (by kernel_rfl) (TK_int Tryz.underlying3) (TKs_cons rfl (by kernel_rfl) (TK_bool Tryz.underlying4) (TKs_one rfl (by kernel_rfl) (TK_bool Tryz.underlying4))))))))))))))).arg h0
  obtain rfl : cs0 = #[.int .i64 a0_0, .int .i64 a0_1, .int .i64 a0_2, .slice A0_3 l0_3.length c0_3, .int .i64 a0_4, .int .i64 a0_5, .int .i64 a0_6, .int .i64 a0_7, .int .i64 a0_8, .slice A0_9 l0_9.length c0_9, .int .i64 a0_10, .bool a0_11, .bool a0_12] := by
    apply Array.ext'
    simpa [Value.cells] using e0
  obtain ⟨a1, rfl, rfl, rfl, w1⟩ := open_int Tryz.underlying3 (hval 1 3 v1 rfl rfl) h1
  have k2_ := h2
  have lt2 : ∀ x ∈ p2, x.block < W.heap.size := by obtain ⟨m, hm⟩ := k2_; exact DataW.trod_lt m _ _ _ hm
  obtain ⟨A2, n2, c2, rfl⟩ := okWide_slice Tryz.underlying28 (hval 2 28 v2 rfl rfl)
  obtain ⟨l2, ⟨A2_, c2_, e2, hc2, hr2⟩, w2⟩ := (show TK Tryz.prog 28 (Kd.slice 3 (Kd.int .i64)) _ from (TK_slice Tryz.underlying28 (by kernel_rfl) (TK_int Tryz.underlying3) 3)).arg h2
  simp only [Value.cells, List.cons.injEq, Value.slice.injEq, and_true] at e2
  obtain ⟨rfl, rfl, rfl⟩ := e2
  clear hA0 hval0 hsz0
  refine (Pure.FnExactWriteStripe_calls a0_0 a0_1 a0_2 A0_3 c0_3 l0_3 a0_4 a0_5 a0_6 a0_7 a0_8 A0_9 c0_9 l0_9 a0_10 a0_11 a0_12 a1 A2 c2 l2 W hr0_3 hc0_3 hr0_9 hc0_9 hr2 hc2 ).mono ?_
  rintro e W' ⟨rfl, bel'⟩
  have bel : Below W.heap.size W W' := bel'
  exact ⟨_, rfl, _, _, _, [], _, [], hW', trodAll_mk1 (shut_bool Tryz.underlying4 _), (trodAll_cons_mk (Below.trod laidOut (by kernel_rfl) (of_decide_eq_true (by kernel_rfl)) k0_ bel lt0) (trodAll_cons_mk (shut_int Tryz.underlying3 w1) (trodAll_cons_mk (Below.trod laidOut (by kernel_rfl) (of_decide_eq_true (by kernel_rfl)) k2_ bel lt2) trodAll_mk0))), rfl, bel.frame _, fun h => by cases h⟩
theorem over : Rows.fnExactWriteStripeRow.holds Tryz.pinned (OpenSpec.ofChange Rows.fnExactWriteStripeSpec) :=
  OpenClaim.holds_of_wide 3 Tryz.f3 rfl rfl rfl rfl rfl rfl rfl ⟨rfl, rfl, rfl, rfl, rfl⟩ rfl rfl rfl rfl rfl (by kernel_rfl) Tryz.func3 (by kernel_rfl)
    (of_decide_eq_true (by kernel_rfl)) (by unfold Func.isWrapper; first | (rw [if_pos (by decide +kernel)]; kernel_rfl) | (rw [if_neg (by decide +kernel)]; exact ⟨rfl, rfl⟩))
    (fun os started H enc _ => lifted os started H enc)
end Go.Proofs.YtggmifnblcjdfaaGreat.rowFnExactWriteStripe
namespace Go.Proofs.YtggmifnblcjdfaaGreat
/-- The row. -/
theorem fnExactWriteStripe_holds : Rows.FnExactWriteStripeSaid := rowFnExactWriteStripe.over
#print axioms fnExactWriteStripe_holds
end Go.Proofs.YtggmifnblcjdfaaGreat
