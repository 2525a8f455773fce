/- eqSuper, toSuper. -/
import Derived.Test.YtbejlccfclkiiaaMSuper
namespace Go.Proofs.Ytbejlccfclkiiaa.MSuperL
open Go.RowKit Go.Proofs.Ytbejlccfclkiiaa.RJ Go.Proofs.YtbejlccfclkiiaaW.PrintWords Go.Proofs.Ytbejlccfclkiiaa.Fp Go.Proofs.Ytbejlccfclkiiaa.FpStep Go.Proofs.Ytbejlccfclkiiaa.MInt Go.Proofs.Ytbejlccfclkiiaa.MKinds Go.Proofs.Ytbejlccfclkiiaa.MRead Go.Proofs.Ytbejlccfclkiiaa.MMake Go.Proofs.Ytbejlccfclkiiaa.MPut Go.Proofs.Ytbejlccfclkiiaa.MVal Go.Proofs.Ytbejlccfclkiiaa.Sep Go.Proofs.Ytbejlccfclkiiaa.SepStep Go.Proofs.Ytbejlccfclkiiaa.MReadS Go.Proofs.Ytbejlccfclkiiaa.MSuper
set_option linter.unusedVariables false
set_option linter.unusedSimpArgs false
set_option maxHeartbeats 2000000 in
theorem c_eqSuper (id gen role n st tail lost built : Int) (w : World) :
    Calls Try.prog 38 #[.agg #[.int .i64 id, .int .i64 gen, .int .i64 role, .int .i64 n, .int .i64 st, .int .i64 tail, .int .i64 lost, .int .i64 built], .agg #[.int .i64 id, .int .i64 gen, .int .i64 role, .int .i64 n, .int .i64 st, .int .i64 tail, .int .i64 lost, .int .i64 built]] w fun e w' => e = .returned (.bool true) ∧ Below w.heap.size w w' := by
  go_enter Try.func38, Try.ntmps38
  go_wp2
  go_ret
  exact ⟨rfl, below_alloc (below_alloc (Below.refl _ _) _) _⟩
set_option maxHeartbeats 2000000 in
theorem c_toSuper (id gen role n st tail lost built : Int) (w : World) :
    Calls Try.prog 40 #[.agg #[.int .i64 id, .int .i64 gen, .int .i64 role, .int .i64 n, .int .i64 st, .int .i64 tail, .int .i64 lost, .int .i64 built]] w fun e w' => e = .returned (.agg #[.int .i64 id, .int .i64 gen, .int .i64 role, .int .i64 n, .int .i64 st, .int .i64 tail, .int .i64 lost, .int .i64 built]) ∧ Below w.heap.size w w' := by
  go_enter Try.func40, Try.ntmps40
  go_wp2
  have HE := ((((Sep.start w []).alloc (g := w.heap.size) rfl #[.int .i64 id, .int .i64 gen, .int .i64 role, .int .i64 n, .int .i64 st, .int .i64 tail, .int .i64 lost, .int .i64 built] 53).alloc (g := w.heap.size + 1) (by simp) #[.int .i64 id, .int .i64 gen, .int .i64 role, .int .i64 n, .int .i64 st, .int .i64 tail, .int .i64 lost, .int .i64 built] 49).alloc (g := w.heap.size + 1 + 1) (by simp) #[.int .i64 id, .int .i64 gen, .int .i64 role, .int .i64 n, .int .i64 st, .int .i64 tail, .int .i64 lost, .int .i64 built] 49)
  refine bodyPost_ret (results_cell_row rfl _ _ (w.heap.size + 1) 49 #[.int .i64 id, .int .i64 gen, .int .i64 role, .int .i64 n, .int .i64 st, .int .i64 tail, .int .i64 lost, .int .i64 built] (0, 0) _ rfl (HE.get 1 rfl) Try.underlying49 rfl (by kernel_rfl)) rfl ?_
  exact ⟨rfl, HE.toBelow⟩
end Go.Proofs.Ytbejlccfclkiiaa.MSuperL
