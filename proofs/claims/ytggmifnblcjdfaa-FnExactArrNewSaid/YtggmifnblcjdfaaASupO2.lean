/- impl.superOf. -/
import Derived.Test.YtggmifnblcjdfaaAArr
import Derived.Test.YtggmifnblcjdfaaAOk
import Derived.Test.YtggmifnblcjdfaaMSuper
namespace Go.Proofs.Ytggmifnblcjdfaa.ASupO2
open Go.RowKit Go.Proofs.Ytggmifnblcjdfaa.RJ Go.Proofs.Ytggmifnblcjdfaa.RP Go.Proofs.YtggmifnblcjdfaaW.PrintWords Go.Proofs.Ytggmifnblcjdfaa.Fp Go.Proofs.Ytggmifnblcjdfaa.FpStep Go.Proofs.Ytggmifnblcjdfaa.MInt Go.Proofs.Ytggmifnblcjdfaa.MKinds Go.Proofs.Ytggmifnblcjdfaa.MRead Go.Proofs.Ytggmifnblcjdfaa.MMake Go.Proofs.Ytggmifnblcjdfaa.MPut Go.Proofs.Ytggmifnblcjdfaa.MHeld Go.Proofs.Ytggmifnblcjdfaa.MOk Go.Proofs.Ytggmifnblcjdfaa.MSuper Go.Proofs.Ytggmifnblcjdfaa.Sep Go.Proofs.Ytggmifnblcjdfaa.SepStep Go.Proofs.Ytggmifnblcjdfaa.AKinds Go.Proofs.Ytggmifnblcjdfaa.AMake Go.Proofs.Ytggmifnblcjdfaa.AEnt Go.Proofs.Ytggmifnblcjdfaa.ALaw Go.Proofs.Ytggmifnblcjdfaa.AArr Go.Proofs.Ytggmifnblcjdfaa.AOk
set_option linter.unusedVariables false
set_option linter.unusedSimpArgs false
set_option maxHeartbeats 8000000 in
set_option maxRecDepth 100000 in
theorem c_superOf {w : World} {vm vd : Value} {a : ArrV} (i : Nat) :
    Calls Try.prog 59 #[.agg (arrC a vm vd), .int .i64 i] w fun e w' => e = .returned (.agg #[.int .i64 a.id, .int .i64 a.gen, .int .i64 i, .int .i64 a.gn, .int .i64 a.gs, .int .i64 a.tail, .int .i64 a.lost, .int .i64 a.built]) ∧ Sep w [] w' [] := by
  have HI := Aside0.mk (((Sep.start w []).alloc (g := w.heap.size) rfl (arrC a vm vd) 34).alloc (g := w.heap.size + 1) (by simp) #[.int .i64 0, .int .i64 0, .int .i64 0, .int .i64 0, .int .i64 0, .int .i64 0, .int .i64 0, .int .i64 0] 70)
  simp only [arrC] at *
  obtain ⟨k0, k1, k2, k3, k4, k5, k6, k7, k8, k9, k10, k11, k12⟩ := thirteen (HI.out.get 1 rfl)
  go_enter Try.func59, Try.ntmps59
  go_wp2
  clear k0 k1 k2 k3 k4 k5 k6 k7 k8 k9 k10 k11 k12 HI
  have HE := (((Sep.start w []).alloc (g := w.heap.size) rfl #[.int .i64 a.id, .int .i64 a.gn, .int .i64 a.gs, vm, .int .i64 a.lost, .int .i64 a.built, .int .i64 a.seq, .int .i64 a.tail, .int .i64 a.gen, vd, .int .i64 a.fuse, .bool a.down, .bool a.broken] 34).alloc (g := w.heap.size + 1) (by simp) #[.int .i64 a.id, .int .i64 a.gen, .int .i64 i, .int .i64 a.gn, .int .i64 a.gs, .int .i64 a.tail, .int .i64 a.lost, .int .i64 a.built] 70)
  refine bodyPost_ret (results_cell_row rfl _ _ (w.heap.size + 1) 70 #[.int .i64 a.id, .int .i64 a.gen, .int .i64 i, .int .i64 a.gn, .int .i64 a.gs, .int .i64 a.tail, .int .i64 a.lost, .int .i64 a.built] (0, 0) _ rfl (HE.get 0 rfl) Try.underlying70 rfl (by kernel_rfl)) rfl ?_
  have hB := HE.sel [] (by decide) (by simp)
  exact ⟨rfl, hB⟩
end Go.Proofs.Ytggmifnblcjdfaa.ASupO2
