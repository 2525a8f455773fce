/- Helps to the laws of arrays. -/
import Derived.Test.YtggmifnblcjdfaaAMark
import Derived.Test.YtggmifnblcjdfaaLawLiveAt
namespace Go.Proofs.Ytggmifnblcjdfaa.ALawLib
open Go.RowKit Go.Proofs.YtggmifnblcjdfaaW.PrintWords Go.Proofs.Ytggmifnblcjdfaa.Fp Go.Proofs.Ytggmifnblcjdfaa.MInt Go.Proofs.Ytggmifnblcjdfaa.MKinds Go.Proofs.Ytggmifnblcjdfaa.MRead Go.Proofs.Ytggmifnblcjdfaa.MPut Go.Proofs.Ytggmifnblcjdfaa.MHeld Go.Proofs.Ytggmifnblcjdfaa.Sep Go.Proofs.Ytggmifnblcjdfaa.AKinds Go.Proofs.Ytggmifnblcjdfaa.AMake Go.Proofs.Ytggmifnblcjdfaa.ALaw Go.Proofs.Ytggmifnblcjdfaa.AMark
set_option linter.unusedVariables false
theorem totMS_sz (l : List MemV) : totMS l ≤ szMS l := by
  induction l with
  | nil => simp [totMS]
  | cons x l ih => simp only [totMS, szMS, sumM, List.length_cons, tot1, szM, szSS] at *; omega
theorem totA_sz (a : ArrV) : totMS a.mems + totW a.dirty ≤ szA a := by have := totMS_sz a.mems; unfold szA; omega
/-- An array, marked. -/
def mkArr (k : Int) (a : ArrV) : ArrV := ⟨a.id, a.gn, a.gs, mkMS k a.mems, a.lost, a.built, a.seq, a.tail, a.gen, mkWrS (k + totMS a.mems) a.dirty, a.fuse, a.down, a.broken⟩
end Go.Proofs.Ytggmifnblcjdfaa.ALawLib
