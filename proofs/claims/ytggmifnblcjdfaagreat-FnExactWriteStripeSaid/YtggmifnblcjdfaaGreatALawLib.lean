/- Helps to the laws of arrays. -/
import Derived.Test.YtggmifnblcjdfaaGreatAMark
import Derived.Test.YtggmifnblcjdfaaGreatLawLiveAt
namespace Go.Proofs.YtggmifnblcjdfaaGreat.ALawLib
open Go.RowKit Go.Proofs.YtggmifnblcjdfaaGreatW.PrintWords Go.Proofs.YtggmifnblcjdfaaGreat.Fp Go.Proofs.YtggmifnblcjdfaaGreat.MInt Go.Proofs.YtggmifnblcjdfaaGreat.MKinds Go.Proofs.YtggmifnblcjdfaaGreat.MRead Go.Proofs.YtggmifnblcjdfaaGreat.MPut Go.Proofs.YtggmifnblcjdfaaGreat.MHeld Go.Proofs.YtggmifnblcjdfaaGreat.Sep Go.Proofs.YtggmifnblcjdfaaGreat.AKinds Go.Proofs.YtggmifnblcjdfaaGreat.AMake Go.Proofs.YtggmifnblcjdfaaGreat.ALaw Go.Proofs.YtggmifnblcjdfaaGreat.AMark
set_option linter.unusedVariables false
theorem totMS_sz (l : List MemV) : totMS l ≤ szMS l := by
  induction l with
  | nil => simp [totMS]
  | cons x l ih => simp only [totMS, szMS, sumM, List.length_cons, tot1, szM, szSS] at *; omega
theorem totA_sz (a : ArrV) : totMS a.mems + totW a.dirty ≤ szA a := by have := totMS_sz a.mems; unfold szA; omega
/-- An array, marked. -/
def mkArr (k : Int) (a : ArrV) : ArrV := ⟨a.id, a.gn, a.gs, mkMS k a.mems, a.lost, a.built, a.seq, a.tail, a.gen, mkWrS (k + totMS a.mems) a.dirty, a.fuse, a.down, a.broken⟩
end Go.Proofs.YtggmifnblcjdfaaGreat.ALawLib
