/- How many numbers WriteSuper leaves. -/
import Derived.Test.YtbejlccfclkiiaaMWSuper
import Derived.Test.YtbejlccfclkiiaaLawLib
namespace Go.Proofs.Ytbejlccfclkiiaa.MWSuper
open Go.RowKit Go.Proofs.Ytbejlccfclkiiaa.MKinds Go.Proofs.Ytbejlccfclkiiaa.MHeld Go.Proofs.Ytbejlccfclkiiaa.MVal Go.Proofs.Ytbejlccfclkiiaa.MSuper Go.Proofs.Ytbejlccfclkiiaa.LawLib
theorem wsupV_tot (m : MemV) (s : SupV) : totM (wsupV m s) ≤ totM m + 10 := by
  unfold wsupV
  split
  · have h1 := writeV_tot (m := m) (n := s.gen % 2) (xs := putSup s)
    have h2 := putSup_len s
    omega
  · omega
end Go.Proofs.Ytbejlccfclkiiaa.MWSuper
