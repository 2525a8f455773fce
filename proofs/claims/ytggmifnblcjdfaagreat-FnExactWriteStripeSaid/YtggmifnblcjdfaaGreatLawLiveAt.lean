/- The law FnExactLiveAt: it returns true. -/
import Derived.Test.YtggmifnblcjdfaaGreatAArr
import Derived.Test.YtggmifnblcjdfaaGreatALive
import Derived.Deep.DrawnRows
namespace Go.Proofs.YtggmifnblcjdfaaGreat.LawLiveAt
open Go.RowKit Go.Proofs.YtggmifnblcjdfaaGreat.RJ Go.Proofs.YtggmifnblcjdfaaGreat.RP Go.Proofs.YtggmifnblcjdfaaGreatW.PrintWords Go.Proofs.YtggmifnblcjdfaaGreat.Fp Go.Proofs.YtggmifnblcjdfaaGreat.FpStep Go.Proofs.YtggmifnblcjdfaaGreat.MInt Go.Proofs.YtggmifnblcjdfaaGreat.MKinds Go.Proofs.YtggmifnblcjdfaaGreat.MRead Go.Proofs.YtggmifnblcjdfaaGreat.MMake Go.Proofs.YtggmifnblcjdfaaGreat.MPut Go.Proofs.YtggmifnblcjdfaaGreat.MHeld Go.Proofs.YtggmifnblcjdfaaGreat.Sep Go.Proofs.YtggmifnblcjdfaaGreat.SepStep Go.Proofs.YtggmifnblcjdfaaGreat.LawLib Go.Proofs.YtggmifnblcjdfaaGreat.AKinds Go.Proofs.YtggmifnblcjdfaaGreat.AMake Go.Proofs.YtggmifnblcjdfaaGreat.AEnt Go.Proofs.YtggmifnblcjdfaaGreat.ALaw Go.Proofs.YtggmifnblcjdfaaGreat.AArr Go.Proofs.YtggmifnblcjdfaaGreat.ALive
set_option linter.unusedVariables false
set_option linter.unusedSimpArgs false
theorem sumM_mem {l : List MemV} {x : MemV} (h : x ∈ l) : szM x ≤ sumM l := by
  induction l with
  | nil => cases h
  | cons y l ih =>
    simp only [sumM]
    rcases List.mem_cons.1 h with rfl | h
    · omega
    · have := ih h; omega
theorem smallA_of (a : ArrV) (h : (szA a : Int) ≤ 1048576) : SmallA a := by
  have h1 := totW_sum a.dirty
  unfold szA szMS at h
  exact ⟨by omega, fun x hx => small_of x (by have := sumM_mem hx; omega), by omega, fun x hx => by have := totW_mem hx; omega⟩
end Go.Proofs.YtggmifnblcjdfaaGreat.LawLiveAt
