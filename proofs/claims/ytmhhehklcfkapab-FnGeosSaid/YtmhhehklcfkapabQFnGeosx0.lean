/- Laid by a program of this session over the printer's text: what Go functions that the law reaches come to. -/
import Derived.Test.YtmhhehklcfkapabProg
import Derived.Below
import Derived.Deep.Draws
import Derived.Deep.AppendLies
import Derived.Maps.AppendAt
import Derived.OwnWalk
import Derived.Laws.BytesArg
import Derived.Laws.MakeOwn
import Derived.Laws.OwnMore
import Derived.Deep.OwnRows
import Derived.Tactics
import Derived.Lib.ConvBytes
import Derived.Laws.Slices
import Derived.WalkKit
import Derived.KernelRfl
import Derived.RowKit3
import Derived.Deep.LoopGhost
import Derived.Deep.QuietTactic
import Derived.BigQuiet
import Derived.WideLaws
import Derived.Deep.DeepCutAuto
import Derived.Deep.CutBlock
import Derived.Deep.RegionHeld3
import Derived.Laws.Rows
import Derived.Lib.AppendStr
import Derived.ArgAppend
import Derived.Laws.IdiomCopy
import Derived.OrdersHeld
import Derived.Laws.BitsLemmas
import Derived.RowKit
import Derived.Test.YtmhhehklcfkapabWWords
import Derived.Test.YtmhhehklcfkapabWLast
import Derived.Test.YtmhhehklcfkapabWTab
import Derived.Test.YtmhhehklcfkapabWFour
import Derived.Test.YtmhhehklcfkapabWQPut
import Derived.Test.YtmhhehklcfkapabWApart
import Derived.Test.YtmhhehklcfkapabWArr
import Derived.Test.YtmhhehklcfkapabWZeros
import Derived.Test.YtmhhehklcfkapabWFoot
import Derived.Test.YtmhhehklcfkapabWKept
import Derived.Test.YtmhhehklcfkapabWShare
import Derived.Test.YtmhhehklcfkapabWN
import Derived.Test.YtmhhehklcfkapabWFootNe
import Derived.Test.YtmhhehklcfkapabWAt
import Derived.Test.YtmhhehklcfkapabWEqStruct
import Derived.Test.YtmhhehklcfkapabWRepsOne
import Derived.Test.YtmhhehklcfkapabWInv
import Derived.Test.YtmhhehklcfkapabWInvWords
import Derived.Test.YtmhhehklcfkapabWGuard
import Derived.Test.YtmhhehklcfkapabWNEv
import Derived.Test.YtmhhehklcfkapabWMore
namespace Go.Proofs.Ytmhhehklcfkapab.PFnGeos
open Go.RowKit Go.Proofs.YtmhhehklcfkapabW.PrintWords Go.Proofs.YtmhhehklcfkapabW.PrintLast Go.Proofs.YtmhhehklcfkapabW.PrintMore
attribute [local go_sem] max2_int min2_int max_two min_two max_three min_three max_four min_four   -- for this text's walks alone
set_option linter.unusedVariables false
set_option linter.unusedSimpArgs false



def errW : Option Int → Value
  | none => .nilIface
  | some c => .iface 0 (.int .i64 c)
theorem errW_none : errW none = .nilIface := rfl
theorem errW_some (c : Int) : errW (some c) = .iface 0 (.int .i64 c) := rfl

-- the values' own types

end Go.Proofs.Ytmhhehklcfkapab.PFnGeos
