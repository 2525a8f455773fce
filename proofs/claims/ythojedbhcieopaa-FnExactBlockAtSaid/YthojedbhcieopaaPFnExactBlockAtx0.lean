-- PRINTED BY print.sh 35421559b90ae4d0a3588c463048766b98c2df88dd9212a6774a882060cdf62d: not written by this session
import Derived.Test.YthojedbhcieopaaProg
import Derived.Below
import Derived.Deep.Draws
import Derived.Deep.AppendLies
import Derived.Maps.AppendAt
import Derived.OwnWalk
import Derived.Laws.BytesArg
import Derived.Laws.MakeOwn
import Derived.Laws.OwnMore
import Derived.Deep.OwnRows
import Derived.Tactics
import Derived.Lib.ConvBytes
import Derived.Laws.Slices
import Derived.WalkKit
import Derived.KernelRfl
import Derived.RowKit3
import Derived.Deep.LoopGhost
import Derived.Deep.QuietTactic
import Derived.BigQuiet
import Derived.WideLaws
import Derived.Deep.DeepCutAuto
import Derived.Deep.CutBlock
import Derived.Deep.RegionHeld3
import Derived.Laws.Rows
import Derived.Lib.AppendStr
import Derived.ArgAppend
import Derived.Laws.IdiomCopy
import Derived.OrdersHeld
import Derived.Laws.BitsLemmas
import Derived.RowKit
import Derived.Test.YthojedbhcieopaaWWords
import Derived.Test.YthojedbhcieopaaWLast
import Derived.Test.YthojedbhcieopaaWTab
import Derived.Test.YthojedbhcieopaaWFour
import Derived.Test.YthojedbhcieopaaWQPut
import Derived.Test.YthojedbhcieopaaWApart
import Derived.Test.YthojedbhcieopaaWArr
import Derived.Test.YthojedbhcieopaaWZeros
import Derived.Test.YthojedbhcieopaaWFoot
import Derived.Test.YthojedbhcieopaaWKept
import Derived.Test.YthojedbhcieopaaWShare
import Derived.Test.YthojedbhcieopaaWN
import Derived.Test.YthojedbhcieopaaWFootNe
import Derived.Test.YthojedbhcieopaaWAt
import Derived.Test.YthojedbhcieopaaWEqStruct
import Derived.Test.YthojedbhcieopaaWRepsOne
import Derived.Test.YthojedbhcieopaaWInv
import Derived.Test.YthojedbhcieopaaWInvWords
import Derived.Test.YthojedbhcieopaaWGuard
import Derived.Test.YthojedbhcieopaaWNEv
import Derived.Test.YthojedbhcieopaaWMore
namespace Go.Proofs.Ythojedbhcieopaa.PFnExactBlockAt
open Go.RowKit Go.Proofs.YthojedbhcieopaaW.PrintWords Go.Proofs.YthojedbhcieopaaW.PrintLast Go.Proofs.YthojedbhcieopaaW.PrintMore
attribute [local go_sem] max2_int min2_int max_two min_two max_three min_three max_four min_four   -- for this text's walks alone
set_option linter.unusedVariables false
set_option linter.unusedSimpArgs false



def errW : Option Int → Value
  | none => .nilIface
  | some c => .iface 0 (.int .i64 c)
theorem errW_none : errW none = .nilIface := rfl
theorem errW_some (c : Int) : errW (some c) = .iface 0 (.int .i64 c) := rfl

-- the values' own types

end Go.Proofs.Ythojedbhcieopaa.PFnExactBlockAt
