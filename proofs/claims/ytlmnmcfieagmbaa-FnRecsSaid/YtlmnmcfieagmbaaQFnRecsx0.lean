/- Laid by a program of this session over the printer's text: what Go functions that the law reaches come to. -/
import Derived.Test.YtlmnmcfieagmbaaProg
import Derived.Below
import Derived.Deep.Draws
import Derived.Deep.AppendLies
import Derived.Maps.AppendAt
import Derived.OwnWalk
import Derived.Laws.BytesArg
import Derived.Laws.MakeOwn
import Derived.Laws.OwnMore
import Derived.Deep.OwnRows
import Derived.Tactics
import Derived.Lib.ConvBytes
import Derived.Laws.Slices
import Derived.WalkKit
import Derived.KernelRfl
import Derived.RowKit3
import Derived.Deep.LoopGhost
import Derived.Deep.QuietTactic
import Derived.BigQuiet
import Derived.WideLaws
import Derived.Deep.DeepCutAuto
import Derived.Deep.CutBlock
import Derived.Deep.RegionHeld3
import Derived.Laws.Rows
import Derived.Lib.AppendStr
import Derived.ArgAppend
import Derived.Laws.IdiomCopy
import Derived.OrdersHeld
import Derived.Laws.BitsLemmas
import Derived.RowKit
import Derived.Test.YtlmnmcfieagmbaaWWords
import Derived.Test.YtlmnmcfieagmbaaWLast
import Derived.Test.YtlmnmcfieagmbaaWTab
import Derived.Test.YtlmnmcfieagmbaaWFour
import Derived.Test.YtlmnmcfieagmbaaWQPut
import Derived.Test.YtlmnmcfieagmbaaWApart
import Derived.Test.YtlmnmcfieagmbaaWArr
import Derived.Test.YtlmnmcfieagmbaaWZeros
import Derived.Test.YtlmnmcfieagmbaaWFoot
import Derived.Test.YtlmnmcfieagmbaaWKept
import Derived.Test.YtlmnmcfieagmbaaWShare
import Derived.Test.YtlmnmcfieagmbaaWN
import Derived.Test.YtlmnmcfieagmbaaWFootNe
import Derived.Test.YtlmnmcfieagmbaaWAt
import Derived.Test.YtlmnmcfieagmbaaWEqStruct
import Derived.Test.YtlmnmcfieagmbaaWRepsOne
import Derived.Test.YtlmnmcfieagmbaaWInv
import Derived.Test.YtlmnmcfieagmbaaWInvWords
import Derived.Test.YtlmnmcfieagmbaaWGuard
import Derived.Test.YtlmnmcfieagmbaaWNEv
import Derived.Test.YtlmnmcfieagmbaaWMore
namespace Go.Proofs.Ytlmnmcfieagmbaa.PFnRecs
open Go.RowKit Go.Proofs.YtlmnmcfieagmbaaW.PrintWords Go.Proofs.YtlmnmcfieagmbaaW.PrintLast Go.Proofs.YtlmnmcfieagmbaaW.PrintMore
attribute [local go_sem] max2_int min2_int max_two min_two max_three min_three max_four min_four   -- for this text's walks alone
set_option linter.unusedVariables false
set_option linter.unusedSimpArgs false



def errW : Option Int → Value
  | none => .nilIface
  | some c => .iface 0 (.int .i64 c)
theorem errW_none : errW none = .nilIface := rfl
theorem errW_some (c : Int) : errW (some c) = .iface 0 (.int .i64 c) := rfl

theorem info3 : (Try.prog.info? 3).map (fun i => (i.zero, i.size, i.bytes)) = some (some (.int .i64 0), 1, 8) := by kernel_rfl
-- the values' own types

end Go.Proofs.Ytlmnmcfieagmbaa.PFnRecs
