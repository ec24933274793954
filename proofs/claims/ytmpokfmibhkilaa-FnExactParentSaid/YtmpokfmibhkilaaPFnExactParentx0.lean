-- Written by the session's own patched copy of the printer (wip/patch_print.py).
import Derived.Test.YtmpokfmibhkilaaProg
import Derived.Below
import Derived.Deep.Draws
import Derived.Deep.AppendLies
import Derived.Maps.AppendAt
import Derived.OwnWalk
import Derived.Laws.BytesArg
import Derived.Laws.MakeOwn
import Derived.Laws.OwnMore
import Derived.Deep.OwnRows
import Derived.Tactics
import Derived.Lib.ConvBytes
import Derived.Laws.Slices
import Derived.WalkKit
import Derived.KernelRfl
import Derived.RowKit3
import Derived.Deep.LoopGhost
import Derived.Deep.QuietTactic
import Derived.BigQuiet
import Derived.WideLaws
import Derived.Deep.DeepCutAuto
import Derived.Deep.CutBlock
import Derived.Deep.RegionHeld3
import Derived.Laws.Rows
import Derived.Lib.AppendStr
import Derived.ArgAppend
import Derived.Laws.IdiomCopy
import Derived.OrdersHeld
import Derived.Laws.BitsLemmas
import Derived.RowKit
import Derived.Test.YtmpokfmibhkilaaWWords
import Derived.Test.YtmpokfmibhkilaaWLast
import Derived.Test.YtmpokfmibhkilaaWTab
import Derived.Test.YtmpokfmibhkilaaWFour
import Derived.Test.YtmpokfmibhkilaaWQPut
import Derived.Test.YtmpokfmibhkilaaWApart
import Derived.Test.YtmpokfmibhkilaaWArr
import Derived.Test.YtmpokfmibhkilaaWZeros
import Derived.Test.YtmpokfmibhkilaaWFoot
import Derived.Test.YtmpokfmibhkilaaWKept
import Derived.Test.YtmpokfmibhkilaaWShare
import Derived.Test.YtmpokfmibhkilaaWN
import Derived.Test.YtmpokfmibhkilaaWFootNe
import Derived.Test.YtmpokfmibhkilaaWAt
import Derived.Test.YtmpokfmibhkilaaWEqStruct
import Derived.Test.YtmpokfmibhkilaaWRepsOne
import Derived.Test.YtmpokfmibhkilaaWInv
import Derived.Test.YtmpokfmibhkilaaWInvWords
import Derived.Test.YtmpokfmibhkilaaWGuard
import Derived.Test.YtmpokfmibhkilaaWNEv
import Derived.Test.YtmpokfmibhkilaaWMore
namespace Go.Proofs.Ytmpokfmibhkilaa.PFnExactParent
open Go.RowKit Go.Proofs.YtmpokfmibhkilaaW.PrintWords Go.Proofs.YtmpokfmibhkilaaW.PrintLast Go.Proofs.YtmpokfmibhkilaaW.PrintMore
attribute [local go_sem] max2_int min2_int max_two min_two max_three min_three max_four min_four   -- for this text's walks alone
set_option linter.unusedVariables false
set_option linter.unusedSimpArgs false



def errW : Option Int → Value
  | none => .nilIface
  | some c => .iface 0 (.int .i64 c)
theorem errW_none : errW none = .nilIface := rfl
theorem errW_some (c : Int) : errW (some c) = .iface 0 (.int .i64 c) := rfl

-- the values' own types

end Go.Proofs.Ytmpokfmibhkilaa.PFnExactParent
