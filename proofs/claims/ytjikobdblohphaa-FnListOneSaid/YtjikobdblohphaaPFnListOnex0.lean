-- Written by the session's own patched copy of the printer (wip/patch_print.py).
import Derived.Test.YtjikobdblohphaaProg
import Derived.Below
import Derived.Deep.Draws
import Derived.Deep.AppendLies
import Derived.Maps.AppendAt
import Derived.OwnWalk
import Derived.Laws.BytesArg
import Derived.Laws.MakeOwn
import Derived.Laws.OwnMore
import Derived.Deep.OwnRows
import Derived.Tactics
import Derived.Lib.ConvBytes
import Derived.Laws.Slices
import Derived.WalkKit
import Derived.KernelRfl
import Derived.RowKit3
import Derived.Deep.LoopGhost
import Derived.Deep.QuietTactic
import Derived.BigQuiet
import Derived.WideLaws
import Derived.Deep.DeepCutAuto
import Derived.Deep.CutBlock
import Derived.Deep.RegionHeld3
import Derived.Laws.Rows
import Derived.Lib.AppendStr
import Derived.ArgAppend
import Derived.Laws.IdiomCopy
import Derived.OrdersHeld
import Derived.Laws.BitsLemmas
import Derived.RowKit
import Derived.Test.YtjikobdblohphaaWWords
import Derived.Test.YtjikobdblohphaaWLast
import Derived.Test.YtjikobdblohphaaWTab
import Derived.Test.YtjikobdblohphaaWFour
import Derived.Test.YtjikobdblohphaaWQPut
import Derived.Test.YtjikobdblohphaaWApart
import Derived.Test.YtjikobdblohphaaWArr
import Derived.Test.YtjikobdblohphaaWZeros
import Derived.Test.YtjikobdblohphaaWFoot
import Derived.Test.YtjikobdblohphaaWKept
import Derived.Test.YtjikobdblohphaaWShare
import Derived.Test.YtjikobdblohphaaWN
import Derived.Test.YtjikobdblohphaaWFootNe
import Derived.Test.YtjikobdblohphaaWAt
import Derived.Test.YtjikobdblohphaaWEqStruct
import Derived.Test.YtjikobdblohphaaWRepsOne
import Derived.Test.YtjikobdblohphaaWInv
import Derived.Test.YtjikobdblohphaaWInvWords
import Derived.Test.YtjikobdblohphaaWGuard
import Derived.Test.YtjikobdblohphaaWNEv
import Derived.Test.YtjikobdblohphaaWMore
namespace Go.Proofs.Ytjikobdblohphaa.PFnListOne
open Go.RowKit Go.Proofs.YtjikobdblohphaaW.PrintWords Go.Proofs.YtjikobdblohphaaW.PrintLast Go.Proofs.YtjikobdblohphaaW.PrintMore
attribute [local go_sem] max2_int min2_int max_two min_two max_three min_three max_four min_four   -- for this text's walks alone
set_option linter.unusedVariables false
set_option linter.unusedSimpArgs false



def errW : Option Int → Value
 | none => .nilIface
 | some c => .iface 0 (.int .i64 c)
theorem errW_none : errW none = .nilIface := rfl
theorem errW_some (c : Int) : errW (some c) = .iface 0 (.int .i64 c) := rfl

theorem info3 : (Try.prog.info? 3).map (fun i => (i.zero, i.size, i.bytes)) = some (some (.int .i64 0), 1, 8) := by kernel_rfl
-- the values' own types

end Go.Proofs.Ytjikobdblohphaa.PFnListOne
