-- Written by the session's own patched copy of the printer (wip/patch_print.py).
import Derived.Test.YtgmnnkodcmmfdaaProg
import Derived.Below
import Derived.Deep.Draws
import Derived.Deep.AppendLies
import Derived.Maps.AppendAt
import Derived.OwnWalk
import Derived.Laws.BytesArg
import Derived.Laws.MakeOwn
import Derived.Laws.OwnMore
import Derived.Deep.OwnRows
import Derived.Tactics
import Derived.Lib.ConvBytes
import Derived.Laws.Slices
import Derived.WalkKit
import Derived.KernelRfl
import Derived.RowKit3
import Derived.Deep.LoopGhost
import Derived.Deep.QuietTactic
import Derived.BigQuiet
import Derived.WideLaws
import Derived.Deep.DeepCutAuto
import Derived.Deep.CutBlock
import Derived.Deep.RegionHeld3
import Derived.Laws.Rows
import Derived.Lib.AppendStr
import Derived.ArgAppend
import Derived.Laws.IdiomCopy
import Derived.OrdersHeld
import Derived.Laws.BitsLemmas
import Derived.RowKit
import Derived.Test.YtgmnnkodcmmfdaaWWords
import Derived.Test.YtgmnnkodcmmfdaaWLast
import Derived.Test.YtgmnnkodcmmfdaaWTab
import Derived.Test.YtgmnnkodcmmfdaaWFour
import Derived.Test.YtgmnnkodcmmfdaaWQPut
import Derived.Test.YtgmnnkodcmmfdaaWApart
import Derived.Test.YtgmnnkodcmmfdaaWArr
import Derived.Test.YtgmnnkodcmmfdaaWZeros
import Derived.Test.YtgmnnkodcmmfdaaWFoot
import Derived.Test.YtgmnnkodcmmfdaaWKept
import Derived.Test.YtgmnnkodcmmfdaaWShare
import Derived.Test.YtgmnnkodcmmfdaaWN
import Derived.Test.YtgmnnkodcmmfdaaWFootNe
import Derived.Test.YtgmnnkodcmmfdaaWAt
import Derived.Test.YtgmnnkodcmmfdaaWEqStruct
import Derived.Test.YtgmnnkodcmmfdaaWRepsOne
import Derived.Test.YtgmnnkodcmmfdaaWInv
import Derived.Test.YtgmnnkodcmmfdaaWInvWords
import Derived.Test.YtgmnnkodcmmfdaaWGuard
import Derived.Test.YtgmnnkodcmmfdaaWNEv
import Derived.Test.YtgmnnkodcmmfdaaWMore
namespace Go.Proofs.Ytgmnnkodcmmfdaa.PFnWord
open Go.RowKit Go.Proofs.YtgmnnkodcmmfdaaW.PrintWords Go.Proofs.YtgmnnkodcmmfdaaW.PrintLast Go.Proofs.YtgmnnkodcmmfdaaW.PrintMore
attribute [local go_sem] max2_int min2_int max_two min_two max_three min_three max_four min_four   -- for this text's walks alone
set_option linter.unusedVariables false
set_option linter.unusedSimpArgs false



def errW : Option Int → Value
  | none => .nilIface
  | some c => .iface 0 (.int .i64 c)
theorem errW_none : errW none = .nilIface := rfl
theorem errW_some (c : Int) : errW (some c) = .iface 0 (.int .i64 c) := rfl

theorem info5 : (Try.prog.info? 5).map (fun i => (i.zero, i.size, i.bytes)) = some (some (.int .u8 0), 1, 1) := by kernel_rfl
-- the values' own types

end Go.Proofs.Ytgmnnkodcmmfdaa.PFnWord
