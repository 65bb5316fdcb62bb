-- Written by this session's own program (wip/tools/printx.py, over the kit's printer), with texts by hand laid in.
import Derived.Test.YteonbbfegnjjeaaProg
import Derived.Below
import Derived.Deep.Draws
import Derived.Deep.AppendLies
import Derived.Maps.AppendAt
import Derived.OwnWalk
import Derived.Laws.BytesArg
import Derived.Laws.MakeOwn
import Derived.Laws.OwnMore
import Derived.Deep.OwnRows
import Derived.Tactics
import Derived.Lib.ConvBytes
import Derived.Laws.Slices
import Derived.WalkKit
import Derived.KernelRfl
import Derived.RowKit3
import Derived.Deep.LoopGhost
import Derived.Deep.QuietTactic
import Derived.BigQuiet
import Derived.WideLaws
import Derived.Deep.DeepCutAuto
import Derived.Deep.CutBlock
import Derived.Deep.RegionHeld3
import Derived.Laws.Rows
import Derived.Lib.AppendStr
import Derived.ArgAppend
import Derived.Laws.IdiomCopy
import Derived.OrdersHeld
import Derived.Laws.BitsLemmas
import Derived.RowKit
import Derived.Test.YteonbbfegnjjeaaWWords
import Derived.Test.YteonbbfegnjjeaaWLast
import Derived.Test.YteonbbfegnjjeaaWTab
import Derived.Test.YteonbbfegnjjeaaWFour
import Derived.Test.YteonbbfegnjjeaaWQPut
import Derived.Test.YteonbbfegnjjeaaWApart
import Derived.Test.YteonbbfegnjjeaaWArr
import Derived.Test.YteonbbfegnjjeaaWZeros
import Derived.Test.YteonbbfegnjjeaaWFoot
import Derived.Test.YteonbbfegnjjeaaWKept
import Derived.Test.YteonbbfegnjjeaaWShare
import Derived.Test.YteonbbfegnjjeaaWN
import Derived.Test.YteonbbfegnjjeaaWFootNe
import Derived.Test.YteonbbfegnjjeaaWAt
import Derived.Test.YteonbbfegnjjeaaWEqStruct
import Derived.Test.YteonbbfegnjjeaaWRepsOne
import Derived.Test.YteonbbfegnjjeaaWInv
import Derived.Test.YteonbbfegnjjeaaWInvWords
import Derived.Test.YteonbbfegnjjeaaWGuard
import Derived.Test.YteonbbfegnjjeaaWNEv
import Derived.Test.YteonbbfegnjjeaaWMore
namespace Go.Proofs.Yteonbbfegnjjeaa.D
open Go.RowKit Go.Proofs.YteonbbfegnjjeaaW.PrintWords Go.Proofs.YteonbbfegnjjeaaW.PrintLast Go.Proofs.YteonbbfegnjjeaaW.PrintMore
attribute [local go_sem] max2_int min2_int max_two min_two max_three min_three max_four min_four   -- for this text's walks alone
set_option linter.unusedVariables false
set_option linter.unusedSimpArgs false



def errW : Option Int → Value
  | none => .nilIface
  | some c => .iface 0 (.int .i64 c)
theorem errW_none : errW none = .nilIface := rfl
theorem errW_some (c : Int) : errW (some c) = .iface 0 (.int .i64 c) := rfl

theorem info5 : (Try.prog.info? 5).map (fun i => (i.zero, i.size, i.bytes)) = some (some (.int .u8 0), 1, 1) := by kernel_rfl
-- the values' own types

end Go.Proofs.Yteonbbfegnjjeaa.D
