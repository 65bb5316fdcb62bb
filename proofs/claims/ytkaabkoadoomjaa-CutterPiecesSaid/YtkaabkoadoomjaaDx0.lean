-- Written by this session's own program (wip/tools/printx.py, over the kit's printer), with texts by hand laid in.
import Derived.Test.YtkaabkoadoomjaaProg
import Derived.Below
import Derived.Deep.Draws
import Derived.Deep.AppendLies
import Derived.Maps.AppendAt
import Derived.OwnWalk
import Derived.Laws.BytesArg
import Derived.Laws.MakeOwn
import Derived.Laws.OwnMore
import Derived.Deep.OwnRows
import Derived.Tactics
import Derived.Lib.ConvBytes
import Derived.Laws.Slices
import Derived.WalkKit
import Derived.KernelRfl
import Derived.RowKit3
import Derived.Deep.LoopGhost
import Derived.Deep.QuietTactic
import Derived.BigQuiet
import Derived.WideLaws
import Derived.Deep.DeepCutAuto
import Derived.Deep.CutBlock
import Derived.Deep.RegionHeld3
import Derived.Laws.Rows
import Derived.Lib.AppendStr
import Derived.ArgAppend
import Derived.Laws.IdiomCopy
import Derived.OrdersHeld
import Derived.Laws.BitsLemmas
import Derived.RowKit
import Derived.Test.YtkaabkoadoomjaaWWords
import Derived.Test.YtkaabkoadoomjaaWLast
import Derived.Test.YtkaabkoadoomjaaWTab
import Derived.Test.YtkaabkoadoomjaaWFour
import Derived.Test.YtkaabkoadoomjaaWQPut
import Derived.Test.YtkaabkoadoomjaaWApart
import Derived.Test.YtkaabkoadoomjaaWArr
import Derived.Test.YtkaabkoadoomjaaWZeros
import Derived.Test.YtkaabkoadoomjaaWFoot
import Derived.Test.YtkaabkoadoomjaaWKept
import Derived.Test.YtkaabkoadoomjaaWShare
import Derived.Test.YtkaabkoadoomjaaWN
import Derived.Test.YtkaabkoadoomjaaWFootNe
import Derived.Test.YtkaabkoadoomjaaWAt
import Derived.Test.YtkaabkoadoomjaaWEqStruct
import Derived.Test.YtkaabkoadoomjaaWRepsOne
import Derived.Test.YtkaabkoadoomjaaWInv
import Derived.Test.YtkaabkoadoomjaaWInvWords
import Derived.Test.YtkaabkoadoomjaaWGuard
import Derived.Test.YtkaabkoadoomjaaWNEv
import Derived.Test.YtkaabkoadoomjaaWMore
namespace Go.Proofs.Ytkaabkoadoomjaa.D
open Go.RowKit Go.Proofs.YtkaabkoadoomjaaW.PrintWords Go.Proofs.YtkaabkoadoomjaaW.PrintLast Go.Proofs.YtkaabkoadoomjaaW.PrintMore
attribute [local go_sem] max2_int min2_int max_two min_two max_three min_three max_four min_four   -- for this text's walks alone
set_option linter.unusedVariables false
set_option linter.unusedSimpArgs false



def errW : Option Int → Value
  | none => .nilIface
  | some c => .iface 0 (.int .i64 c)
theorem errW_none : errW none = .nilIface := rfl
theorem errW_some (c : Int) : errW (some c) = .iface 0 (.int .i64 c) := rfl

theorem info3 : (Try.prog.info? 3).map (fun i => (i.zero, i.size, i.bytes)) = some (some (.int .i64 0), 1, 8) := by kernel_rfl
theorem info5 : (Try.prog.info? 5).map (fun i => (i.zero, i.size, i.bytes)) = some (some (.int .u8 0), 1, 1) := by kernel_rfl
-- the values' own types

end Go.Proofs.Ytkaabkoadoomjaa.D
