-- Written by this session's own program (wip/tools/printx.py, over the kit's printer), with texts by hand laid in.
import Derived.Test.YtgkkimonpfhbdaaProg
import Derived.Below
import Derived.Deep.Draws
import Derived.Deep.AppendLies
import Derived.Maps.AppendAt
import Derived.OwnWalk
import Derived.Laws.BytesArg
import Derived.Laws.MakeOwn
import Derived.Laws.OwnMore
import Derived.Deep.OwnRows
import Derived.Tactics
import Derived.Lib.ConvBytes
import Derived.Laws.Slices
import Derived.WalkKit
import Derived.KernelRfl
import Derived.RowKit3
import Derived.Deep.LoopGhost
import Derived.Deep.QuietTactic
import Derived.BigQuiet
import Derived.WideLaws
import Derived.Deep.DeepCutAuto
import Derived.Deep.CutBlock
import Derived.Deep.RegionHeld3
import Derived.Laws.Rows
import Derived.Lib.AppendStr
import Derived.ArgAppend
import Derived.Laws.IdiomCopy
import Derived.OrdersHeld
import Derived.Laws.BitsLemmas
import Derived.RowKit
import Derived.Scope
import Derived.ScopeJumps
import Derived.WalkMore
import Derived.Test.YtgkkimonpfhbdaaWWords
import Derived.Test.YtgkkimonpfhbdaaWLast
import Derived.Test.YtgkkimonpfhbdaaWTab
import Derived.Test.YtgkkimonpfhbdaaWFour
import Derived.Test.YtgkkimonpfhbdaaWQPut
import Derived.Test.YtgkkimonpfhbdaaWApart
import Derived.Test.YtgkkimonpfhbdaaWArr
import Derived.Test.YtgkkimonpfhbdaaWZeros
import Derived.Test.YtgkkimonpfhbdaaWFoot
import Derived.Test.YtgkkimonpfhbdaaWKept
import Derived.Test.YtgkkimonpfhbdaaWShare
import Derived.Test.YtgkkimonpfhbdaaWN
import Derived.Test.YtgkkimonpfhbdaaWFootNe
import Derived.Test.YtgkkimonpfhbdaaWAt
import Derived.Test.YtgkkimonpfhbdaaWEqStruct
import Derived.Test.YtgkkimonpfhbdaaWRepsOne
import Derived.Test.YtgkkimonpfhbdaaWInv
import Derived.Test.YtgkkimonpfhbdaaWInvWords
import Derived.Test.YtgkkimonpfhbdaaWGuard
import Derived.Test.YtgkkimonpfhbdaaWNEv
import Derived.Test.YtgkkimonpfhbdaaWMore
namespace Go.Proofs.Ytgkkimonpfhbdaa.A
open Go.RowKit Go.Proofs.YtgkkimonpfhbdaaW.PrintWords Go.Proofs.YtgkkimonpfhbdaaW.PrintLast Go.Proofs.YtgkkimonpfhbdaaW.PrintMore
attribute [local go_sem] max2_int min2_int max_two min_two max_three min_three max_four min_four   -- for this text's walks alone
set_option linter.unusedVariables false
set_option linter.unusedSimpArgs false



def errW : Option Int → Value
  | none => .nilIface
  | some c => .iface 0 (.int .i64 c)
theorem errW_none : errW none = .nilIface := rfl
theorem errW_some (c : Int) : errW (some c) = .iface 0 (.int .i64 c) := rfl

theorem info3 : (Try.prog.info? 3).map (fun i => (i.zero, i.size, i.bytes)) = some (some (.int .i64 0), 1, 8) := by kernel_rfl
-- the values' own types

end Go.Proofs.Ytgkkimonpfhbdaa.A
