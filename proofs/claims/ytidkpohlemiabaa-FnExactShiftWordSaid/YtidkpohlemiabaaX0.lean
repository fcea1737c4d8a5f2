/- Each Go function as a Lean function, with the proof that the call comes to just its answer; or a law's row out of its pure statement. Conditions: the arguments are of their kinds. Written by this session's program wip/xp/xp.sh. -/
import Derived.Test.YtidkpohlemiabaaProg
import Derived.Below
import Derived.Deep.Draws
import Derived.Deep.AppendLies
import Derived.Maps.AppendAt
import Derived.OwnWalk
import Derived.Laws.BytesArg
import Derived.Laws.MakeOwn
import Derived.Laws.OwnMore
import Derived.Deep.OwnRows
import Derived.Tactics
import Derived.Lib.ConvBytes
import Derived.Laws.Slices
import Derived.WalkKit
import Derived.KernelRfl
import Derived.RowKit3
import Derived.Deep.LoopGhost
import Derived.Deep.QuietTactic
import Derived.BigQuiet
import Derived.WideLaws
import Derived.Deep.DeepCutAuto
import Derived.Deep.CutBlock
import Derived.Deep.RegionHeld3
import Derived.Laws.Rows
import Derived.Lib.AppendStr
import Derived.ArgAppend
import Derived.Laws.IdiomCopy
import Derived.OrdersHeld
import Derived.Laws.BitsLemmas
import Derived.RowKit
import Derived.Test.YtidkpohlemiabaaWWords
import Derived.Test.YtidkpohlemiabaaWLast
import Derived.Test.YtidkpohlemiabaaWTab
import Derived.Test.YtidkpohlemiabaaWFour
import Derived.Test.YtidkpohlemiabaaWQPut
import Derived.Test.YtidkpohlemiabaaWApart
import Derived.Test.YtidkpohlemiabaaWArr
import Derived.Test.YtidkpohlemiabaaWZeros
import Derived.Test.YtidkpohlemiabaaWFoot
import Derived.Test.YtidkpohlemiabaaWKept
import Derived.Test.YtidkpohlemiabaaWShare
import Derived.Test.YtidkpohlemiabaaWN
import Derived.Test.YtidkpohlemiabaaWFootNe
import Derived.Test.YtidkpohlemiabaaWAt
import Derived.Test.YtidkpohlemiabaaWEqStruct
import Derived.Test.YtidkpohlemiabaaWRepsOne
import Derived.Test.YtidkpohlemiabaaWInv
import Derived.Test.YtidkpohlemiabaaWInvWords
import Derived.Test.YtidkpohlemiabaaWGuard
import Derived.Test.YtidkpohlemiabaaWNEv
import Derived.Test.YtidkpohlemiabaaWMore
namespace Go.Proofs.Ytidkpohlemiabaa.X
open Go.RowKit Go.Proofs.YtidkpohlemiabaaW.PrintWords Go.Proofs.YtidkpohlemiabaaW.PrintLast Go.Proofs.YtidkpohlemiabaaW.PrintMore
attribute [local go_sem] max2_int min2_int max_two min_two max_three min_three max_four min_four   -- for this text's walks alone
set_option linter.unusedVariables false
set_option linter.unusedSimpArgs false



def errW : Option Int → Value
  | none => .nilIface
  | some c => .iface 0 (.int .i64 c)
theorem errW_none : errW none = .nilIface := rfl
theorem errW_some (c : Int) : errW (some c) = .iface 0 (.int .i64 c) := rfl

theorem info5 : (Try.prog.info? 5).map (fun i => (i.zero, i.size, i.bytes)) = some (some (.int .u8 0), 1, 1) := by kernel_rfl
-- the values' own types

end Go.Proofs.Ytidkpohlemiabaa.X
