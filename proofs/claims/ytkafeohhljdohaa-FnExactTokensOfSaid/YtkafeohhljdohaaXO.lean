/- Each Go function as a Lean function, with the proof that the call comes to just its answer; or a law's row out of its pure statement. Conditions: the arguments are of their kinds. Written by this session's program wip/xp/xp.sh. -/
import Derived.Test.YtkafeohhljdohaaX0
import Derived.Test.YtkafeohhljdohaaOpen
namespace Go.Proofs.Ytkafeohhljdohaa.X
open Go.RowKit Go.Proofs.YtkafeohhljdohaaW.PrintWords Go.Proofs.YtkafeohhljdohaaW.PrintLast Go.Proofs.YtkafeohhljdohaaW.PrintMore
attribute [local go_sem] max2_int min2_int max_two min_two max_three min_three max_four min_four   -- for this text's walks alone
set_option linter.unusedVariables false
set_option linter.unusedSimpArgs false

open Go.Proofs.Ytkafeohhljdohaa.Open
end Go.Proofs.Ytkafeohhljdohaa.X
