import Derived.Test.YtgdmdaalmoioeaaGreatWInv
import Derived.Test.YtgdmdaalmoioeaaGreatWFootNe
namespace Go.Proofs.YtgdmdaalmoioeaaGreatW.PrintWords
open Go.RowKit
end Go.Proofs.YtgdmdaalmoioeaaGreatW.PrintWords
namespace Go.Proofs.YtgdmdaalmoioeaaGreatW.PrintLast
section
variable {ops : Array Oper} {a : Act} {o og : Oper} {g : Nat} {t : Tmp} {u : Bool}
end
end Go.Proofs.YtgdmdaalmoioeaaGreatW.PrintLast
