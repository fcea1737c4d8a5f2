import Derived.SizedLaws
import Derived.ChangeSlices
namespace Go.Proofs.YtgdmdaalmoioeaaGreatW.PrintWords
open Go.ChangeShapes Go.WideShapes
end Go.Proofs.YtgdmdaalmoioeaaGreatW.PrintWords
