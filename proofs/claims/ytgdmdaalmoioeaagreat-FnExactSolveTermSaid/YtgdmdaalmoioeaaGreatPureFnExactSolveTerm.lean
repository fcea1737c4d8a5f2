/- The pure statement of FnExactSolveTerm is proved in YtgdmdaalmoioeaaGreatTermFull; no condition of its own. -/
import Derived.Test.YtgdmdaalmoioeaaGreatTermFull
