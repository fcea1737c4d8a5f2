/- The pure statement of FnExactCnfFor is proved in YtgdmdaalmoioeaaForAll; no condition of its own. -/
import Derived.Test.YtgdmdaalmoioeaaForAll
