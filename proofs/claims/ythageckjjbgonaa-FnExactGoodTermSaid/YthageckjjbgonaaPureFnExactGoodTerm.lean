/- The pure statement of FnExactGoodTerm is proved in YthageckjjbgonaaNodes; no condition of its own. -/
import Derived.Test.YthageckjjbgonaaNodes
