/- The pure statement of FnExactKindOf is proved in YthageckjjbgonaaNodes; no condition of its own. -/
import Derived.Test.YthageckjjbgonaaNodes
