/- The pure statement of FnExactDepthOf is proved in YthageckjjbgonaaDepth; no condition of its own. -/
import Derived.Test.YthageckjjbgonaaDepth
