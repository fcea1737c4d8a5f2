/- The pure statement of FnExactIsPlain is proved in YthageckjjbgonaaPlain; no condition of its own. -/
import Derived.Test.YthageckjjbgonaaPlain
