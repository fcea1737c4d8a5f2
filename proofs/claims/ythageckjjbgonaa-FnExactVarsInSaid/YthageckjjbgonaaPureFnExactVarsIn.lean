/- The pure statement of FnExactVarsIn is proved in YthageckjjbgonaaVarsAll; no condition of its own. -/
import Derived.Test.YthageckjjbgonaaVarsAll
