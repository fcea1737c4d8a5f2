/- The pure statement of FnExactJoinTerms is proved in YthageckjjbgonaaJoin; no condition of its own. -/
import Derived.Test.YthageckjjbgonaaJoin
