/- The pure statement of FnExactTurnTerm is proved in YthageckjjbgonaaTurn; no condition of its own. -/
import Derived.Test.YthageckjjbgonaaTurn
