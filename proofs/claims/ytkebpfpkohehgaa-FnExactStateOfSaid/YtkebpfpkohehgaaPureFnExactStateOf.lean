/- The pure statement of FnExactStateOf is proved in YtkebpfpkohehgaaStateOAll; no condition of its own. -/
import Derived.Test.YtkebpfpkohehgaaStateOAll
