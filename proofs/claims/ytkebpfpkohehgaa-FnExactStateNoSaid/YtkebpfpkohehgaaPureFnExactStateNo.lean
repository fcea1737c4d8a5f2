/- The pure statement of FnExactStateNo is proved in YtkebpfpkohehgaaStateNAll; no condition of its own. -/
import Derived.Test.YtkebpfpkohehgaaStateNAll
