/- The pure statement of FnExactIsSmall is proved in YtkebpfpkohehgaaSmallAll; no condition of its own. -/
import Derived.Test.YtkebpfpkohehgaaSmallAll
