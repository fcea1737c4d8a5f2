/- The pure statement of FnExactGoodProgram is proved in YtkebpfpkohehgaaProgAll; no condition of its own. -/
import Derived.Test.YtkebpfpkohehgaaProgAll
