/- The pure statement of FnExactGoodProgram is proved in YtkebpfpkohehgaaGoodsAll; no condition of its own. -/
import Derived.Test.YtkebpfpkohehgaaGoodsAll
