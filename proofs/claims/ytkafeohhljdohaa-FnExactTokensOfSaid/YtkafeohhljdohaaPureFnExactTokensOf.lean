/- The pure statement of FnExactTokensOf is proved in YtkafeohhljdohaaTokAll; no condition of its own. -/
import Derived.Test.YtkafeohhljdohaaTokAll
