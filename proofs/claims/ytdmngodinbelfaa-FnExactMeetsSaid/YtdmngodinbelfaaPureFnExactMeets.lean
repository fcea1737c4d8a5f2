/- The pure statement of FnExactMeets is proved in YtdmngodinbelfaaMeetsL; no condition of its own. -/
import Derived.Test.YtdmngodinbelfaaMeetsL
