/- The pure statement of FnExactGoodCnf is proved in YtdmngodinbelfaaCnfL; no condition of its own. -/
import Derived.Test.YtdmngodinbelfaaCnfL
