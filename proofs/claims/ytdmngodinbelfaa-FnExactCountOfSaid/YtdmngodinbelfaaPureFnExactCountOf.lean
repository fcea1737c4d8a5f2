/- The pure statement of FnExactCountOf is proved in YtdmngodinbelfaaCount; no condition of its own. -/
import Derived.Test.YtdmngodinbelfaaCount
