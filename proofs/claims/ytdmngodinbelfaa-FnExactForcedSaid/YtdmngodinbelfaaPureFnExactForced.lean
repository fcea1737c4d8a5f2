/- The pure statement of FnExactForced is proved in YtdmngodinbelfaaForcAll; no condition of its own. -/
import Derived.Test.YtdmngodinbelfaaForcAll
