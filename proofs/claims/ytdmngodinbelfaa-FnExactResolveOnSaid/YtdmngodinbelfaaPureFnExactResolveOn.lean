/- The pure statement of FnExactResolveOn is proved in YtdmngodinbelfaaResolveAll; no condition of its own. -/
import Derived.Test.YtdmngodinbelfaaResolveAll
