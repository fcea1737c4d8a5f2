/- The pure statement of FnExactAddGates is proved in YtimkjhdopncimaaAddAll; no condition of its own. -/
import Derived.Test.YtimkjhdopncimaaAddAll
