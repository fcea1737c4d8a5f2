/- The pure statement of FnExactEqGates is proved in YtimkjhdopncimaaEqAll; no condition of its own. -/
import Derived.Test.YtimkjhdopncimaaEqAll
