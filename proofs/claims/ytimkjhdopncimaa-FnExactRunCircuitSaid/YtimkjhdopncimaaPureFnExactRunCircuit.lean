/- The pure statement of FnExactRunCircuit is proved in YtimkjhdopncimaaOuts; no condition of its own. -/
import Derived.Test.YtimkjhdopncimaaOuts
