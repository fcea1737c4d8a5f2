/- The pure statement of FnExactGoodCircuit is proved in YtimkjhdopncimaaGates; no condition of its own. -/
import Derived.Test.YtimkjhdopncimaaGates
