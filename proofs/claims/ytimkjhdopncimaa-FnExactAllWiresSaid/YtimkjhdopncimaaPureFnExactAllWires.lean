/- The pure statement of FnExactAllWires is proved in YtimkjhdopncimaaWiresL; no condition of its own. -/
import Derived.Test.YtimkjhdopncimaaWiresL
