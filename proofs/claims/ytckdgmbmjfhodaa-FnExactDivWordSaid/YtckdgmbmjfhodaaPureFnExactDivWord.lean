/- The pure statement of FnExactDivWord is proved in YtckdgmbmjfhodaaDivL; no condition of its own. -/
import Derived.Test.YtckdgmbmjfhodaaDivL
