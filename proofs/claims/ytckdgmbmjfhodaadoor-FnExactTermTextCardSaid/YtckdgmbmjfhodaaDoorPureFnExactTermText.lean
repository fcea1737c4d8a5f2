/- The pure statement of FnExactTermText is proved in YtckdgmbmjfhodaaDoorTextAll; no condition of its own. -/
import Derived.Test.YtckdgmbmjfhodaaDoorTextAll
