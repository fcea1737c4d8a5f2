/- The pure statement of FnExactPutAll is proved in YtckdgmbmjfhodaaPutAll; no condition of its own. -/
import Derived.Test.YtckdgmbmjfhodaaPutAll
