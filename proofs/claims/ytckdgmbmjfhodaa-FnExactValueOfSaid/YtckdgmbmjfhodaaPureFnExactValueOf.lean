/- The pure statement of FnExactValueOf is proved in YtckdgmbmjfhodaaValAll; no condition of its own. -/
import Derived.Test.YtckdgmbmjfhodaaValAll
