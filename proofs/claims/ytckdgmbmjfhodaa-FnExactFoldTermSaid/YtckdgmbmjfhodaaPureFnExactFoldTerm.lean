/- The pure statement of FnExactFoldTerm is proved in YtckdgmbmjfhodaaFoldAll; no condition of its own. -/
import Derived.Test.YtckdgmbmjfhodaaFoldAll
