/- The pure statement of FnExactBitsOf is proved in YtifapbeoaakaaaaBitsOf; no condition of its own. -/
import Derived.Test.YtifapbeoaakaaaaBitsOf
