/- The pure statement of FnExactStateFrom is proved in YtckgeanmljmhfaaFromAll; no condition of its own. -/
import Derived.Test.YtckgeanmljmhfaaFromAll
