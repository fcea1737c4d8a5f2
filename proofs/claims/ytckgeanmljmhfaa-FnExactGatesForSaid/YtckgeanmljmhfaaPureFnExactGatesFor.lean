/- The pure statement of FnExactGatesFor is proved in YtckgeanmljmhfaaGatesAll; no condition of its own. -/
import Derived.Test.YtckgeanmljmhfaaGatesAll
