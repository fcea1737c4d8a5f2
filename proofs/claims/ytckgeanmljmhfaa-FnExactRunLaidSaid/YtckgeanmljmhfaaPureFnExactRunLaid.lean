/- The pure statement of FnExactRunLaid is proved in YtckgeanmljmhfaaRunLAll; no condition of its own. -/
import Derived.Test.YtckgeanmljmhfaaRunLAll
