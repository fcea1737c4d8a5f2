/- The pure statement of FnExactGateCount is proved in YtckgeanmljmhfaaGateNAll; no condition of its own. -/
import Derived.Test.YtckgeanmljmhfaaGateNAll
