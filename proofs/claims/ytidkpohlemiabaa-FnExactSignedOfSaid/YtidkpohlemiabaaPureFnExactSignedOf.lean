/- The pure statement of FnExactSignedOf is proved in YtidkpohlemiabaaLawsA; no condition of its own. -/
import Derived.Test.YtidkpohlemiabaaLawsA
