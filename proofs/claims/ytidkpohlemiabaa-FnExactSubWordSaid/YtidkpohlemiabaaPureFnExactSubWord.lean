/- The pure statement of FnExactSubWord is proved in YtidkpohlemiabaaLawsA; no condition of its own. -/
import Derived.Test.YtidkpohlemiabaaLawsA
