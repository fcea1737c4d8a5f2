/- The pure statement of FnExactShiftWord is proved in YtidkpohlemiabaaLawsA; no condition of its own. -/
import Derived.Test.YtidkpohlemiabaaLawsA
