/- The pure statement of FnExactFlipWord is proved in YtidkpohlemiabaaLawsA; no condition of its own. -/
import Derived.Test.YtidkpohlemiabaaLawsA
