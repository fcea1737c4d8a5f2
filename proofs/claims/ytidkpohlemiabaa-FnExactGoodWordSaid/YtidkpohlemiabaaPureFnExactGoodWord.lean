/- The pure statement of FnExactGoodWord is proved in YtidkpohlemiabaaLawsA; no condition of its own. -/
import Derived.Test.YtidkpohlemiabaaLawsA
