/- The pure statement of FnExactLessGates is proved in YtimkjhdopncimaaLessAll; no condition of its own. -/
import Derived.Test.YtimkjhdopncimaaLessAll
