/- The pure statement of FnExactConeOf is proved in YtimkjhdopncimaaConeAll; no condition of its own. -/
import Derived.Test.YtimkjhdopncimaaConeAll
