/- The pure statement of FnExactSolve is proved in YtdmngodinbelfaaSolveAll; no condition of its own. -/
import Derived.Test.YtdmngodinbelfaaSolveAll
