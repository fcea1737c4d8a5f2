/- The pure statement of FnExactPruneCircuit is proved in YtimkjhdopncimaaPruneAll; no condition of its own. -/
import Derived.Test.YtimkjhdopncimaaPruneAll
