/-
  Contracts: cells for which something is so. No conditions.
-/
import Derived.Test.YteiplklloajjaaaDoorTy
import Derived.Test.YteiplklloajjaaaDoorSl
import Derived.Test.YteiplklloajjaaaDoorMth
import Derived.Test.YteiplklloajjaaaDoorFn4
namespace Go.Proofs.YteiplklloajjaaaDoor
open Go.RowKit
set_option linter.unusedSimpArgs false
set_option linter.unusedVariables false
set_option maxHeartbeats 4000000
set_option maxRecDepth 100000
attribute [local irreducible] wpList Code.wp
