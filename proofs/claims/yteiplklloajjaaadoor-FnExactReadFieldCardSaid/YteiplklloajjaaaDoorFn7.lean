/-
  Contracts: more functions. No conditions.
-/
import Derived.Test.YteiplklloajjaaaDoorTy
import Derived.Test.YteiplklloajjaaaDoorSl
import Derived.Test.YteiplklloajjaaaDoorMth
import Derived.Test.YteiplklloajjaaaDoorFn5
import Derived.Test.YteiplklloajjaaaDoorMth2
namespace Go.Proofs.YteiplklloajjaaaDoor
open Go.RowKit
set_option linter.unusedSimpArgs false
set_option linter.unusedVariables false
set_option maxHeartbeats 4000000
set_option maxRecDepth 100000
attribute [local irreducible] wpList Code.wp
--# pin
theorem pin_1 {a b v : Int} (h : inB a 1 10 = false) : pin a b v = false := by unfold pin; rw [h]; rfl
theorem pin_2 {a b v : Int} (h : inB b 1 10 = false) : pin a b v = false := by unfold pin; rw [h, Bool.and_false]; rfl
theorem pin_3 {a b v : Int} (h : inB v 0 1000 = false) : pin a b v = false := by unfold pin; rw [h, Bool.and_false]
theorem pin_t {a b v : Int} (h : inB a 1 10 = true) (h2 : inB b 1 10 = true) (h3 : inB v 0 1000 = true) : pin a b v = true := by unfold pin; rw [h, h2, h3]; rfl


