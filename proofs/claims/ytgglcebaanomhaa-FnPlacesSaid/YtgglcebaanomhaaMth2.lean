/-
 Plain laws, more. No conditions.
-/
import Derived.Test.YtgglcebaanomhaaMth
import Derived.Test.YtgglcebaanomhaaCmp
import Derived.Laws.StructEq
namespace Go.Proofs.Ytgglcebaanomhaa
set_option linter.unusedSimpArgs false
set_option linter.unusedVariables false
section
variable {F : Fld} {c : Int} {i : Nat}
end
end Go.Proofs.Ytgglcebaanomhaa
