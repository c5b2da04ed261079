/-
 The head of a slice. No conditions.
-/
import Derived.Test.YtgglcebaanomhaaSl
namespace Go.Proofs.Ytgglcebaanomhaa
open Go.RowKit
set_option linter.unusedSimpArgs false
set_option linter.unusedVariables false
section
variable {P : Program} {ρ : Operand → Value} {o : Oper} {w : World} {R : Value → World → Prop} {x y : Operand} {t e : TypeId} {g n m cap : Nat} {k : IntKind}
end
section
variable {P : Program} {ops : Array Oper} {Q : Exit → Act → World → Prop} {rest : List Oper} {o : Oper} {a : Act} {w : World} {x y : Operand} {t : TypeId}
end
theorem SlI.take {cs : Array Value} {n cap m : Nat} {k : IntKind} {xs : List Int} (h : SlI cs n cap k xs) (hm : m ≤ n) : SlI cs m cap k (xs.take m) := by
 have hl := h.len
 have e : iv k (xs.take m) = (iv k xs).take m := by simp [iv, List.map_take]
 refine ⟨?_, ?_, ?_, SlO.cm h, SlO.sz h⟩
 ·rw [e, List.length_take, iv_length, ← List.take_take, ← iv_length k xs, h.pre]
 ·rw [e, List.length_take, iv_length]; omega
 ·have := SlO.nc h; omega
end Go.Proofs.Ytgglcebaanomhaa
