/-
  Plain laws, more. No conditions.
-/
import Derived.Test.YtdhidmigngmgjaaMth
import Derived.Test.YtdhidmigngmgjaaCmp
import Derived.Laws.StructEq
namespace Go.Proofs.Ytdhidmigngmgjaa
set_option linter.unusedSimpArgs false
set_option linter.unusedVariables false

--# bytes
theorem beq_bytes (a : ByteArray) : Value.bool (a == a) = .bool true := by rw [Go.beq_toListBytes]; simp
theorem bne_bytes (a : ByteArray) : Value.bool (a != a) = .bool false := by unfold bne; rw [Go.beq_toListBytes]; simp

--# zero4
theorem zero4 : (Value.agg #[.int .i64 0, .int .i64 0, .int .i64 0, .int .i64 0]).cells = arr 4 .i64 (fun _ => 0) := (arr4 .i64 0 0 0 0).trans (arr_congr fun i hi => by rcases (by omega : i = 0 ∨ i = 1 ∨ i = 2 ∨ i = 3) with rfl | rfl | rfl | rfl <;> rfl)

--# nbP
section
variable {F : Fld} {c : Int} {i : Nat}
theorem nbP_a (h1 : (listF4 (-10) (-1) 1 10 i == -1) = true) (h2 : (c % 10 == 0) = true) : nbP F c i = false := by unfold nbP offI; rw [h1, h2]; rfl
theorem nbP_b (h1 : (listF4 (-10) (-1) 1 10 i == 1) = true) (h2 : (c % 10 == 9) = true) : nbP F c i = false := by unfold nbP offI; rw [h1, h2]; simp
theorem nbP_c (h : isB F (c + listF4 (-10) (-1) 1 10 i) = false) : nbP F c i = false := by unfold nbP offI; rw [h]; simp
theorem nbP_d (h1 : (listF4 (-10) (-1) 1 10 i == -1) = false ∨ (c % 10 == 0) = false) (h2 : (listF4 (-10) (-1) 1 10 i == 1) = false ∨ (c % 10 == 9) = false) (h3 : isB F (c + listF4 (-10) (-1) 1 10 i) = true) : nbP F c i = true := by
  unfold nbP offI
  rw [h3]
  rcases h1 with h1 | h1 <;> rcases h2 with h2 | h2 <;> rw [h1, h2] <;> simp
end

end Go.Proofs.Ytdhidmigngmgjaa
