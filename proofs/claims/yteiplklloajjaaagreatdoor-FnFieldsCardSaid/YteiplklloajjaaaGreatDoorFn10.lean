/-
  Contracts: equality of structs. No conditions.
-/
import Derived.Test.YteiplklloajjaaaGreatDoorTy
import Derived.Test.YteiplklloajjaaaGreatDoorSl
import Derived.Test.YteiplklloajjaaaGreatDoorMth
import Derived.Test.YteiplklloajjaaaGreatDoorFn7
import Derived.Test.YteiplklloajjaaaGreatDoorEq
namespace Go.Proofs.YteiplklloajjaaaGreatDoor
open Go.RowKit
set_option linter.unusedSimpArgs false
set_option linter.unusedVariables false
set_option maxHeartbeats 4000000
set_option maxRecDepth 100000
attribute [local irreducible] wpList Code.wp
--# fldt
-- 12
theorem fldt_impl_Field : FldT Tryz.prog 29 24 25 27 5 26 := ⟨by kernel_rfl, by kernel_rfl, by kernel_rfl, by kernel_rfl, by kernel_rfl, by kernel_rfl, by kernel_rfl, by kernel_rfl, ⟨by kernel_rfl, by kernel_rfl⟩, ⟨by kernel_rfl, by kernel_rfl⟩, by kernel_rfl, by kernel_rfl, by kernel_rfl⟩

--# iSameField_any
theorem iSameField_any (F G : Fld) (w : World) :
 Calls Tryz.prog 12 #[.agg F.cells, .agg G.cells] w fun e w' => e = .returned (.bool (eqFld F G)) ∧ Ext w w' := by
 refine calls_of_wp Tryz.func12 rfl ?_
 refine wp_frame (a' := ⟨#[.agg F.cells, .agg G.cells, undef, undef, undef, undef, undef, undef], []⟩) (by kernel_rfl) ?_
 refine wsr ?_
 refine wbox F.cells ?_
 intro g1 w1 B1 E1 _
 refine wbox G.cells ?_
 intro g2 w2 B2 E2 _
 refine wv (.bool false) ?_
 refine wpList_nil (then_normal ?_)
 refine wsr ?_
 replace B1 := B1.ext E2
 refine wrow row_impl_Field B1 (by exact Fld.size_cells _) ?_
 refine wrow row_impl_Field B2 (by exact Fld.size_cells _) ?_
 refine weqA fldt_impl_Field.eg (equalIn_fld fldt_impl_Field 9997 F G) ?_
 refine wv (.bool (eqFld F G)) ?_
 refine wpList_nil (then_normal ?_)
 refine wp_ret ?_
 have H1 := ((Ext.refl w).trans E1).trans E2
 refine ret1 (.bool (eqFld F G)) rfl ?_ rfl ?_
 · exact resT (by kernel_rfl)
 exact ⟨rfl, H1⟩


--# prB
def prB (x y z : Int) : Bool := inB x 0 100 && (inB y 0 100 && (inB z 0 100 && !(eq3 x y z 0 0 0)))
section
variable {x y z : Int}
theorem prB_1 (h : inB x 0 100 = false) : prB x y z = false := by unfold prB; rw [h]; rfl
theorem prB_2 (h : inB y 0 100 = false) : prB x y z = false := by unfold prB; rw [h, Bool.false_and, Bool.and_false]
theorem prB_3 (h : inB z 0 100 = false) : prB x y z = false := by unfold prB; rw [h, Bool.false_and, Bool.and_false, Bool.and_false]
theorem prB_t (h1 : inB x 0 100 = true) (h2 : inB y 0 100 = true) (h3 : inB z 0 100 = true) : prB x y z = !(eq3 x y z 0 0 0) := by unfold prB; rw [h1, h2, h3]; rfl
end
attribute [irreducible] prB


