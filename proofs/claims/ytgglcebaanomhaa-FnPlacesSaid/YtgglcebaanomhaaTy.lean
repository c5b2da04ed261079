/-
 The types that walks meet: how many cells, which zero. No conditions.
-/
import Derived.Test.YtgglcebaanomhaaProg
import Derived.Test.YtgglcebaanomhaaOps
import Derived.Test.YtgglcebaanomhaaSl
namespace Go.Proofs.Ytgglcebaanomhaa
open Go.RowKit
set_option linter.unusedVariables false
theorem row_impl_Field : RowT Try.prog 29 202 := ⟨_, Try.underlying29, rfl, by kernel_rfl⟩
theorem row_impl_Cells : RowT Try.prog 33 2 := ⟨_, Try.underlying33, rfl, by kernel_rfl⟩
theorem row_impl_Scarecrow : RowT Try.prog 101 3 := ⟨_, Try.underlying101, rfl, by kernel_rfl⟩
theorem arrt_impl_Cells : ArrT Try.prog 33 2 := ⟨_, Try.underlying33, by kernel_rfl⟩
theorem arrt__100_uint8 : ArrT Try.prog 25 100 := ⟨_, Try.underlying25, by kernel_rfl⟩
theorem arrt__100_int16 : ArrT Try.prog 27 100 := ⟨_, Try.underlying27, by kernel_rfl⟩
theorem scal_int64 : ScalT Try.prog 2 := ⟨_, Try.underlying2, rfl, by kernel_rfl⟩
theorem scal_int : ScalT Try.prog 3 := ⟨_, Try.underlying3, rfl, by kernel_rfl⟩
theorem scal_int8 : ScalT Try.prog 24 := ⟨_, Try.underlying24, rfl, by kernel_rfl⟩
theorem scal_int16 : ScalT Try.prog 26 := ⟨_, Try.underlying26, rfl, by kernel_rfl⟩
theorem scal_uint8 : ScalT Try.prog 5 := ⟨_, Try.underlying5, rfl, by kernel_rfl⟩
theorem scal_uint64 : ScalT Try.prog 31 := ⟨_, Try.underlying31, rfl, by kernel_rfl⟩
theorem scal_bool : ScalT Try.prog 4 := ⟨_, Try.underlying4, rfl, by kernel_rfl⟩
theorem scal__uint8 : ScalT Try.prog 22 := ⟨_, Try.underlying22, rfl, by kernel_rfl⟩
theorem scal__impl_Field : ScalT Try.prog 58 := ⟨_, Try.underlying58, rfl, by kernel_rfl⟩
theorem slit__int64 : SliT Try.prog 36 1 := ⟨_, Try.underlying36, by kernel_rfl⟩
theorem slit__impl_Scarecrow : SliT Try.prog 103 3 := ⟨_, Try.underlying103, by kernel_rfl⟩
theorem slit__uint8 : SliT Try.prog 22 1 := ⟨_, Try.underlying22, by kernel_rfl⟩
theorem slt__int64 : SlT Try.prog 36 2 1 8 (.int .i64 0) := ⟨Try.underlying36, by kernel_rfl, by kernel_rfl, by kernel_rfl, by decide⟩
theorem zero_impl_Field : (Value.agg Try.zeroCells29).cells = Fld.zero.cells := by kernel_rfl
theorem build_w (a : Int) : Value.agg (Try.zeroCells29.setIfInBounds 0 (.int .i8 a)) = .agg (fldWH a 0).cells := by
 rw [show Try.zeroCells29 = Fld.zero.cells from zero_impl_Field, Fld.setw]; rfl
--# zero [100]int16
