/-
  The types that walks meet: how many cells, which zero. No conditions.
-/
import Derived.Test.YteiplklloajjaaaGreatDoorProg
import Derived.Test.YteiplklloajjaaaGreatDoorOps
import Derived.Test.YteiplklloajjaaaGreatDoorSl
namespace Go.Proofs.YteiplklloajjaaaGreatDoor
open Go.RowKit
set_option linter.unusedVariables false
--# row impl.Field
theorem row_impl_Field : RowT Tryz.prog 29 202 := ⟨_, Tryz.underlying29, rfl, by kernel_rfl⟩
--# row [100]uint8
theorem row__100_uint8 : RowT Tryz.prog 25 100 := ⟨_, Tryz.underlying25, rfl, by kernel_rfl⟩
--# row [100]int16
theorem row__100_int16 : RowT Tryz.prog 27 100 := ⟨_, Tryz.underlying27, rfl, by kernel_rfl⟩
--# arr [100]uint8
theorem arrt__100_uint8 : ArrT Tryz.prog 25 100 := ⟨_, Tryz.underlying25, by kernel_rfl⟩
--# arr [100]int16
theorem arrt__100_int16 : ArrT Tryz.prog 27 100 := ⟨_, Tryz.underlying27, by kernel_rfl⟩
--# arre [100]uint8
theorem arre__100_uint8 : ArrE Tryz.prog 25 100 := ⟨_, Tryz.underlying25, by kernel_rfl, fun _ => by kernel_rfl⟩
--# arre [100]int16
theorem arre__100_int16 : ArrE Tryz.prog 27 100 := ⟨_, Tryz.underlying27, by kernel_rfl, fun _ => by kernel_rfl⟩
--# scal int64
theorem scal_int64 : ScalT Tryz.prog 2 := ⟨_, Tryz.underlying2, rfl, by kernel_rfl⟩
--# scal int
theorem scal_int : ScalT Tryz.prog 3 := ⟨_, Tryz.underlying3, rfl, by kernel_rfl⟩
--# scal int8
theorem scal_int8 : ScalT Tryz.prog 24 := ⟨_, Tryz.underlying24, rfl, by kernel_rfl⟩
--# scal int16
theorem scal_int16 : ScalT Tryz.prog 26 := ⟨_, Tryz.underlying26, rfl, by kernel_rfl⟩
--# scal uint8
theorem scal_uint8 : ScalT Tryz.prog 5 := ⟨_, Tryz.underlying5, rfl, by kernel_rfl⟩
--# scal uint32
theorem scal_uint32 : ScalT Tryz.prog 121 := ⟨_, Tryz.underlying121, rfl, by kernel_rfl⟩
--# scal uint64
theorem scal_uint64 : ScalT Tryz.prog 71 := ⟨_, Tryz.underlying71, rfl, by kernel_rfl⟩
--# scal uint
theorem scal_uint : ScalT Tryz.prog 88 := ⟨_, Tryz.underlying88, rfl, by kernel_rfl⟩
--# scal bool
theorem scal_bool : ScalT Tryz.prog 4 := ⟨_, Tryz.underlying4, rfl, by kernel_rfl⟩
--# scal string
theorem scal_string : ScalT Tryz.prog 9 := ⟨_, Tryz.underlying9, rfl, by kernel_rfl⟩
--# scal []int64
theorem scal__int64 : ScalT Tryz.prog 69 := ⟨_, Tryz.underlying69, rfl, by kernel_rfl⟩
--# scal []string
theorem scal__string : ScalT Tryz.prog 52 := ⟨_, Tryz.underlying52, rfl, by kernel_rfl⟩
--# scal int32
theorem scal_int32 : ScalT Tryz.prog 21 := ⟨_, Tryz.underlying21, rfl, by kernel_rfl⟩
--# scal []uint8
theorem scal__uint8 : ScalT Tryz.prog 22 := ⟨_, Tryz.underlying22, rfl, by kernel_rfl⟩
--# scal *impl.Field
theorem scal__impl_Field : ScalT Tryz.prog 58 := ⟨_, Tryz.underlying58, rfl, by kernel_rfl⟩
--# sli []int64
theorem slit__int64 : SliT Tryz.prog 69 1 := ⟨_, Tryz.underlying69, by kernel_rfl⟩
--# sli []string
theorem slit__string : SliT Tryz.prog 52 1 := ⟨_, Tryz.underlying52, by kernel_rfl⟩
--# sli []uint8
theorem slit__uint8 : SliT Tryz.prog 22 1 := ⟨_, Tryz.underlying22, by kernel_rfl⟩
--# slt []int64
theorem slt__int64 : SlT Tryz.prog 69 2 1 8 (.int .i64 0) := ⟨Tryz.underlying69, by kernel_rfl, by kernel_rfl, by kernel_rfl, by decide⟩
--# slt []string
theorem slt__string : SlT Tryz.prog 52 9 1 16 (.string ⟨#[]⟩) := ⟨Tryz.underlying52, by kernel_rfl, by kernel_rfl, by kernel_rfl, by decide⟩
--# zero impl.Field
theorem zero_impl_Field : (Value.agg Tryz.zeroCells29).cells = Fld.zero.cells := by kernel_rfl
--# build impl.Field
theorem build_wh (a b : Int) : Value.agg ((Tryz.zeroCells29.setIfInBounds 0 (.int .i8 a)).setIfInBounds 1 (.int .i8 b)) = .agg (fldWH a b).cells := by
  rw [show Tryz.zeroCells29 = Fld.zero.cells from zero_impl_Field, Fld.setw, Fld.seth]; rfl
theorem build_w (a : Int) : Value.agg (Tryz.zeroCells29.setIfInBounds 0 (.int .i8 a)) = .agg (fldWH a 0).cells := by
  rw [show Tryz.zeroCells29 = Fld.zero.cells from zero_impl_Field, Fld.setw]; rfl
theorem build_h (b : Int) : Value.agg (Tryz.zeroCells29.setIfInBounds 1 (.int .i8 b)) = .agg (fldWH 0 b).cells := by
  rw [show Tryz.zeroCells29 = Fld.zero.cells from zero_impl_Field, Fld.seth]; rfl
--# zero [100]uint8
theorem zero__100_uint8 : (Value.agg Tryz.zeroCells25).cells = arr 100 .u8 (fun _ => 0) := by kernel_rfl
--# zero [100]int16
theorem zero__100_int16 : (Value.agg Tryz.zeroCells27).cells = arr 100 .i16 (fun _ => 0) := by kernel_rfl
