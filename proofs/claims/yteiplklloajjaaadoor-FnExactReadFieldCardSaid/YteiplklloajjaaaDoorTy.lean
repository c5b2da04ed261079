/-
  The types that walks meet: how many cells, which zero. No conditions.
-/
import Derived.Test.YteiplklloajjaaaDoorProg
import Derived.Test.YteiplklloajjaaaDoorOps
import Derived.Test.YteiplklloajjaaaDoorSl
namespace Go.Proofs.YteiplklloajjaaaDoor
open Go.RowKit
set_option linter.unusedVariables false
--# row impl.Field
theorem row_impl_Field : RowT Tryd.prog 29 202 := ⟨_, Tryd.underlying29, rfl, by kernel_rfl⟩
--# row laws.Field
theorem row_laws_Field : RowT Tryd.prog 27 202 := ⟨_, Tryd.underlying27, rfl, by kernel_rfl⟩
--# row [100]uint8
theorem row__100_uint8 : RowT Tryd.prog 23 100 := ⟨_, Tryd.underlying23, rfl, by kernel_rfl⟩
--# row [100]int16
theorem row__100_int16 : RowT Tryd.prog 25 100 := ⟨_, Tryd.underlying25, rfl, by kernel_rfl⟩
--# row impl.Flock
theorem row_impl_Flock : RowT Tryd.prog 77 6 := ⟨_, Tryd.underlying77, rfl, by kernel_rfl⟩
--# row impl.Scarecrow
theorem row_impl_Scarecrow : RowT Tryd.prog 63 3 := ⟨_, Tryd.underlying63, rfl, by kernel_rfl⟩
--# row impl.Net
theorem row_impl_Net : RowT Tryd.prog 72 4 := ⟨_, Tryd.underlying72, rfl, by kernel_rfl⟩
--# row [6]int64
theorem row__6_int64 : RowT Tryd.prog 79 6 := ⟨_, Tryd.underlying79, rfl, by kernel_rfl⟩
--# arr [100]uint8
theorem arrt__100_uint8 : ArrT Tryd.prog 23 100 := ⟨_, Tryd.underlying23, by kernel_rfl⟩
--# arr [100]int16
theorem arrt__100_int16 : ArrT Tryd.prog 25 100 := ⟨_, Tryd.underlying25, by kernel_rfl⟩
--# arr [6]int64
theorem arrt__6_int64 : ArrT Tryd.prog 79 6 := ⟨_, Tryd.underlying79, by kernel_rfl⟩
--# arre [100]uint8
theorem arre__100_uint8 : ArrE Tryd.prog 23 100 := ⟨_, Tryd.underlying23, by kernel_rfl, fun _ => by kernel_rfl⟩
--# arre [100]int16
theorem arre__100_int16 : ArrE Tryd.prog 25 100 := ⟨_, Tryd.underlying25, by kernel_rfl, fun _ => by kernel_rfl⟩
--# arre [6]int64
theorem arre__6_int64 : ArrE Tryd.prog 79 6 := ⟨_, Tryd.underlying79, by kernel_rfl, fun _ => by kernel_rfl⟩
--# scal int64
theorem scal_int64 : ScalT Tryd.prog 2 := ⟨_, Tryd.underlying2, rfl, by kernel_rfl⟩
--# scal int
theorem scal_int : ScalT Tryd.prog 3 := ⟨_, Tryd.underlying3, rfl, by kernel_rfl⟩
--# scal int8
theorem scal_int8 : ScalT Tryd.prog 22 := ⟨_, Tryd.underlying22, rfl, by kernel_rfl⟩
--# scal int16
theorem scal_int16 : ScalT Tryd.prog 24 := ⟨_, Tryd.underlying24, rfl, by kernel_rfl⟩
--# scal uint8
theorem scal_uint8 : ScalT Tryd.prog 5 := ⟨_, Tryd.underlying5, rfl, by kernel_rfl⟩
--# scal uint32
theorem scal_uint32 : ScalT Tryd.prog 132 := ⟨_, Tryd.underlying132, rfl, by kernel_rfl⟩
--# scal uint64
theorem scal_uint64 : ScalT Tryd.prog 119 := ⟨_, Tryd.underlying119, rfl, by kernel_rfl⟩
--# scal uint
theorem scal_uint : ScalT Tryd.prog 117 := ⟨_, Tryd.underlying117, rfl, by kernel_rfl⟩
--# scal bool
theorem scal_bool : ScalT Tryd.prog 4 := ⟨_, Tryd.underlying4, rfl, by kernel_rfl⟩
--# scal string
theorem scal_string : ScalT Tryd.prog 9 := ⟨_, Tryd.underlying9, rfl, by kernel_rfl⟩
--# scal []string
theorem scal__string : ScalT Tryd.prog 57 := ⟨_, Tryd.underlying57, rfl, by kernel_rfl⟩
--# scal []impl.Flock
theorem scal__impl_Flock : ScalT Tryd.prog 43 := ⟨_, Tryd.underlying43, rfl, by kernel_rfl⟩
--# scal int32
theorem scal_int32 : ScalT Tryd.prog 21 := ⟨_, Tryd.underlying21, rfl, by kernel_rfl⟩
--# scal []uint8
theorem scal__uint8 : ScalT Tryd.prog 90 := ⟨_, Tryd.underlying90, rfl, by kernel_rfl⟩
--# scal *impl.Field
theorem scal__impl_Field : ScalT Tryd.prog 52 := ⟨_, Tryd.underlying52, rfl, by kernel_rfl⟩
--# sli []string
theorem slit__string : SliT Tryd.prog 57 1 := ⟨_, Tryd.underlying57, by kernel_rfl⟩
--# sli []impl.Flock
theorem slit__impl_Flock : SliT Tryd.prog 43 6 := ⟨_, Tryd.underlying43, by kernel_rfl⟩
--# sli []impl.Scarecrow
theorem slit__impl_Scarecrow : SliT Tryd.prog 32 3 := ⟨_, Tryd.underlying32, by kernel_rfl⟩
--# sli []impl.Net
theorem slit__impl_Net : SliT Tryd.prog 38 4 := ⟨_, Tryd.underlying38, by kernel_rfl⟩
--# sli []uint8
theorem slit__uint8 : SliT Tryd.prog 90 1 := ⟨_, Tryd.underlying90, by kernel_rfl⟩
--# slt []string
theorem slt__string : SlT Tryd.prog 57 9 1 16 (.string ⟨#[]⟩) := ⟨Tryd.underlying57, by kernel_rfl, by kernel_rfl, by kernel_rfl, by decide⟩
--# zero impl.Field
theorem zero_impl_Field : (Value.agg Tryd.zeroCells29).cells = Fld.zero.cells := by kernel_rfl
--# build impl.Field
theorem build_wh (a b : Int) : Value.agg ((Tryd.zeroCells29.setIfInBounds 0 (.int .i8 a)).setIfInBounds 1 (.int .i8 b)) = .agg (fldWH a b).cells := by
  rw [show Tryd.zeroCells29 = Fld.zero.cells from zero_impl_Field, Fld.setw, Fld.seth]; rfl
theorem build_w (a : Int) : Value.agg (Tryd.zeroCells29.setIfInBounds 0 (.int .i8 a)) = .agg (fldWH a 0).cells := by
  rw [show Tryd.zeroCells29 = Fld.zero.cells from zero_impl_Field, Fld.setw]; rfl
theorem build_h (b : Int) : Value.agg (Tryd.zeroCells29.setIfInBounds 1 (.int .i8 b)) = .agg (fldWH 0 b).cells := by
  rw [show Tryd.zeroCells29 = Fld.zero.cells from zero_impl_Field, Fld.seth]; rfl
--# zero [100]uint8
theorem zero__100_uint8 : (Value.agg Tryd.zeroCells23).cells = arr 100 .u8 (fun _ => 0) := by kernel_rfl
--# zero [100]int16
theorem zero__100_int16 : (Value.agg Tryd.zeroCells25).cells = arr 100 .i16 (fun _ => 0) := by kernel_rfl
