/-
  The types that walks meet: how many cells, which zero. No conditions.
-/
import Derived.Test.YtdhidmigngmgjaaProg
import Derived.Test.YtdhidmigngmgjaaOps
import Derived.Test.YtdhidmigngmgjaaSl
namespace Go.Proofs.Ytdhidmigngmgjaa
open Go.RowKit
set_option linter.unusedVariables false
--# row impl.Field
theorem row_impl_Field : RowT Try.prog 29 202 := ⟨_, Try.underlying29, rfl, by kernel_rfl⟩
--# row impl.Cells
theorem row_impl_Cells : RowT Try.prog 33 2 := ⟨_, Try.underlying33, rfl, by kernel_rfl⟩
--# row [2]uint64
theorem row__2_uint64 : RowT Try.prog 32 2 := ⟨_, Try.underlying32, rfl, by kernel_rfl⟩
--# row [100]uint8
theorem row__100_uint8 : RowT Try.prog 25 100 := ⟨_, Try.underlying25, rfl, by kernel_rfl⟩
--# row [100]int16
theorem row__100_int16 : RowT Try.prog 27 100 := ⟨_, Try.underlying27, rfl, by kernel_rfl⟩
--# row [4]int64
theorem row__4_int64 : RowT Try.prog 91 4 := ⟨_, Try.underlying91, rfl, by kernel_rfl⟩
--# arr impl.Cells
theorem arrt_impl_Cells : ArrT Try.prog 33 2 := ⟨_, Try.underlying33, by kernel_rfl⟩
--# arr [2]uint64
theorem arrt__2_uint64 : ArrT Try.prog 32 2 := ⟨_, Try.underlying32, by kernel_rfl⟩
--# arr [100]uint8
theorem arrt__100_uint8 : ArrT Try.prog 25 100 := ⟨_, Try.underlying25, by kernel_rfl⟩
--# arr [100]int16
theorem arrt__100_int16 : ArrT Try.prog 27 100 := ⟨_, Try.underlying27, by kernel_rfl⟩
--# arr [4]int64
theorem arrt__4_int64 : ArrT Try.prog 91 4 := ⟨_, Try.underlying91, by kernel_rfl⟩
--# arre impl.Cells
theorem arre_impl_Cells : ArrE Try.prog 33 2 := ⟨_, Try.underlying33, by kernel_rfl, fun _ => by kernel_rfl⟩
--# arre [2]uint64
theorem arre__2_uint64 : ArrE Try.prog 32 2 := ⟨_, Try.underlying32, by kernel_rfl, fun _ => by kernel_rfl⟩
--# arre [100]uint8
theorem arre__100_uint8 : ArrE Try.prog 25 100 := ⟨_, Try.underlying25, by kernel_rfl, fun _ => by kernel_rfl⟩
--# arre [100]int16
theorem arre__100_int16 : ArrE Try.prog 27 100 := ⟨_, Try.underlying27, by kernel_rfl, fun _ => by kernel_rfl⟩
--# arre [4]int64
theorem arre__4_int64 : ArrE Try.prog 91 4 := ⟨_, Try.underlying91, by kernel_rfl, fun _ => by kernel_rfl⟩
--# scal int64
theorem scal_int64 : ScalT Try.prog 2 := ⟨_, Try.underlying2, rfl, by kernel_rfl⟩
--# scal int
theorem scal_int : ScalT Try.prog 3 := ⟨_, Try.underlying3, rfl, by kernel_rfl⟩
--# scal int8
theorem scal_int8 : ScalT Try.prog 24 := ⟨_, Try.underlying24, rfl, by kernel_rfl⟩
--# scal int16
theorem scal_int16 : ScalT Try.prog 26 := ⟨_, Try.underlying26, rfl, by kernel_rfl⟩
--# scal uint8
theorem scal_uint8 : ScalT Try.prog 5 := ⟨_, Try.underlying5, rfl, by kernel_rfl⟩
--# scal uint32
theorem scal_uint32 : ScalT Try.prog 99 := ⟨_, Try.underlying99, rfl, by kernel_rfl⟩
--# scal uint64
theorem scal_uint64 : ScalT Try.prog 31 := ⟨_, Try.underlying31, rfl, by kernel_rfl⟩
--# scal uint
theorem scal_uint : ScalT Try.prog 88 := ⟨_, Try.underlying88, rfl, by kernel_rfl⟩
--# scal bool
theorem scal_bool : ScalT Try.prog 4 := ⟨_, Try.underlying4, rfl, by kernel_rfl⟩
--# scal string
theorem scal_string : ScalT Try.prog 9 := ⟨_, Try.underlying9, rfl, by kernel_rfl⟩
--# scal []int64
theorem scal__int64 : ScalT Try.prog 37 := ⟨_, Try.underlying37, rfl, by kernel_rfl⟩
--# scal int32
theorem scal_int32 : ScalT Try.prog 21 := ⟨_, Try.underlying21, rfl, by kernel_rfl⟩
--# scal []uint8
theorem scal__uint8 : ScalT Try.prog 22 := ⟨_, Try.underlying22, rfl, by kernel_rfl⟩
--# scal *impl.Field
theorem scal__impl_Field : ScalT Try.prog 68 := ⟨_, Try.underlying68, rfl, by kernel_rfl⟩
--# sli []int64
theorem slit__int64 : SliT Try.prog 37 1 := ⟨_, Try.underlying37, by kernel_rfl⟩
--# sli []uint8
theorem slit__uint8 : SliT Try.prog 22 1 := ⟨_, Try.underlying22, by kernel_rfl⟩
--# slt []int64
theorem slt__int64 : SlT Try.prog 37 2 1 8 (.int .i64 0) := ⟨Try.underlying37, by kernel_rfl, by kernel_rfl, by kernel_rfl, by decide⟩
--# zero impl.Field
theorem zero_impl_Field : (Value.agg Try.zeroCells29).cells = Fld.zero.cells := by kernel_rfl
--# build impl.Field
theorem build_wh (a b : Int) : Value.agg ((Try.zeroCells29.setIfInBounds 0 (.int .i8 a)).setIfInBounds 1 (.int .i8 b)) = .agg (fldWH a b).cells := by
  rw [show Try.zeroCells29 = Fld.zero.cells from zero_impl_Field, Fld.setw, Fld.seth]; rfl
theorem build_w (a : Int) : Value.agg (Try.zeroCells29.setIfInBounds 0 (.int .i8 a)) = .agg (fldWH a 0).cells := by
  rw [show Try.zeroCells29 = Fld.zero.cells from zero_impl_Field, Fld.setw]; rfl
theorem build_h (b : Int) : Value.agg (Try.zeroCells29.setIfInBounds 1 (.int .i8 b)) = .agg (fldWH 0 b).cells := by
  rw [show Try.zeroCells29 = Fld.zero.cells from zero_impl_Field, Fld.seth]; rfl
--# zero [100]uint8
theorem zero__100_uint8 : (Value.agg Try.zeroCells25).cells = arr 100 .u8 (fun _ => 0) := by kernel_rfl
--# zero [100]int16
theorem zero__100_int16 : (Value.agg Try.zeroCells27).cells = arr 100 .i16 (fun _ => 0) := by kernel_rfl
