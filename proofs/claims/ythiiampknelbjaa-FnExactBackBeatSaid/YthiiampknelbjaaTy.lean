/-
  The types that walks meet: how many cells, which zero. No conditions.
-/
import Derived.Test.YthiiampknelbjaaProg
import Derived.Test.YthiiampknelbjaaOps
import Derived.Test.YthiiampknelbjaaSl
namespace Go.Proofs.Ythiiampknelbjaa
open Go.RowKit
set_option linter.unusedVariables false
--# row impl.Field
theorem row_impl_Field : RowT Try.prog 28 202 := ⟨_, Try.underlying28, rfl, by kernel_rfl⟩
--# row laws.Field
theorem row_laws_Field : RowT Try.prog 27 202 := ⟨_, Try.underlying27, rfl, by kernel_rfl⟩
--# row impl.Cells
theorem row_impl_Cells : RowT Try.prog 39 2 := ⟨_, Try.underlying39, rfl, by kernel_rfl⟩
--# row [2]uint64
theorem row__2_uint64 : RowT Try.prog 38 2 := ⟨_, Try.underlying38, rfl, by kernel_rfl⟩
--# row [100]uint8
theorem row__100_uint8 : RowT Try.prog 23 100 := ⟨_, Try.underlying23, rfl, by kernel_rfl⟩
--# row [100]int16
theorem row__100_int16 : RowT Try.prog 25 100 := ⟨_, Try.underlying25, rfl, by kernel_rfl⟩
--# row impl.Fears
theorem row_impl_Fears : RowT Try.prog 54 100 := ⟨_, Try.underlying54, rfl, by kernel_rfl⟩
--# row impl.Flock
theorem row_impl_Flock : RowT Try.prog 117 6 := ⟨_, Try.underlying117, rfl, by kernel_rfl⟩
--# row laws.Flock
theorem row_laws_Flock : RowT Try.prog 119 6 := ⟨_, Try.underlying119, rfl, by kernel_rfl⟩
--# row impl.Scarecrow
theorem row_impl_Scarecrow : RowT Try.prog 112 3 := ⟨_, Try.underlying112, rfl, by kernel_rfl⟩
--# row laws.Scarecrow
theorem row_laws_Scarecrow : RowT Try.prog 114 3 := ⟨_, Try.underlying114, rfl, by kernel_rfl⟩
--# row [4]int64
theorem row__4_int64 : RowT Try.prog 123 4 := ⟨_, Try.underlying123, rfl, by kernel_rfl⟩
--# arr impl.Cells
theorem arrt_impl_Cells : ArrT Try.prog 39 2 := ⟨_, Try.underlying39, by kernel_rfl⟩
--# arr [2]uint64
theorem arrt__2_uint64 : ArrT Try.prog 38 2 := ⟨_, Try.underlying38, by kernel_rfl⟩
--# arr [100]uint8
theorem arrt__100_uint8 : ArrT Try.prog 23 100 := ⟨_, Try.underlying23, by kernel_rfl⟩
--# arr [100]int16
theorem arrt__100_int16 : ArrT Try.prog 25 100 := ⟨_, Try.underlying25, by kernel_rfl⟩
--# arr impl.Fears
theorem arrt_impl_Fears : ArrT Try.prog 54 100 := ⟨_, Try.underlying54, by kernel_rfl⟩
--# arr [4]int64
theorem arrt__4_int64 : ArrT Try.prog 123 4 := ⟨_, Try.underlying123, by kernel_rfl⟩
--# arre impl.Cells
theorem arre_impl_Cells : ArrE Try.prog 39 2 := ⟨_, Try.underlying39, by kernel_rfl, fun _ => by kernel_rfl⟩
--# arre [2]uint64
theorem arre__2_uint64 : ArrE Try.prog 38 2 := ⟨_, Try.underlying38, by kernel_rfl, fun _ => by kernel_rfl⟩
--# arre [100]uint8
theorem arre__100_uint8 : ArrE Try.prog 23 100 := ⟨_, Try.underlying23, by kernel_rfl, fun _ => by kernel_rfl⟩
--# arre [100]int16
theorem arre__100_int16 : ArrE Try.prog 25 100 := ⟨_, Try.underlying25, by kernel_rfl, fun _ => by kernel_rfl⟩
--# arre impl.Fears
theorem arre_impl_Fears : ArrE Try.prog 54 100 := ⟨_, Try.underlying54, by kernel_rfl, fun _ => by kernel_rfl⟩
--# arre [4]int64
theorem arre__4_int64 : ArrE Try.prog 123 4 := ⟨_, Try.underlying123, by kernel_rfl, fun _ => by kernel_rfl⟩
--# scal int64
theorem scal_int64 : ScalT Try.prog 2 := ⟨_, Try.underlying2, rfl, by kernel_rfl⟩
--# scal int
theorem scal_int : ScalT Try.prog 3 := ⟨_, Try.underlying3, rfl, by kernel_rfl⟩
--# scal int8
theorem scal_int8 : ScalT Try.prog 22 := ⟨_, Try.underlying22, rfl, by kernel_rfl⟩
--# scal int16
theorem scal_int16 : ScalT Try.prog 24 := ⟨_, Try.underlying24, rfl, by kernel_rfl⟩
--# scal uint8
theorem scal_uint8 : ScalT Try.prog 5 := ⟨_, Try.underlying5, rfl, by kernel_rfl⟩
--# scal uint32
theorem scal_uint32 : ScalT Try.prog 137 := ⟨_, Try.underlying137, rfl, by kernel_rfl⟩
--# scal uint64
theorem scal_uint64 : ScalT Try.prog 37 := ⟨_, Try.underlying37, rfl, by kernel_rfl⟩
--# scal uint
theorem scal_uint : ScalT Try.prog 127 := ⟨_, Try.underlying127, rfl, by kernel_rfl⟩
--# scal bool
theorem scal_bool : ScalT Try.prog 4 := ⟨_, Try.underlying4, rfl, by kernel_rfl⟩
--# scal string
theorem scal_string : ScalT Try.prog 9 := ⟨_, Try.underlying9, rfl, by kernel_rfl⟩
--# scal []int64
theorem scal__int64 : ScalT Try.prog 43 := ⟨_, Try.underlying43, rfl, by kernel_rfl⟩
--# scal []impl.Flock
theorem scal__impl_Flock : ScalT Try.prog 77 := ⟨_, Try.underlying77, rfl, by kernel_rfl⟩
--# scal []laws.Flock
theorem scal__laws_Flock : ScalT Try.prog 74 := ⟨_, Try.underlying74, rfl, by kernel_rfl⟩
--# scal impl.Beat
theorem scal_impl_Beat : ScalT Try.prog 59 := ⟨_, Try.underlying59, rfl, by kernel_rfl⟩
--# scal []int16
theorem scal__int16 : ScalT Try.prog 57 := ⟨_, Try.underlying57, rfl, by kernel_rfl⟩
--# scal int32
theorem scal_int32 : ScalT Try.prog 21 := ⟨_, Try.underlying21, rfl, by kernel_rfl⟩
--# scal *impl.Field
theorem scal__impl_Field : ScalT Try.prog 81 := ⟨_, Try.underlying81, rfl, by kernel_rfl⟩
--# sli []int64
theorem slit__int64 : SliT Try.prog 43 1 := ⟨_, Try.underlying43, by kernel_rfl⟩
--# sli impl.Beat
theorem slit_impl_Beat : SliT Try.prog 59 1 := ⟨_, Try.underlying59, by kernel_rfl⟩
--# sli []int16
theorem slit__int16 : SliT Try.prog 57 1 := ⟨_, Try.underlying57, by kernel_rfl⟩
--# sli []impl.Flock
theorem slit__impl_Flock : SliT Try.prog 77 6 := ⟨_, Try.underlying77, by kernel_rfl⟩
--# sli []laws.Flock
theorem slit__laws_Flock : SliT Try.prog 74 6 := ⟨_, Try.underlying74, by kernel_rfl⟩
--# sli []impl.Scarecrow
theorem slit__impl_Scarecrow : SliT Try.prog 71 3 := ⟨_, Try.underlying71, by kernel_rfl⟩
--# slt []int64
theorem slt__int64 : SlT Try.prog 43 2 1 8 (.int .i64 0) := ⟨Try.underlying43, by kernel_rfl, by kernel_rfl, by kernel_rfl, by decide⟩
--# slt impl.Beat
theorem slt_impl_Beat : SlT Try.prog 59 24 1 2 (.int .i16 0) := ⟨Try.underlying59, by kernel_rfl, by kernel_rfl, by kernel_rfl, by decide⟩
--# slt []int16
theorem slt__int16 : SlT Try.prog 57 24 1 2 (.int .i16 0) := ⟨Try.underlying57, by kernel_rfl, by kernel_rfl, by kernel_rfl, by decide⟩
--# zero impl.Field
theorem zero_impl_Field : (Value.agg Try.zeroCells28).cells = Fld.zero.cells := by kernel_rfl
--# build impl.Field
theorem build_wh (a b : Int) : Value.agg ((Try.zeroCells28.setIfInBounds 0 (.int .i8 a)).setIfInBounds 1 (.int .i8 b)) = .agg (fldWH a b).cells := by
  rw [show Try.zeroCells28 = Fld.zero.cells from zero_impl_Field, Fld.setw, Fld.seth]; rfl
theorem build_w (a : Int) : Value.agg (Try.zeroCells28.setIfInBounds 0 (.int .i8 a)) = .agg (fldWH a 0).cells := by
  rw [show Try.zeroCells28 = Fld.zero.cells from zero_impl_Field, Fld.setw]; rfl
theorem build_h (b : Int) : Value.agg (Try.zeroCells28.setIfInBounds 1 (.int .i8 b)) = .agg (fldWH 0 b).cells := by
  rw [show Try.zeroCells28 = Fld.zero.cells from zero_impl_Field, Fld.seth]; rfl
--# zero [100]uint8
theorem zero__100_uint8 : (Value.agg Try.zeroCells23).cells = arr 100 .u8 (fun _ => 0) := by kernel_rfl
--# zero [100]int16
theorem zero__100_int16 : (Value.agg Try.zeroCells25).cells = arr 100 .i16 (fun _ => 0) := by kernel_rfl
--# zero impl.Fears
theorem zero_impl_Fears : (Value.agg Try.zeroCells54).cells = arr 100 .i16 (fun _ => 0) := by kernel_rfl
end Go.Proofs.Ythiiampknelbjaa
