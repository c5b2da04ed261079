/-
  The types that walks meet: how many cells, which zero. No conditions.
-/
import Derived.Test.YthmdcnoockoggaaProg
import Derived.Test.YthmdcnoockoggaaOps
import Derived.Test.YthmdcnoockoggaaSl
namespace Go.Proofs.Ythmdcnoockoggaa
open Go.RowKit
set_option linter.unusedVariables false
--# row impl.Field
theorem row_impl_Field : RowT Try.prog 44 202 := ⟨_, Try.underlying44, rfl, by kernel_rfl⟩
--# row laws.Field
theorem row_laws_Field : RowT Try.prog 72 202 := ⟨_, Try.underlying72, rfl, by kernel_rfl⟩
--# row impl.Cells
theorem row_impl_Cells : RowT Try.prog 33 2 := ⟨_, Try.underlying33, rfl, by kernel_rfl⟩
--# row [2]uint64
theorem row__2_uint64 : RowT Try.prog 31 2 := ⟨_, Try.underlying31, rfl, by kernel_rfl⟩
--# row [100]uint8
theorem row__100_uint8 : RowT Try.prog 42 100 := ⟨_, Try.underlying42, rfl, by kernel_rfl⟩
--# row [100]int16
theorem row__100_int16 : RowT Try.prog 24 100 := ⟨_, Try.underlying24, rfl, by kernel_rfl⟩
--# row impl.Fears
theorem row_impl_Fears : RowT Try.prog 25 100 := ⟨_, Try.underlying25, rfl, by kernel_rfl⟩
--# row impl.Net
theorem row_impl_Net : RowT Try.prog 142 4 := ⟨_, Try.underlying142, rfl, by kernel_rfl⟩
--# row impl.Prices
theorem row_impl_Prices : RowT Try.prog 69 3 := ⟨_, Try.underlying69, rfl, by kernel_rfl⟩
--# row laws.Prices
theorem row_laws_Prices : RowT Try.prog 67 3 := ⟨_, Try.underlying67, rfl, by kernel_rfl⟩
--# row [4]int64
theorem row__4_int64 : RowT Try.prog 120 4 := ⟨_, Try.underlying120, rfl, by kernel_rfl⟩
--# arr impl.Cells
theorem arrt_impl_Cells : ArrT Try.prog 33 2 := ⟨_, Try.underlying33, by kernel_rfl⟩
--# arr [2]uint64
theorem arrt__2_uint64 : ArrT Try.prog 31 2 := ⟨_, Try.underlying31, by kernel_rfl⟩
--# arr [100]uint8
theorem arrt__100_uint8 : ArrT Try.prog 42 100 := ⟨_, Try.underlying42, by kernel_rfl⟩
--# arr [100]int16
theorem arrt__100_int16 : ArrT Try.prog 24 100 := ⟨_, Try.underlying24, by kernel_rfl⟩
--# arr impl.Fears
theorem arrt_impl_Fears : ArrT Try.prog 25 100 := ⟨_, Try.underlying25, by kernel_rfl⟩
--# arr [4]int64
theorem arrt__4_int64 : ArrT Try.prog 120 4 := ⟨_, Try.underlying120, by kernel_rfl⟩
--# arre impl.Cells
theorem arre_impl_Cells : ArrE Try.prog 33 2 := ⟨_, Try.underlying33, by kernel_rfl, fun _ => by kernel_rfl⟩
--# arre [2]uint64
theorem arre__2_uint64 : ArrE Try.prog 31 2 := ⟨_, Try.underlying31, by kernel_rfl, fun _ => by kernel_rfl⟩
--# arre [100]uint8
theorem arre__100_uint8 : ArrE Try.prog 42 100 := ⟨_, Try.underlying42, by kernel_rfl, fun _ => by kernel_rfl⟩
--# arre [100]int16
theorem arre__100_int16 : ArrE Try.prog 24 100 := ⟨_, Try.underlying24, by kernel_rfl, fun _ => by kernel_rfl⟩
--# arre impl.Fears
theorem arre_impl_Fears : ArrE Try.prog 25 100 := ⟨_, Try.underlying25, by kernel_rfl, fun _ => by kernel_rfl⟩
--# arre [4]int64
theorem arre__4_int64 : ArrE Try.prog 120 4 := ⟨_, Try.underlying120, by kernel_rfl, fun _ => by kernel_rfl⟩
--# scal int64
theorem scal_int64 : ScalT Try.prog 2 := ⟨_, Try.underlying2, rfl, by kernel_rfl⟩
--# scal int
theorem scal_int : ScalT Try.prog 3 := ⟨_, Try.underlying3, rfl, by kernel_rfl⟩
--# scal int8
theorem scal_int8 : ScalT Try.prog 41 := ⟨_, Try.underlying41, rfl, by kernel_rfl⟩
--# scal int16
theorem scal_int16 : ScalT Try.prog 23 := ⟨_, Try.underlying23, rfl, by kernel_rfl⟩
--# scal uint8
theorem scal_uint8 : ScalT Try.prog 5 := ⟨_, Try.underlying5, rfl, by kernel_rfl⟩
--# scal uint32
theorem scal_uint32 : ScalT Try.prog 128 := ⟨_, Try.underlying128, rfl, by kernel_rfl⟩
--# scal uint64
theorem scal_uint64 : ScalT Try.prog 30 := ⟨_, Try.underlying30, rfl, by kernel_rfl⟩
--# scal uint
theorem scal_uint : ScalT Try.prog 114 := ⟨_, Try.underlying114, rfl, by kernel_rfl⟩
--# scal bool
theorem scal_bool : ScalT Try.prog 4 := ⟨_, Try.underlying4, rfl, by kernel_rfl⟩
--# scal string
theorem scal_string : ScalT Try.prog 9 := ⟨_, Try.underlying9, rfl, by kernel_rfl⟩
--# scal []int64
theorem scal__int64 : ScalT Try.prog 48 := ⟨_, Try.underlying48, rfl, by kernel_rfl⟩
--# scal []string
theorem scal__string : ScalT Try.prog 84 := ⟨_, Try.underlying84, rfl, by kernel_rfl⟩
--# scal impl.Beat
theorem scal_impl_Beat : ScalT Try.prog 78 := ⟨_, Try.underlying78, rfl, by kernel_rfl⟩
--# scal []int16
theorem scal__int16 : ScalT Try.prog 76 := ⟨_, Try.underlying76, rfl, by kernel_rfl⟩
--# scal int32
theorem scal_int32 : ScalT Try.prog 21 := ⟨_, Try.underlying21, rfl, by kernel_rfl⟩
--# scal []uint8
theorem scal__uint8 : ScalT Try.prog 39 := ⟨_, Try.underlying39, rfl, by kernel_rfl⟩
--# scal *impl.Field
theorem scal__impl_Field : ScalT Try.prog 98 := ⟨_, Try.underlying98, rfl, by kernel_rfl⟩
--# sli []int64
theorem slit__int64 : SliT Try.prog 48 1 := ⟨_, Try.underlying48, by kernel_rfl⟩
--# sli []string
theorem slit__string : SliT Try.prog 84 1 := ⟨_, Try.underlying84, by kernel_rfl⟩
--# sli impl.Beat
theorem slit_impl_Beat : SliT Try.prog 78 1 := ⟨_, Try.underlying78, by kernel_rfl⟩
--# sli []int16
theorem slit__int16 : SliT Try.prog 76 1 := ⟨_, Try.underlying76, by kernel_rfl⟩
--# sli []impl.Net
theorem slit__impl_Net : SliT Try.prog 140 4 := ⟨_, Try.underlying140, by kernel_rfl⟩
--# sli []uint8
theorem slit__uint8 : SliT Try.prog 39 1 := ⟨_, Try.underlying39, by kernel_rfl⟩
--# slt []int64
theorem slt__int64 : SlT Try.prog 48 2 1 8 (.int .i64 0) := ⟨Try.underlying48, by kernel_rfl, by kernel_rfl, by kernel_rfl, by decide⟩
--# slt impl.Beat
theorem slt_impl_Beat : SlT Try.prog 78 23 1 2 (.int .i16 0) := ⟨Try.underlying78, by kernel_rfl, by kernel_rfl, by kernel_rfl, by decide⟩
--# slt []int16
theorem slt__int16 : SlT Try.prog 76 23 1 2 (.int .i16 0) := ⟨Try.underlying76, by kernel_rfl, by kernel_rfl, by kernel_rfl, by decide⟩
--# slt []string
theorem slt__string : SlT Try.prog 84 9 1 16 (.string ⟨#[]⟩) := ⟨Try.underlying84, by kernel_rfl, by kernel_rfl, by kernel_rfl, by decide⟩
--# zero impl.Field
theorem zero_impl_Field : (Value.agg Try.zeroCells44).cells = Fld.zero.cells := by kernel_rfl
--# build impl.Field
theorem build_wh (a b : Int) : Value.agg ((Try.zeroCells44.setIfInBounds 0 (.int .i8 a)).setIfInBounds 1 (.int .i8 b)) = .agg (fldWH a b).cells := by
  rw [show Try.zeroCells44 = Fld.zero.cells from zero_impl_Field, Fld.setw, Fld.seth]; rfl
theorem build_w (a : Int) : Value.agg (Try.zeroCells44.setIfInBounds 0 (.int .i8 a)) = .agg (fldWH a 0).cells := by
  rw [show Try.zeroCells44 = Fld.zero.cells from zero_impl_Field, Fld.setw]; rfl
theorem build_h (b : Int) : Value.agg (Try.zeroCells44.setIfInBounds 1 (.int .i8 b)) = .agg (fldWH 0 b).cells := by
  rw [show Try.zeroCells44 = Fld.zero.cells from zero_impl_Field, Fld.seth]; rfl
--# zero [100]uint8
theorem zero__100_uint8 : (Value.agg Try.zeroCells42).cells = arr 100 .u8 (fun _ => 0) := by kernel_rfl
--# zero [100]int16
theorem zero__100_int16 : (Value.agg Try.zeroCells24).cells = arr 100 .i16 (fun _ => 0) := by kernel_rfl
--# zero impl.Fears
theorem zero_impl_Fears : (Value.agg Try.zeroCells25).cells = arr 100 .i16 (fun _ => 0) := by kernel_rfl
end Go.Proofs.Ythmdcnoockoggaa
