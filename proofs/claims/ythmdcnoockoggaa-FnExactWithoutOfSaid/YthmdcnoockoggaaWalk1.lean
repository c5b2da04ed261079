/-
  Contracts: small functions. No conditions.
-/
import Derived.Test.YthmdcnoockoggaaProg
import Derived.Test.YthmdcnoockoggaaBase
import Derived.Test.YthmdcnoockoggaaReg
import Derived.WalkKit
import Derived.WalkSpells
import Derived.WalkLawsBesides
import Derived.BigQuiet
import Derived.Lib.Hide
import Derived.Deep.QuietTactic
import Derived.Deep.RegionHeld3
import Derived.Deep.LoopGhost
import Derived.Handy
namespace Go.Proofs.Ythmdcnoockoggaa
open Go.RowKit

--# row types cells
theorem row__2_uint64 : RowT Try.prog 31 2 := ⟨_, Try.underlying31, rfl, by kernel_rfl⟩
theorem row_impl_Cells : RowT Try.prog 33 2 := ⟨_, Try.underlying33, rfl, by kernel_rfl⟩
--# within
theorem within_yes (n l h : Int) (w : World) (h1 : l ≤ n) (h2 : n ≤ h) :
    Calls Try.prog 64 #[.int .i64 n, .int .i64 l, .int .i64 h] w fun e w' => e = .returned (.bool true) ∧ w = w' := by
  go_enter Try.func64, Try.ntmps64
  go_wp2
  go_ret
  exact ⟨rfl, rfl⟩
theorem within_no (n l h : Int) (w : World) (h1 : n < l ∨ h < n) :
    Calls Try.prog 64 #[.int .i64 n, .int .i64 l, .int .i64 h] w fun e w' => e = .returned (.bool false) ∧ w = w' := by
  by_cases h2 : l ≤ n
  · have h3 : ¬ n ≤ h := by omega
    clear h1
    go_enter Try.func64, Try.ntmps64
    go_wp2
    go_ret
    exact ⟨rfl, rfl⟩
  · clear h1
    go_enter Try.func64, Try.ntmps64
    go_wp2
    go_ret
    exact ⟨rfl, rfl⟩

--# l00In
theorem l00In_yes (n l h : Int) (w : World) (h1 : l ≤ n) (h2 : n ≤ h) :
    Calls Try.prog 63 #[.int .i64 n, .int .i64 l, .int .i64 h] w fun e w' => e = .returned (.bool true) ∧ w = w' := by
  go_enter Try.func63, Try.ntmps63
  go_wp2
  go_ret
  exact ⟨rfl, rfl⟩
theorem l00In_no (n l h : Int) (w : World) (h1 : n < l ∨ h < n) :
    Calls Try.prog 63 #[.int .i64 n, .int .i64 l, .int .i64 h] w fun e w' => e = .returned (.bool false) ∧ w = w' := by
  by_cases h2 : l ≤ n
  · have h3 : ¬ n ≤ h := by omega
    clear h1
    go_enter Try.func63, Try.ntmps63
    go_wp2
    go_ret
    exact ⟨rfl, rfl⟩
  · clear h1
    go_enter Try.func63, Try.ntmps63
    go_wp2
    go_ret
    exact ⟨rfl, rfl⟩

--# toCells
theorem toCells_any (x y : Int) (w : World) :
    Calls Try.prog 21 #[.agg #[.int .u64 x, .int .u64 y]] w fun e w' => e = .returned (.agg #[.int .u64 x, .int .u64 y]) ∧ Ext w w' := by
  go_enter Try.func21, Try.ntmps21
  go_wp2
  go_rounds 3
  go_returns
  exact ⟨rfl, by (repeat' (first | (with_reducible exact Ext.refl _) | (with_reducible assumption) | (with_reducible refine Ext.alloc ?_ _) | (with_reducible refine Ext.drew ?_) | (with_reducible refine Ext.drewN ?_ _) | (with_reducible refine Ext.setCell ?_ (by go_size) _)))⟩

--# cut
theorem cut_any (x y : Int) (w : World) :
    Calls Try.prog 67 #[.agg #[.int .u64 x, .int .u64 y]] w fun e w' => e = .returned (.agg #[.int .u64 x, .int .u64 (bits BinOp.and IntKind.u64 y 68719476735)]) ∧ Ext w w' := by
  go_enter Try.func67, Try.ntmps67
  go_wp2
  go_returns
  exact ⟨rfl, by (repeat' (first | (with_reducible exact Ext.refl _) | (with_reducible assumption) | (with_reducible refine Ext.alloc ?_ _) | (with_reducible refine Ext.drew ?_) | (with_reducible refine Ext.drewN ?_ _) | (with_reducible refine Ext.setCell ?_ (by go_size) _)))⟩
--# l01Mask
theorem l01Mask_any (x y : Int) (w : World) :
    Calls Try.prog 66 #[.agg #[.int .u64 x, .int .u64 y]] w fun e w' => e = .returned (.agg #[.int .u64 x, .int .u64 (bits BinOp.and IntKind.u64 y 68719476735)]) ∧ Ext w w' := by
  go_enter Try.func66, Try.ntmps66
  go_wp2
  go_returns
  exact ⟨rfl, by (repeat' (first | (with_reducible exact Ext.refl _) | (with_reducible assumption) | (with_reducible refine Ext.alloc ?_ _) | (with_reducible refine Ext.drew ?_) | (with_reducible refine Ext.drewN ?_ _) | (with_reducible refine Ext.setCell ?_ (by go_size) _)))⟩
--# impl.BothOf
theorem iBothOf_any (x y x' y' : Int) (w : World) :
    Calls Try.prog 24 #[.agg #[.int .u64 x, .int .u64 y], .agg #[.int .u64 x', .int .u64 y']] w fun e w' => e = .returned (.agg #[.int .u64 (bits BinOp.and IntKind.u64 x x'), .int .u64 (bits BinOp.and IntKind.u64 (bits BinOp.and IntKind.u64 y y') 68719476735)]) ∧ Ext w w' := by
  go_enter Try.func24, Try.ntmps24
  go_wp2_with fail
  refine (cut_any _ _ _).mono ?_
  rintro e w1 ⟨rfl, hb⟩
  obtain ⟨hc, hf⟩ := hb.cells
  go_wp2
  refine bodyPost_ret (v := .agg #[.int .u64 (bits BinOp.and IntKind.u64 x x'), .int .u64 (bits BinOp.and IntKind.u64 (bits BinOp.and IntKind.u64 y y') 68719476735)]) (by simp [results, Try.results24, go_sem, hc, World.cell?_setCell_other]) rfl ⟨rfl, ?_⟩
  (repeat' (first | (with_reducible exact Ext.refl _) | (with_reducible refine Ext.trans ?_ hb) | (with_reducible refine Ext.alloc ?_ _) | (with_reducible refine Ext.setCell ?_ (by go_size) _)))
--# impl.UnionOf
theorem iUnionOf_any (x y x' y' : Int) (w : World) :
    Calls Try.prog 27 #[.agg #[.int .u64 x, .int .u64 y], .agg #[.int .u64 x', .int .u64 y']] w fun e w' => e = .returned (.agg #[.int .u64 (bits BinOp.or IntKind.u64 x x'), .int .u64 (bits BinOp.and IntKind.u64 (bits BinOp.or IntKind.u64 y y') 68719476735)]) ∧ Ext w w' := by
  go_enter Try.func27, Try.ntmps27
  go_wp2_with fail
  refine (cut_any _ _ _).mono ?_
  rintro e w1 ⟨rfl, hb⟩
  obtain ⟨hc, hf⟩ := hb.cells
  go_wp2
  refine bodyPost_ret (v := .agg #[.int .u64 (bits BinOp.or IntKind.u64 x x'), .int .u64 (bits BinOp.and IntKind.u64 (bits BinOp.or IntKind.u64 y y') 68719476735)]) (by simp [results, Try.results27, go_sem, hc, World.cell?_setCell_other]) rfl ⟨rfl, ?_⟩
  (repeat' (first | (with_reducible exact Ext.refl _) | (with_reducible refine Ext.trans ?_ hb) | (with_reducible refine Ext.alloc ?_ _) | (with_reducible refine Ext.setCell ?_ (by go_size) _)))
--# impl.WithoutOf
theorem iWithoutOf_any (x y x' y' : Int) (w : World) :
    Calls Try.prog 31 #[.agg #[.int .u64 x, .int .u64 y], .agg #[.int .u64 x', .int .u64 y']] w fun e w' => e = .returned (.agg #[.int .u64 (bits BinOp.andNot IntKind.u64 x x'), .int .u64 (bits BinOp.and IntKind.u64 (bits BinOp.andNot IntKind.u64 y y') 68719476735)]) ∧ Ext w w' := by
  go_enter Try.func31, Try.ntmps31
  go_wp2_with fail
  refine (cut_any _ _ _).mono ?_
  rintro e w1 ⟨rfl, hb⟩
  obtain ⟨hc, hf⟩ := hb.cells
  go_wp2
  refine bodyPost_ret (v := .agg #[.int .u64 (bits BinOp.andNot IntKind.u64 x x'), .int .u64 (bits BinOp.and IntKind.u64 (bits BinOp.andNot IntKind.u64 y y') 68719476735)]) (by simp [results, Try.results31, go_sem, hc, World.cell?_setCell_other]) rfl ⟨rfl, ?_⟩
  (repeat' (first | (with_reducible exact Ext.refl _) | (with_reducible refine Ext.trans ?_ hb) | (with_reducible refine Ext.alloc ?_ _) | (with_reducible refine Ext.setCell ?_ (by go_size) _)))
--# spec.BothOf
theorem sBothOf_any (x y x' y' : Int) (w : World) :
    Calls Try.prog 23 #[.agg #[.int .u64 x, .int .u64 y], .agg #[.int .u64 x', .int .u64 y']] w fun e w' => e = .returned (.agg #[.int .u64 (bits BinOp.and IntKind.u64 x x'), .int .u64 (bits BinOp.and IntKind.u64 (bits BinOp.and IntKind.u64 y y') 68719476735)]) ∧ Ext w w' := by
  go_enter Try.func23, Try.ntmps23
  go_wp2_with fail
  refine (l01Mask_any _ _ _).mono ?_
  rintro e w1 ⟨rfl, hb⟩
  obtain ⟨hc, hf⟩ := hb.cells
  go_wp2
  refine bodyPost_ret (v := .agg #[.int .u64 (bits BinOp.and IntKind.u64 x x'), .int .u64 (bits BinOp.and IntKind.u64 (bits BinOp.and IntKind.u64 y y') 68719476735)]) (by simp [results, Try.results23, go_sem, hc, World.cell?_setCell_other]) rfl ⟨rfl, ?_⟩
  (repeat' (first | (with_reducible exact Ext.refl _) | (with_reducible refine Ext.trans ?_ hb) | (with_reducible refine Ext.alloc ?_ _) | (with_reducible refine Ext.setCell ?_ (by go_size) _)))
--# spec.UnionOf
theorem sUnionOf_any (x y x' y' : Int) (w : World) :
    Calls Try.prog 26 #[.agg #[.int .u64 x, .int .u64 y], .agg #[.int .u64 x', .int .u64 y']] w fun e w' => e = .returned (.agg #[.int .u64 (bits BinOp.or IntKind.u64 x x'), .int .u64 (bits BinOp.and IntKind.u64 (bits BinOp.or IntKind.u64 y y') 68719476735)]) ∧ Ext w w' := by
  go_enter Try.func26, Try.ntmps26
  go_wp2_with fail
  refine (l01Mask_any _ _ _).mono ?_
  rintro e w1 ⟨rfl, hb⟩
  obtain ⟨hc, hf⟩ := hb.cells
  go_wp2
  refine bodyPost_ret (v := .agg #[.int .u64 (bits BinOp.or IntKind.u64 x x'), .int .u64 (bits BinOp.and IntKind.u64 (bits BinOp.or IntKind.u64 y y') 68719476735)]) (by simp [results, Try.results26, go_sem, hc, World.cell?_setCell_other]) rfl ⟨rfl, ?_⟩
  (repeat' (first | (with_reducible exact Ext.refl _) | (with_reducible refine Ext.trans ?_ hb) | (with_reducible refine Ext.alloc ?_ _) | (with_reducible refine Ext.setCell ?_ (by go_size) _)))
--# spec.WithoutOf
theorem sWithoutOf_any (x y x' y' : Int) (w : World) :
    Calls Try.prog 32 #[.agg #[.int .u64 x, .int .u64 y], .agg #[.int .u64 x', .int .u64 y']] w fun e w' => e = .returned (.agg #[.int .u64 (bits BinOp.andNot IntKind.u64 x x'), .int .u64 (bits BinOp.and IntKind.u64 (bits BinOp.andNot IntKind.u64 y y') 68719476735)]) ∧ Ext w w' := by
  go_enter Try.func32, Try.ntmps32
  go_wp2_with fail
  refine (l01Mask_any _ _ _).mono ?_
  rintro e w1 ⟨rfl, hb⟩
  obtain ⟨hc, hf⟩ := hb.cells
  go_wp2
  refine bodyPost_ret (v := .agg #[.int .u64 (bits BinOp.andNot IntKind.u64 x x'), .int .u64 (bits BinOp.and IntKind.u64 (bits BinOp.andNot IntKind.u64 y y') 68719476735)]) (by simp [results, Try.results32, go_sem, hc, World.cell?_setCell_other]) rfl ⟨rfl, ?_⟩
  (repeat' (first | (with_reducible exact Ext.refl _) | (with_reducible refine Ext.trans ?_ hb) | (with_reducible refine Ext.alloc ?_ _) | (with_reducible refine Ext.setCell ?_ (by go_size) _)))
--# eqCells
theorem eqCells_same (x y : Int) (w : World) :
    Calls Try.prog 25 #[.agg #[.int .u64 x, .int .u64 y], .agg #[.int .u64 x, .int .u64 y]] w fun e w' => e = .returned (.bool true) ∧ Ext w w' := by
  go_enter Try.func25, Try.ntmps25
  go_wp2
  refine wp_loop_rounds 3 ?_
  rw [rounds_succ]
  go_wp2
  go_quiet (fail)
  go_wp2
  rw [rounds_succ]
  go_wp2
  go_quiet (fail)
  go_wp2
  rw [rounds_succ]
  go_wp2
  go_ret
  exact ⟨rfl, by (repeat' (first | (with_reducible exact Ext.refl _) | (with_reducible assumption) | (with_reducible refine Ext.alloc ?_ _) | (with_reducible refine Ext.drew ?_) | (with_reducible refine Ext.drewN ?_ _) | (with_reducible refine Ext.setCell ?_ (by go_size) _)))⟩
end Go.Proofs.Ythmdcnoockoggaa
