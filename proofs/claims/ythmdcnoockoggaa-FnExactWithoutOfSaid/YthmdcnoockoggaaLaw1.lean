/-
  Walks of laws over sets, by program (lawgen.py). No conditions.
-/
import Derived.Test.YthmdcnoockoggaaWalk1
import Derived.Test.YthmdcnoockoggaaReg
namespace Go.Proofs.Ythmdcnoockoggaa
open Go.RowKit
set_option linter.unusedSimpArgs false
set_option linter.unusedVariables false
set_option maxHeartbeats 1000000
--# law BothOf
theorem FnExactBothOf_walk (x0 y0 : Int) (x1 y1 : Int) (w : World) :
    Calls Try.prog 7 #[.agg #[.int .u64 x0, .int .u64 y0], .agg #[.int .u64 x1, .int .u64 y1]] w fun e w' => e = .returned (.bool true) ∧ Ext w w' := by
  refine calls_of_wp Try.func7 rfl ?_
  refine wp_frame (a' := ⟨#[.agg #[.int .u64 x0, .int .u64 y0], .agg #[.int .u64 x1, .int .u64 y1], undef, undef, undef, undef, undef, undef, undef, undef, undef, undef, undef, undef, undef, undef, undef, undef, undef, undef, undef], []⟩) (by kernel_rfl) ?_
  refine wp_seq ?_
  refine seq_go 3 [2, 3, 4] [[], [], []]
    (fun i => ([.ptr w.heap.size 31 #[.int .u64 x0, .int .u64 y0], .ptr w.heap.size 31 #[.int .u64 x1, .int .u64 y1], .val (.bool false)] : List Fct).getD i .any)
    (by kernel_rfl) (by decide) (by simp) rfl (all_succ (all_succ (all_succ all_zero ?_) ?_) ?_) ?_
  · refine step0 rfl rfl rfl (fun wr hw => ?_)
    unfold OpRun
    go_simp
    exact ⟨(Ext.refl _).alloc _, _, rfl, hw.size, Blk.new _ _ _⟩
  · refine step0 rfl rfl rfl (fun wr hw => ?_)
    unfold OpRun
    go_simp
    exact ⟨(Ext.refl _).alloc _, _, rfl, hw.size, Blk.new _ _ _⟩
  · refine step0 rfl rfl rfl (fun wr hw => ?_)
    unfold OpRun
    go_simp
    exact ⟨Ext.refl _, rfl⟩
  refine end3 (fun u0 u1 u2 w1 E1 f0 f1 f2 => ?_)
  obtain ⟨g1, rfl, hgg1, B1⟩ := f0
  obtain ⟨g2, rfl, hgg2, B2⟩ := f1
  cases f2
  refine wpList_nil (then_normal ?_)
  refine wp_frame (a' := ⟨#[.agg #[.int .u64 x0, .int .u64 y0], .agg #[.int .u64 x1, .int .u64 y1], .pointer (some ⟨g1, 0, none⟩), .pointer (some ⟨g2, 0, none⟩), .bool false, undef, undef, undef, undef, undef, undef, undef, undef, undef, undef, undef, undef, undef, undef, undef, undef], []⟩) (by kernel_rfl) ?_
  refine wp_seq ?_
  refine region_go 6 [7, 8, 9, 10, 11, 5] [[], [0], [], [2], [1, 3], []]
    (fun i => ([.val (.agg #[.int .u64 x0, .int .u64 y0]), .val (.agg #[.int .u64 x0, .int .u64 y0]), .val (.agg #[.int .u64 x1, .int .u64 y1]), .val (.agg #[.int .u64 x1, .int .u64 y1]), .val (.agg #[.int .u64 (bits BinOp.and IntKind.u64 x0 x1), .int .u64 (bits BinOp.and IntKind.u64 (bits BinOp.and IntKind.u64 y0 y1) 68719476735)]), .ptr w1.heap.size 33 #[.int .u64 0, .int .u64 0]] : List Fct).getD i .any)
    (by kernel_rfl) (by kernel_rfl) (by decide) (by simp) rfl (all_succ (all_succ (all_succ (all_succ (all_succ (all_succ all_zero ?_) ?_) ?_) ?_) ?_) ?_) ?_
  · refine step0 rfl rfl rfl (fun wr hw => ?_)
    with_reducible refine OpRun.row (x := (.tmp 2)) row__2_uint64 (B1.ext hw) ?_ ?_ ?_ ?_
    · rfl
    · rfl
    · kernel_rfl
    · exact ⟨Ext.refl _, rfl⟩
  · refine step1 rfl rfl rfl rfl (fun u0 wr hw h0 => ?_)
    cases h0
    unfold OpRun
    go_simp
    exact (toCells_any _ _ _).mono fun e w1 ⟨he, hb⟩ => ⟨_, he, hb, rfl⟩
  · refine step0 rfl rfl rfl (fun wr hw => ?_)
    with_reducible refine OpRun.row (x := (.tmp 3)) row__2_uint64 (B2.ext hw) ?_ ?_ ?_ ?_
    · rfl
    · rfl
    · kernel_rfl
    · exact ⟨Ext.refl _, rfl⟩
  · refine step1 rfl rfl rfl rfl (fun u0 wr hw h0 => ?_)
    cases h0
    unfold OpRun
    go_simp
    exact (toCells_any _ _ _).mono fun e w1 ⟨he, hb⟩ => ⟨_, he, hb, rfl⟩
  · refine step2 rfl rfl rfl rfl rfl (fun u0 u1 wr hw h0 h1 => ?_)
    cases h0
    cases h1
    unfold OpRun
    go_simp
    exact (sBothOf_any _ _ _ _ _).mono fun e w1 ⟨he, hb⟩ => ⟨_, he, hb, rfl⟩
  · refine step0 rfl rfl rfl (fun wr hw => ?_)
    unfold OpRun
    go_simp
    exact ⟨(Ext.refl _).alloc _, _, rfl, hw.size, Blk.new _ _ _⟩
  refine end6 (fun u0 u1 u2 u3 u4 u5 w2 E2 f0 f1 f2 f3 f4 f5 => ?_)
  cases f0
  cases f1
  cases f2
  cases f3
  cases f4
  obtain ⟨g3, rfl, hgg3, B3⟩ := f5
  refine wpList_cons_eq rfl ?_
  with_reducible refine wpList_put 33 (.tmp 5) (.tmp 11) g3 33 #[.int .u64 0, .int .u64 0] #[.int .u64 (bits BinOp.and IntKind.u64 x0 x1), .int .u64 (bits BinOp.and IntKind.u64 (bits BinOp.and IntKind.u64 y0 y1) 68719476735)] B3 ?_ ?_ ?_ ?_ ?_ ?_ ?_ ?_
  · rfl
  · rfl
  · kernel_rfl
  · kernel_rfl
  · kernel_rfl
  · rfl
  · kernel_rfl
  clear B3
  intro w2s B3 hx hk hz
  have E2s := hx w1 hgg3 E2
  clear hx hk hz
  replace B1 := B1.ext E2s
  replace B2 := B2.ext E2s
  refine wpList_nil (then_normal ?_)
  refine wp_frame (a' := ⟨#[.agg #[.int .u64 x0, .int .u64 y0], .agg #[.int .u64 x1, .int .u64 y1], .pointer (some ⟨g1, 0, none⟩), .pointer (some ⟨g2, 0, none⟩), .bool false, .pointer (some ⟨g3, 0, none⟩), undef, .agg #[.int .u64 x0, .int .u64 y0], .agg #[.int .u64 x0, .int .u64 y0], .agg #[.int .u64 x1, .int .u64 y1], .agg #[.int .u64 x1, .int .u64 y1], .agg #[.int .u64 (bits BinOp.and IntKind.u64 x0 x1), .int .u64 (bits BinOp.and IntKind.u64 (bits BinOp.and IntKind.u64 y0 y1) 68719476735)], undef, undef, undef, undef, undef, undef, undef, undef, undef], []⟩) (by kernel_rfl) ?_
  refine wp_seq ?_
  refine region_go 6 [12, 13, 14, 15, 16, 6] [[], [0], [], [2], [1, 3], []]
    (fun i => ([.val (.agg #[.int .u64 x0, .int .u64 y0]), .val (.agg #[.int .u64 x0, .int .u64 y0]), .val (.agg #[.int .u64 x1, .int .u64 y1]), .val (.agg #[.int .u64 x1, .int .u64 y1]), .val (.agg #[.int .u64 (bits BinOp.and IntKind.u64 x0 x1), .int .u64 (bits BinOp.and IntKind.u64 (bits BinOp.and IntKind.u64 y0 y1) 68719476735)]), .ptr w2s.heap.size 33 #[.int .u64 0, .int .u64 0]] : List Fct).getD i .any)
    (by kernel_rfl) (by kernel_rfl) (by decide) (by simp) rfl (all_succ (all_succ (all_succ (all_succ (all_succ (all_succ all_zero ?_) ?_) ?_) ?_) ?_) ?_) ?_
  · refine step0 rfl rfl rfl (fun wr hw => ?_)
    with_reducible refine OpRun.row (x := (.tmp 2)) row__2_uint64 (B1.ext hw) ?_ ?_ ?_ ?_
    · rfl
    · rfl
    · kernel_rfl
    · exact ⟨Ext.refl _, rfl⟩
  · refine step1 rfl rfl rfl rfl (fun u0 wr hw h0 => ?_)
    cases h0
    unfold OpRun
    go_simp
    exact (toCells_any _ _ _).mono fun e w1 ⟨he, hb⟩ => ⟨_, he, hb, rfl⟩
  · refine step0 rfl rfl rfl (fun wr hw => ?_)
    with_reducible refine OpRun.row (x := (.tmp 3)) row__2_uint64 (B2.ext hw) ?_ ?_ ?_ ?_
    · rfl
    · rfl
    · kernel_rfl
    · exact ⟨Ext.refl _, rfl⟩
  · refine step1 rfl rfl rfl rfl (fun u0 wr hw h0 => ?_)
    cases h0
    unfold OpRun
    go_simp
    exact (toCells_any _ _ _).mono fun e w1 ⟨he, hb⟩ => ⟨_, he, hb, rfl⟩
  · refine step2 rfl rfl rfl rfl rfl (fun u0 u1 wr hw h0 h1 => ?_)
    cases h0
    cases h1
    unfold OpRun
    go_simp
    exact (iBothOf_any _ _ _ _ _).mono fun e w1 ⟨he, hb⟩ => ⟨_, he, hb, rfl⟩
  · refine step0 rfl rfl rfl (fun wr hw => ?_)
    unfold OpRun
    go_simp
    exact ⟨(Ext.refl _).alloc _, _, rfl, hw.size, Blk.new _ _ _⟩
  refine end6 (fun u0 u1 u2 u3 u4 u5 w3 E3 f0 f1 f2 f3 f4 f5 => ?_)
  cases f0
  cases f1
  cases f2
  cases f3
  cases f4
  obtain ⟨g4, rfl, hgg4, B4⟩ := f5
  refine wpList_cons_eq rfl ?_
  with_reducible refine wpList_put 33 (.tmp 6) (.tmp 16) g4 33 #[.int .u64 0, .int .u64 0] #[.int .u64 (bits BinOp.and IntKind.u64 x0 x1), .int .u64 (bits BinOp.and IntKind.u64 (bits BinOp.and IntKind.u64 y0 y1) 68719476735)] B4 ?_ ?_ ?_ ?_ ?_ ?_ ?_ ?_
  · rfl
  · rfl
  · kernel_rfl
  · kernel_rfl
  · kernel_rfl
  · rfl
  · kernel_rfl
  clear B4
  intro w3s B4 hx hk hz
  have E3s := hx w2s hgg4 E3
  clear hx hk hz
  replace B1 := B1.ext E3s
  replace B2 := B2.ext E3s
  replace B3 := B3.ext E3s
  refine wpList_nil (then_normal ?_)
  refine wp_frame (a' := ⟨#[.agg #[.int .u64 x0, .int .u64 y0], .agg #[.int .u64 x1, .int .u64 y1], .pointer (some ⟨g1, 0, none⟩), .pointer (some ⟨g2, 0, none⟩), .bool false, .pointer (some ⟨g3, 0, none⟩), .pointer (some ⟨g4, 0, none⟩), .agg #[.int .u64 x0, .int .u64 y0], .agg #[.int .u64 x0, .int .u64 y0], .agg #[.int .u64 x1, .int .u64 y1], .agg #[.int .u64 x1, .int .u64 y1], .agg #[.int .u64 (bits BinOp.and IntKind.u64 x0 x1), .int .u64 (bits BinOp.and IntKind.u64 (bits BinOp.and IntKind.u64 y0 y1) 68719476735)], .agg #[.int .u64 x0, .int .u64 y0], .agg #[.int .u64 x0, .int .u64 y0], .agg #[.int .u64 x1, .int .u64 y1], .agg #[.int .u64 x1, .int .u64 y1], .agg #[.int .u64 (bits BinOp.and IntKind.u64 x0 x1), .int .u64 (bits BinOp.and IntKind.u64 (bits BinOp.and IntKind.u64 y0 y1) 68719476735)], undef, undef, undef, undef], []⟩) (by kernel_rfl) ?_
  refine wp_seq ?_
  refine wp_seq ?_
  refine seq_go 4 [17, 18, 19, 20] [[], [], [0, 1], [2]]
    (fun i => ([.val (.agg #[.int .u64 (bits BinOp.and IntKind.u64 x0 x1), .int .u64 (bits BinOp.and IntKind.u64 (bits BinOp.and IntKind.u64 y0 y1) 68719476735)]), .val (.agg #[.int .u64 (bits BinOp.and IntKind.u64 x0 x1), .int .u64 (bits BinOp.and IntKind.u64 (bits BinOp.and IntKind.u64 y0 y1) 68719476735)]), .val (.bool true), .val (.bool false)] : List Fct).getD i .any)
    (by kernel_rfl) (by decide) (by simp) rfl (all_succ (all_succ (all_succ (all_succ all_zero ?_) ?_) ?_) ?_) ?_
  · refine step0 rfl rfl rfl (fun wr hw => ?_)
    with_reducible refine OpRun.row (x := (.tmp 6)) row_impl_Cells (B4.ext hw) ?_ ?_ ?_ ?_
    · rfl
    · rfl
    · kernel_rfl
    · exact ⟨Ext.refl _, rfl⟩
  · refine step0 rfl rfl rfl (fun wr hw => ?_)
    with_reducible refine OpRun.row (x := (.tmp 5)) row_impl_Cells (B3.ext hw) ?_ ?_ ?_ ?_
    · rfl
    · rfl
    · kernel_rfl
    · exact ⟨Ext.refl _, rfl⟩
  · refine step2 rfl rfl rfl rfl rfl (fun u0 u1 wr hw h0 h1 => ?_)
    cases h0
    cases h1
    unfold OpRun
    go_simp
    exact (eqCells_same _ _ _).mono fun e w1 ⟨he, hb⟩ => ⟨_, he, hb, rfl⟩
  · refine step1 rfl rfl rfl rfl (fun u0 wr hw h0 => ?_)
    cases h0
    unfold OpRun
    go_simp
    exact ⟨Ext.refl _, rfl⟩
  refine end4 (fun u0 u1 u2 u3 w4 E4 f0 f1 f2 f3 => ?_)
  cases f0
  cases f1
  cases f2
  cases f3
  replace B1 := B1.ext E4
  replace B2 := B2.ext E4
  replace B3 := B3.ext E4
  replace B4 := B4.ext E4
  refine wpList_nil (then_normal ?_)
  refine wp_frame (a' := ⟨#[.agg #[.int .u64 x0, .int .u64 y0], .agg #[.int .u64 x1, .int .u64 y1], .pointer (some ⟨g1, 0, none⟩), .pointer (some ⟨g2, 0, none⟩), .bool false, .pointer (some ⟨g3, 0, none⟩), .pointer (some ⟨g4, 0, none⟩), .agg #[.int .u64 x0, .int .u64 y0], .agg #[.int .u64 x0, .int .u64 y0], .agg #[.int .u64 x1, .int .u64 y1], .agg #[.int .u64 x1, .int .u64 y1], .agg #[.int .u64 (bits BinOp.and IntKind.u64 x0 x1), .int .u64 (bits BinOp.and IntKind.u64 (bits BinOp.and IntKind.u64 y0 y1) 68719476735)], .agg #[.int .u64 x0, .int .u64 y0], .agg #[.int .u64 x0, .int .u64 y0], .agg #[.int .u64 x1, .int .u64 y1], .agg #[.int .u64 x1, .int .u64 y1], .agg #[.int .u64 (bits BinOp.and IntKind.u64 x0 x1), .int .u64 (bits BinOp.and IntKind.u64 (bits BinOp.and IntKind.u64 y0 y1) 68719476735)], .agg #[.int .u64 (bits BinOp.and IntKind.u64 x0 x1), .int .u64 (bits BinOp.and IntKind.u64 (bits BinOp.and IntKind.u64 y0 y1) 68719476735)], .agg #[.int .u64 (bits BinOp.and IntKind.u64 x0 x1), .int .u64 (bits BinOp.and IntKind.u64 (bits BinOp.and IntKind.u64 y0 y1) 68719476735)], .bool true, .bool false], []⟩) (by kernel_rfl) ?_
  refine wp_cond_false rfl ?_
  refine wp_skip (then_normal ?_)
  refine wp_seq ?_
  refine seq_go 1 [4] [[]]
    (fun i => ([.val (.bool true)] : List Fct).getD i .any)
    (by kernel_rfl) (by decide) (by simp) rfl (all_succ all_zero ?_) ?_
  · refine step0 rfl rfl rfl (fun wr hw => ?_)
    unfold OpRun
    go_simp
    exact ⟨Ext.refl _, rfl⟩
  refine end1 (fun u0 w5 E5 f0 => ?_)
  cases f0
  replace B1 := B1.ext E5
  replace B2 := B2.ext E5
  replace B3 := B3.ext E5
  replace B4 := B4.ext E5
  refine wpList_nil (then_normal ?_)
  refine wp_frame (a' := ⟨#[.agg #[.int .u64 x0, .int .u64 y0], .agg #[.int .u64 x1, .int .u64 y1], .pointer (some ⟨g1, 0, none⟩), .pointer (some ⟨g2, 0, none⟩), .bool true, .pointer (some ⟨g3, 0, none⟩), .pointer (some ⟨g4, 0, none⟩), .agg #[.int .u64 x0, .int .u64 y0], .agg #[.int .u64 x0, .int .u64 y0], .agg #[.int .u64 x1, .int .u64 y1], .agg #[.int .u64 x1, .int .u64 y1], .agg #[.int .u64 (bits BinOp.and IntKind.u64 x0 x1), .int .u64 (bits BinOp.and IntKind.u64 (bits BinOp.and IntKind.u64 y0 y1) 68719476735)], .agg #[.int .u64 x0, .int .u64 y0], .agg #[.int .u64 x0, .int .u64 y0], .agg #[.int .u64 x1, .int .u64 y1], .agg #[.int .u64 x1, .int .u64 y1], .agg #[.int .u64 (bits BinOp.and IntKind.u64 x0 x1), .int .u64 (bits BinOp.and IntKind.u64 (bits BinOp.and IntKind.u64 y0 y1) 68719476735)], .agg #[.int .u64 (bits BinOp.and IntKind.u64 x0 x1), .int .u64 (bits BinOp.and IntKind.u64 (bits BinOp.and IntKind.u64 y0 y1) 68719476735)], .agg #[.int .u64 (bits BinOp.and IntKind.u64 x0 x1), .int .u64 (bits BinOp.and IntKind.u64 (bits BinOp.and IntKind.u64 y0 y1) 68719476735)], .bool true, .bool false], []⟩) (by kernel_rfl) ?_
  refine wp_ret ?_
  refine bodyPost_ret (results_tmp rfl _ _ _) rfl ⟨rfl, ?_⟩
  exact ((((((Ext.refl w).trans E1).trans E2s).trans E3s).trans E4).trans E5)
--# law UnionOf
theorem FnExactUnionOf_walk (x0 y0 : Int) (x1 y1 : Int) (w : World) :
    Calls Try.prog 8 #[.agg #[.int .u64 x0, .int .u64 y0], .agg #[.int .u64 x1, .int .u64 y1]] w fun e w' => e = .returned (.bool true) ∧ Ext w w' := by
  refine calls_of_wp Try.func8 rfl ?_
  refine wp_frame (a' := ⟨#[.agg #[.int .u64 x0, .int .u64 y0], .agg #[.int .u64 x1, .int .u64 y1], undef, undef, undef, undef, undef, undef, undef, undef, undef, undef, undef, undef, undef, undef, undef, undef, undef, undef, undef], []⟩) (by kernel_rfl) ?_
  refine wp_seq ?_
  refine seq_go 3 [2, 3, 4] [[], [], []]
    (fun i => ([.ptr w.heap.size 31 #[.int .u64 x0, .int .u64 y0], .ptr w.heap.size 31 #[.int .u64 x1, .int .u64 y1], .val (.bool false)] : List Fct).getD i .any)
    (by kernel_rfl) (by decide) (by simp) rfl (all_succ (all_succ (all_succ all_zero ?_) ?_) ?_) ?_
  · refine step0 rfl rfl rfl (fun wr hw => ?_)
    unfold OpRun
    go_simp
    exact ⟨(Ext.refl _).alloc _, _, rfl, hw.size, Blk.new _ _ _⟩
  · refine step0 rfl rfl rfl (fun wr hw => ?_)
    unfold OpRun
    go_simp
    exact ⟨(Ext.refl _).alloc _, _, rfl, hw.size, Blk.new _ _ _⟩
  · refine step0 rfl rfl rfl (fun wr hw => ?_)
    unfold OpRun
    go_simp
    exact ⟨Ext.refl _, rfl⟩
  refine end3 (fun u0 u1 u2 w1 E1 f0 f1 f2 => ?_)
  obtain ⟨g1, rfl, hgg1, B1⟩ := f0
  obtain ⟨g2, rfl, hgg2, B2⟩ := f1
  cases f2
  refine wpList_nil (then_normal ?_)
  refine wp_frame (a' := ⟨#[.agg #[.int .u64 x0, .int .u64 y0], .agg #[.int .u64 x1, .int .u64 y1], .pointer (some ⟨g1, 0, none⟩), .pointer (some ⟨g2, 0, none⟩), .bool false, undef, undef, undef, undef, undef, undef, undef, undef, undef, undef, undef, undef, undef, undef, undef, undef], []⟩) (by kernel_rfl) ?_
  refine wp_seq ?_
  refine region_go 6 [7, 8, 9, 10, 11, 5] [[], [0], [], [2], [1, 3], []]
    (fun i => ([.val (.agg #[.int .u64 x0, .int .u64 y0]), .val (.agg #[.int .u64 x0, .int .u64 y0]), .val (.agg #[.int .u64 x1, .int .u64 y1]), .val (.agg #[.int .u64 x1, .int .u64 y1]), .val (.agg #[.int .u64 (bits BinOp.or IntKind.u64 x0 x1), .int .u64 (bits BinOp.and IntKind.u64 (bits BinOp.or IntKind.u64 y0 y1) 68719476735)]), .ptr w1.heap.size 33 #[.int .u64 0, .int .u64 0]] : List Fct).getD i .any)
    (by kernel_rfl) (by kernel_rfl) (by decide) (by simp) rfl (all_succ (all_succ (all_succ (all_succ (all_succ (all_succ all_zero ?_) ?_) ?_) ?_) ?_) ?_) ?_
  · refine step0 rfl rfl rfl (fun wr hw => ?_)
    with_reducible refine OpRun.row (x := (.tmp 2)) row__2_uint64 (B1.ext hw) ?_ ?_ ?_ ?_
    · rfl
    · rfl
    · kernel_rfl
    · exact ⟨Ext.refl _, rfl⟩
  · refine step1 rfl rfl rfl rfl (fun u0 wr hw h0 => ?_)
    cases h0
    unfold OpRun
    go_simp
    exact (toCells_any _ _ _).mono fun e w1 ⟨he, hb⟩ => ⟨_, he, hb, rfl⟩
  · refine step0 rfl rfl rfl (fun wr hw => ?_)
    with_reducible refine OpRun.row (x := (.tmp 3)) row__2_uint64 (B2.ext hw) ?_ ?_ ?_ ?_
    · rfl
    · rfl
    · kernel_rfl
    · exact ⟨Ext.refl _, rfl⟩
  · refine step1 rfl rfl rfl rfl (fun u0 wr hw h0 => ?_)
    cases h0
    unfold OpRun
    go_simp
    exact (toCells_any _ _ _).mono fun e w1 ⟨he, hb⟩ => ⟨_, he, hb, rfl⟩
  · refine step2 rfl rfl rfl rfl rfl (fun u0 u1 wr hw h0 h1 => ?_)
    cases h0
    cases h1
    unfold OpRun
    go_simp
    exact (sUnionOf_any _ _ _ _ _).mono fun e w1 ⟨he, hb⟩ => ⟨_, he, hb, rfl⟩
  · refine step0 rfl rfl rfl (fun wr hw => ?_)
    unfold OpRun
    go_simp
    exact ⟨(Ext.refl _).alloc _, _, rfl, hw.size, Blk.new _ _ _⟩
  refine end6 (fun u0 u1 u2 u3 u4 u5 w2 E2 f0 f1 f2 f3 f4 f5 => ?_)
  cases f0
  cases f1
  cases f2
  cases f3
  cases f4
  obtain ⟨g3, rfl, hgg3, B3⟩ := f5
  refine wpList_cons_eq rfl ?_
  with_reducible refine wpList_put 33 (.tmp 5) (.tmp 11) g3 33 #[.int .u64 0, .int .u64 0] #[.int .u64 (bits BinOp.or IntKind.u64 x0 x1), .int .u64 (bits BinOp.and IntKind.u64 (bits BinOp.or IntKind.u64 y0 y1) 68719476735)] B3 ?_ ?_ ?_ ?_ ?_ ?_ ?_ ?_
  · rfl
  · rfl
  · kernel_rfl
  · kernel_rfl
  · kernel_rfl
  · rfl
  · kernel_rfl
  clear B3
  intro w2s B3 hx hk hz
  have E2s := hx w1 hgg3 E2
  clear hx hk hz
  replace B1 := B1.ext E2s
  replace B2 := B2.ext E2s
  refine wpList_nil (then_normal ?_)
  refine wp_frame (a' := ⟨#[.agg #[.int .u64 x0, .int .u64 y0], .agg #[.int .u64 x1, .int .u64 y1], .pointer (some ⟨g1, 0, none⟩), .pointer (some ⟨g2, 0, none⟩), .bool false, .pointer (some ⟨g3, 0, none⟩), undef, .agg #[.int .u64 x0, .int .u64 y0], .agg #[.int .u64 x0, .int .u64 y0], .agg #[.int .u64 x1, .int .u64 y1], .agg #[.int .u64 x1, .int .u64 y1], .agg #[.int .u64 (bits BinOp.or IntKind.u64 x0 x1), .int .u64 (bits BinOp.and IntKind.u64 (bits BinOp.or IntKind.u64 y0 y1) 68719476735)], undef, undef, undef, undef, undef, undef, undef, undef, undef], []⟩) (by kernel_rfl) ?_
  refine wp_seq ?_
  refine region_go 6 [12, 13, 14, 15, 16, 6] [[], [0], [], [2], [1, 3], []]
    (fun i => ([.val (.agg #[.int .u64 x0, .int .u64 y0]), .val (.agg #[.int .u64 x0, .int .u64 y0]), .val (.agg #[.int .u64 x1, .int .u64 y1]), .val (.agg #[.int .u64 x1, .int .u64 y1]), .val (.agg #[.int .u64 (bits BinOp.or IntKind.u64 x0 x1), .int .u64 (bits BinOp.and IntKind.u64 (bits BinOp.or IntKind.u64 y0 y1) 68719476735)]), .ptr w2s.heap.size 33 #[.int .u64 0, .int .u64 0]] : List Fct).getD i .any)
    (by kernel_rfl) (by kernel_rfl) (by decide) (by simp) rfl (all_succ (all_succ (all_succ (all_succ (all_succ (all_succ all_zero ?_) ?_) ?_) ?_) ?_) ?_) ?_
  · refine step0 rfl rfl rfl (fun wr hw => ?_)
    with_reducible refine OpRun.row (x := (.tmp 2)) row__2_uint64 (B1.ext hw) ?_ ?_ ?_ ?_
    · rfl
    · rfl
    · kernel_rfl
    · exact ⟨Ext.refl _, rfl⟩
  · refine step1 rfl rfl rfl rfl (fun u0 wr hw h0 => ?_)
    cases h0
    unfold OpRun
    go_simp
    exact (toCells_any _ _ _).mono fun e w1 ⟨he, hb⟩ => ⟨_, he, hb, rfl⟩
  · refine step0 rfl rfl rfl (fun wr hw => ?_)
    with_reducible refine OpRun.row (x := (.tmp 3)) row__2_uint64 (B2.ext hw) ?_ ?_ ?_ ?_
    · rfl
    · rfl
    · kernel_rfl
    · exact ⟨Ext.refl _, rfl⟩
  · refine step1 rfl rfl rfl rfl (fun u0 wr hw h0 => ?_)
    cases h0
    unfold OpRun
    go_simp
    exact (toCells_any _ _ _).mono fun e w1 ⟨he, hb⟩ => ⟨_, he, hb, rfl⟩
  · refine step2 rfl rfl rfl rfl rfl (fun u0 u1 wr hw h0 h1 => ?_)
    cases h0
    cases h1
    unfold OpRun
    go_simp
    exact (iUnionOf_any _ _ _ _ _).mono fun e w1 ⟨he, hb⟩ => ⟨_, he, hb, rfl⟩
  · refine step0 rfl rfl rfl (fun wr hw => ?_)
    unfold OpRun
    go_simp
    exact ⟨(Ext.refl _).alloc _, _, rfl, hw.size, Blk.new _ _ _⟩
  refine end6 (fun u0 u1 u2 u3 u4 u5 w3 E3 f0 f1 f2 f3 f4 f5 => ?_)
  cases f0
  cases f1
  cases f2
  cases f3
  cases f4
  obtain ⟨g4, rfl, hgg4, B4⟩ := f5
  refine wpList_cons_eq rfl ?_
  with_reducible refine wpList_put 33 (.tmp 6) (.tmp 16) g4 33 #[.int .u64 0, .int .u64 0] #[.int .u64 (bits BinOp.or IntKind.u64 x0 x1), .int .u64 (bits BinOp.and IntKind.u64 (bits BinOp.or IntKind.u64 y0 y1) 68719476735)] B4 ?_ ?_ ?_ ?_ ?_ ?_ ?_ ?_
  · rfl
  · rfl
  · kernel_rfl
  · kernel_rfl
  · kernel_rfl
  · rfl
  · kernel_rfl
  clear B4
  intro w3s B4 hx hk hz
  have E3s := hx w2s hgg4 E3
  clear hx hk hz
  replace B1 := B1.ext E3s
  replace B2 := B2.ext E3s
  replace B3 := B3.ext E3s
  refine wpList_nil (then_normal ?_)
  refine wp_frame (a' := ⟨#[.agg #[.int .u64 x0, .int .u64 y0], .agg #[.int .u64 x1, .int .u64 y1], .pointer (some ⟨g1, 0, none⟩), .pointer (some ⟨g2, 0, none⟩), .bool false, .pointer (some ⟨g3, 0, none⟩), .pointer (some ⟨g4, 0, none⟩), .agg #[.int .u64 x0, .int .u64 y0], .agg #[.int .u64 x0, .int .u64 y0], .agg #[.int .u64 x1, .int .u64 y1], .agg #[.int .u64 x1, .int .u64 y1], .agg #[.int .u64 (bits BinOp.or IntKind.u64 x0 x1), .int .u64 (bits BinOp.and IntKind.u64 (bits BinOp.or IntKind.u64 y0 y1) 68719476735)], .agg #[.int .u64 x0, .int .u64 y0], .agg #[.int .u64 x0, .int .u64 y0], .agg #[.int .u64 x1, .int .u64 y1], .agg #[.int .u64 x1, .int .u64 y1], .agg #[.int .u64 (bits BinOp.or IntKind.u64 x0 x1), .int .u64 (bits BinOp.and IntKind.u64 (bits BinOp.or IntKind.u64 y0 y1) 68719476735)], undef, undef, undef, undef], []⟩) (by kernel_rfl) ?_
  refine wp_seq ?_
  refine wp_seq ?_
  refine seq_go 4 [17, 18, 19, 20] [[], [], [0, 1], [2]]
    (fun i => ([.val (.agg #[.int .u64 (bits BinOp.or IntKind.u64 x0 x1), .int .u64 (bits BinOp.and IntKind.u64 (bits BinOp.or IntKind.u64 y0 y1) 68719476735)]), .val (.agg #[.int .u64 (bits BinOp.or IntKind.u64 x0 x1), .int .u64 (bits BinOp.and IntKind.u64 (bits BinOp.or IntKind.u64 y0 y1) 68719476735)]), .val (.bool true), .val (.bool false)] : List Fct).getD i .any)
    (by kernel_rfl) (by decide) (by simp) rfl (all_succ (all_succ (all_succ (all_succ all_zero ?_) ?_) ?_) ?_) ?_
  · refine step0 rfl rfl rfl (fun wr hw => ?_)
    with_reducible refine OpRun.row (x := (.tmp 6)) row_impl_Cells (B4.ext hw) ?_ ?_ ?_ ?_
    · rfl
    · rfl
    · kernel_rfl
    · exact ⟨Ext.refl _, rfl⟩
  · refine step0 rfl rfl rfl (fun wr hw => ?_)
    with_reducible refine OpRun.row (x := (.tmp 5)) row_impl_Cells (B3.ext hw) ?_ ?_ ?_ ?_
    · rfl
    · rfl
    · kernel_rfl
    · exact ⟨Ext.refl _, rfl⟩
  · refine step2 rfl rfl rfl rfl rfl (fun u0 u1 wr hw h0 h1 => ?_)
    cases h0
    cases h1
    unfold OpRun
    go_simp
    exact (eqCells_same _ _ _).mono fun e w1 ⟨he, hb⟩ => ⟨_, he, hb, rfl⟩
  · refine step1 rfl rfl rfl rfl (fun u0 wr hw h0 => ?_)
    cases h0
    unfold OpRun
    go_simp
    exact ⟨Ext.refl _, rfl⟩
  refine end4 (fun u0 u1 u2 u3 w4 E4 f0 f1 f2 f3 => ?_)
  cases f0
  cases f1
  cases f2
  cases f3
  replace B1 := B1.ext E4
  replace B2 := B2.ext E4
  replace B3 := B3.ext E4
  replace B4 := B4.ext E4
  refine wpList_nil (then_normal ?_)
  refine wp_frame (a' := ⟨#[.agg #[.int .u64 x0, .int .u64 y0], .agg #[.int .u64 x1, .int .u64 y1], .pointer (some ⟨g1, 0, none⟩), .pointer (some ⟨g2, 0, none⟩), .bool false, .pointer (some ⟨g3, 0, none⟩), .pointer (some ⟨g4, 0, none⟩), .agg #[.int .u64 x0, .int .u64 y0], .agg #[.int .u64 x0, .int .u64 y0], .agg #[.int .u64 x1, .int .u64 y1], .agg #[.int .u64 x1, .int .u64 y1], .agg #[.int .u64 (bits BinOp.or IntKind.u64 x0 x1), .int .u64 (bits BinOp.and IntKind.u64 (bits BinOp.or IntKind.u64 y0 y1) 68719476735)], .agg #[.int .u64 x0, .int .u64 y0], .agg #[.int .u64 x0, .int .u64 y0], .agg #[.int .u64 x1, .int .u64 y1], .agg #[.int .u64 x1, .int .u64 y1], .agg #[.int .u64 (bits BinOp.or IntKind.u64 x0 x1), .int .u64 (bits BinOp.and IntKind.u64 (bits BinOp.or IntKind.u64 y0 y1) 68719476735)], .agg #[.int .u64 (bits BinOp.or IntKind.u64 x0 x1), .int .u64 (bits BinOp.and IntKind.u64 (bits BinOp.or IntKind.u64 y0 y1) 68719476735)], .agg #[.int .u64 (bits BinOp.or IntKind.u64 x0 x1), .int .u64 (bits BinOp.and IntKind.u64 (bits BinOp.or IntKind.u64 y0 y1) 68719476735)], .bool true, .bool false], []⟩) (by kernel_rfl) ?_
  refine wp_cond_false rfl ?_
  refine wp_skip (then_normal ?_)
  refine wp_seq ?_
  refine seq_go 1 [4] [[]]
    (fun i => ([.val (.bool true)] : List Fct).getD i .any)
    (by kernel_rfl) (by decide) (by simp) rfl (all_succ all_zero ?_) ?_
  · refine step0 rfl rfl rfl (fun wr hw => ?_)
    unfold OpRun
    go_simp
    exact ⟨Ext.refl _, rfl⟩
  refine end1 (fun u0 w5 E5 f0 => ?_)
  cases f0
  replace B1 := B1.ext E5
  replace B2 := B2.ext E5
  replace B3 := B3.ext E5
  replace B4 := B4.ext E5
  refine wpList_nil (then_normal ?_)
  refine wp_frame (a' := ⟨#[.agg #[.int .u64 x0, .int .u64 y0], .agg #[.int .u64 x1, .int .u64 y1], .pointer (some ⟨g1, 0, none⟩), .pointer (some ⟨g2, 0, none⟩), .bool true, .pointer (some ⟨g3, 0, none⟩), .pointer (some ⟨g4, 0, none⟩), .agg #[.int .u64 x0, .int .u64 y0], .agg #[.int .u64 x0, .int .u64 y0], .agg #[.int .u64 x1, .int .u64 y1], .agg #[.int .u64 x1, .int .u64 y1], .agg #[.int .u64 (bits BinOp.or IntKind.u64 x0 x1), .int .u64 (bits BinOp.and IntKind.u64 (bits BinOp.or IntKind.u64 y0 y1) 68719476735)], .agg #[.int .u64 x0, .int .u64 y0], .agg #[.int .u64 x0, .int .u64 y0], .agg #[.int .u64 x1, .int .u64 y1], .agg #[.int .u64 x1, .int .u64 y1], .agg #[.int .u64 (bits BinOp.or IntKind.u64 x0 x1), .int .u64 (bits BinOp.and IntKind.u64 (bits BinOp.or IntKind.u64 y0 y1) 68719476735)], .agg #[.int .u64 (bits BinOp.or IntKind.u64 x0 x1), .int .u64 (bits BinOp.and IntKind.u64 (bits BinOp.or IntKind.u64 y0 y1) 68719476735)], .agg #[.int .u64 (bits BinOp.or IntKind.u64 x0 x1), .int .u64 (bits BinOp.and IntKind.u64 (bits BinOp.or IntKind.u64 y0 y1) 68719476735)], .bool true, .bool false], []⟩) (by kernel_rfl) ?_
  refine wp_ret ?_
  refine bodyPost_ret (results_tmp rfl _ _ _) rfl ⟨rfl, ?_⟩
  exact ((((((Ext.refl w).trans E1).trans E2s).trans E3s).trans E4).trans E5)
--# law WithoutOf
theorem FnExactWithoutOf_walk (x0 y0 : Int) (x1 y1 : Int) (w : World) :
    Calls Try.prog 10 #[.agg #[.int .u64 x0, .int .u64 y0], .agg #[.int .u64 x1, .int .u64 y1]] w fun e w' => e = .returned (.bool true) ∧ Ext w w' := by
  refine calls_of_wp Try.func10 rfl ?_
  refine wp_frame (a' := ⟨#[.agg #[.int .u64 x0, .int .u64 y0], .agg #[.int .u64 x1, .int .u64 y1], undef, undef, undef, undef, undef, undef, undef, undef, undef, undef, undef, undef, undef, undef, undef, undef, undef, undef, undef], []⟩) (by kernel_rfl) ?_
  refine wp_seq ?_
  refine seq_go 3 [2, 3, 4] [[], [], []]
    (fun i => ([.ptr w.heap.size 31 #[.int .u64 x0, .int .u64 y0], .ptr w.heap.size 31 #[.int .u64 x1, .int .u64 y1], .val (.bool false)] : List Fct).getD i .any)
    (by kernel_rfl) (by decide) (by simp) rfl (all_succ (all_succ (all_succ all_zero ?_) ?_) ?_) ?_
  · refine step0 rfl rfl rfl (fun wr hw => ?_)
    unfold OpRun
    go_simp
    exact ⟨(Ext.refl _).alloc _, _, rfl, hw.size, Blk.new _ _ _⟩
  · refine step0 rfl rfl rfl (fun wr hw => ?_)
    unfold OpRun
    go_simp
    exact ⟨(Ext.refl _).alloc _, _, rfl, hw.size, Blk.new _ _ _⟩
  · refine step0 rfl rfl rfl (fun wr hw => ?_)
    unfold OpRun
    go_simp
    exact ⟨Ext.refl _, rfl⟩
  refine end3 (fun u0 u1 u2 w1 E1 f0 f1 f2 => ?_)
  obtain ⟨g1, rfl, hgg1, B1⟩ := f0
  obtain ⟨g2, rfl, hgg2, B2⟩ := f1
  cases f2
  refine wpList_nil (then_normal ?_)
  refine wp_frame (a' := ⟨#[.agg #[.int .u64 x0, .int .u64 y0], .agg #[.int .u64 x1, .int .u64 y1], .pointer (some ⟨g1, 0, none⟩), .pointer (some ⟨g2, 0, none⟩), .bool false, undef, undef, undef, undef, undef, undef, undef, undef, undef, undef, undef, undef, undef, undef, undef, undef], []⟩) (by kernel_rfl) ?_
  refine wp_seq ?_
  refine region_go 6 [7, 8, 9, 10, 11, 5] [[], [0], [], [2], [1, 3], []]
    (fun i => ([.val (.agg #[.int .u64 x0, .int .u64 y0]), .val (.agg #[.int .u64 x0, .int .u64 y0]), .val (.agg #[.int .u64 x1, .int .u64 y1]), .val (.agg #[.int .u64 x1, .int .u64 y1]), .val (.agg #[.int .u64 (bits BinOp.andNot IntKind.u64 x0 x1), .int .u64 (bits BinOp.and IntKind.u64 (bits BinOp.andNot IntKind.u64 y0 y1) 68719476735)]), .ptr w1.heap.size 33 #[.int .u64 0, .int .u64 0]] : List Fct).getD i .any)
    (by kernel_rfl) (by kernel_rfl) (by decide) (by simp) rfl (all_succ (all_succ (all_succ (all_succ (all_succ (all_succ all_zero ?_) ?_) ?_) ?_) ?_) ?_) ?_
  · refine step0 rfl rfl rfl (fun wr hw => ?_)
    with_reducible refine OpRun.row (x := (.tmp 2)) row__2_uint64 (B1.ext hw) ?_ ?_ ?_ ?_
    · rfl
    · rfl
    · kernel_rfl
    · exact ⟨Ext.refl _, rfl⟩
  · refine step1 rfl rfl rfl rfl (fun u0 wr hw h0 => ?_)
    cases h0
    unfold OpRun
    go_simp
    exact (toCells_any _ _ _).mono fun e w1 ⟨he, hb⟩ => ⟨_, he, hb, rfl⟩
  · refine step0 rfl rfl rfl (fun wr hw => ?_)
    with_reducible refine OpRun.row (x := (.tmp 3)) row__2_uint64 (B2.ext hw) ?_ ?_ ?_ ?_
    · rfl
    · rfl
    · kernel_rfl
    · exact ⟨Ext.refl _, rfl⟩
  · refine step1 rfl rfl rfl rfl (fun u0 wr hw h0 => ?_)
    cases h0
    unfold OpRun
    go_simp
    exact (toCells_any _ _ _).mono fun e w1 ⟨he, hb⟩ => ⟨_, he, hb, rfl⟩
  · refine step2 rfl rfl rfl rfl rfl (fun u0 u1 wr hw h0 h1 => ?_)
    cases h0
    cases h1
    unfold OpRun
    go_simp
    exact (sWithoutOf_any _ _ _ _ _).mono fun e w1 ⟨he, hb⟩ => ⟨_, he, hb, rfl⟩
  · refine step0 rfl rfl rfl (fun wr hw => ?_)
    unfold OpRun
    go_simp
    exact ⟨(Ext.refl _).alloc _, _, rfl, hw.size, Blk.new _ _ _⟩
  refine end6 (fun u0 u1 u2 u3 u4 u5 w2 E2 f0 f1 f2 f3 f4 f5 => ?_)
  cases f0
  cases f1
  cases f2
  cases f3
  cases f4
  obtain ⟨g3, rfl, hgg3, B3⟩ := f5
  refine wpList_cons_eq rfl ?_
  with_reducible refine wpList_put 33 (.tmp 5) (.tmp 11) g3 33 #[.int .u64 0, .int .u64 0] #[.int .u64 (bits BinOp.andNot IntKind.u64 x0 x1), .int .u64 (bits BinOp.and IntKind.u64 (bits BinOp.andNot IntKind.u64 y0 y1) 68719476735)] B3 ?_ ?_ ?_ ?_ ?_ ?_ ?_ ?_
  · rfl
  · rfl
  · kernel_rfl
  · kernel_rfl
  · kernel_rfl
  · rfl
  · kernel_rfl
  clear B3
  intro w2s B3 hx hk hz
  have E2s := hx w1 hgg3 E2
  clear hx hk hz
  replace B1 := B1.ext E2s
  replace B2 := B2.ext E2s
  refine wpList_nil (then_normal ?_)
  refine wp_frame (a' := ⟨#[.agg #[.int .u64 x0, .int .u64 y0], .agg #[.int .u64 x1, .int .u64 y1], .pointer (some ⟨g1, 0, none⟩), .pointer (some ⟨g2, 0, none⟩), .bool false, .pointer (some ⟨g3, 0, none⟩), undef, .agg #[.int .u64 x0, .int .u64 y0], .agg #[.int .u64 x0, .int .u64 y0], .agg #[.int .u64 x1, .int .u64 y1], .agg #[.int .u64 x1, .int .u64 y1], .agg #[.int .u64 (bits BinOp.andNot IntKind.u64 x0 x1), .int .u64 (bits BinOp.and IntKind.u64 (bits BinOp.andNot IntKind.u64 y0 y1) 68719476735)], undef, undef, undef, undef, undef, undef, undef, undef, undef], []⟩) (by kernel_rfl) ?_
  refine wp_seq ?_
  refine region_go 6 [12, 13, 14, 15, 16, 6] [[], [0], [], [2], [1, 3], []]
    (fun i => ([.val (.agg #[.int .u64 x0, .int .u64 y0]), .val (.agg #[.int .u64 x0, .int .u64 y0]), .val (.agg #[.int .u64 x1, .int .u64 y1]), .val (.agg #[.int .u64 x1, .int .u64 y1]), .val (.agg #[.int .u64 (bits BinOp.andNot IntKind.u64 x0 x1), .int .u64 (bits BinOp.and IntKind.u64 (bits BinOp.andNot IntKind.u64 y0 y1) 68719476735)]), .ptr w2s.heap.size 33 #[.int .u64 0, .int .u64 0]] : List Fct).getD i .any)
    (by kernel_rfl) (by kernel_rfl) (by decide) (by simp) rfl (all_succ (all_succ (all_succ (all_succ (all_succ (all_succ all_zero ?_) ?_) ?_) ?_) ?_) ?_) ?_
  · refine step0 rfl rfl rfl (fun wr hw => ?_)
    with_reducible refine OpRun.row (x := (.tmp 2)) row__2_uint64 (B1.ext hw) ?_ ?_ ?_ ?_
    · rfl
    · rfl
    · kernel_rfl
    · exact ⟨Ext.refl _, rfl⟩
  · refine step1 rfl rfl rfl rfl (fun u0 wr hw h0 => ?_)
    cases h0
    unfold OpRun
    go_simp
    exact (toCells_any _ _ _).mono fun e w1 ⟨he, hb⟩ => ⟨_, he, hb, rfl⟩
  · refine step0 rfl rfl rfl (fun wr hw => ?_)
    with_reducible refine OpRun.row (x := (.tmp 3)) row__2_uint64 (B2.ext hw) ?_ ?_ ?_ ?_
    · rfl
    · rfl
    · kernel_rfl
    · exact ⟨Ext.refl _, rfl⟩
  · refine step1 rfl rfl rfl rfl (fun u0 wr hw h0 => ?_)
    cases h0
    unfold OpRun
    go_simp
    exact (toCells_any _ _ _).mono fun e w1 ⟨he, hb⟩ => ⟨_, he, hb, rfl⟩
  · refine step2 rfl rfl rfl rfl rfl (fun u0 u1 wr hw h0 h1 => ?_)
    cases h0
    cases h1
    unfold OpRun
    go_simp
    exact (iWithoutOf_any _ _ _ _ _).mono fun e w1 ⟨he, hb⟩ => ⟨_, he, hb, rfl⟩
  · refine step0 rfl rfl rfl (fun wr hw => ?_)
    unfold OpRun
    go_simp
    exact ⟨(Ext.refl _).alloc _, _, rfl, hw.size, Blk.new _ _ _⟩
  refine end6 (fun u0 u1 u2 u3 u4 u5 w3 E3 f0 f1 f2 f3 f4 f5 => ?_)
  cases f0
  cases f1
  cases f2
  cases f3
  cases f4
  obtain ⟨g4, rfl, hgg4, B4⟩ := f5
  refine wpList_cons_eq rfl ?_
  with_reducible refine wpList_put 33 (.tmp 6) (.tmp 16) g4 33 #[.int .u64 0, .int .u64 0] #[.int .u64 (bits BinOp.andNot IntKind.u64 x0 x1), .int .u64 (bits BinOp.and IntKind.u64 (bits BinOp.andNot IntKind.u64 y0 y1) 68719476735)] B4 ?_ ?_ ?_ ?_ ?_ ?_ ?_ ?_
  · rfl
  · rfl
  · kernel_rfl
  · kernel_rfl
  · kernel_rfl
  · rfl
  · kernel_rfl
  clear B4
  intro w3s B4 hx hk hz
  have E3s := hx w2s hgg4 E3
  clear hx hk hz
  replace B1 := B1.ext E3s
  replace B2 := B2.ext E3s
  replace B3 := B3.ext E3s
  refine wpList_nil (then_normal ?_)
  refine wp_frame (a' := ⟨#[.agg #[.int .u64 x0, .int .u64 y0], .agg #[.int .u64 x1, .int .u64 y1], .pointer (some ⟨g1, 0, none⟩), .pointer (some ⟨g2, 0, none⟩), .bool false, .pointer (some ⟨g3, 0, none⟩), .pointer (some ⟨g4, 0, none⟩), .agg #[.int .u64 x0, .int .u64 y0], .agg #[.int .u64 x0, .int .u64 y0], .agg #[.int .u64 x1, .int .u64 y1], .agg #[.int .u64 x1, .int .u64 y1], .agg #[.int .u64 (bits BinOp.andNot IntKind.u64 x0 x1), .int .u64 (bits BinOp.and IntKind.u64 (bits BinOp.andNot IntKind.u64 y0 y1) 68719476735)], .agg #[.int .u64 x0, .int .u64 y0], .agg #[.int .u64 x0, .int .u64 y0], .agg #[.int .u64 x1, .int .u64 y1], .agg #[.int .u64 x1, .int .u64 y1], .agg #[.int .u64 (bits BinOp.andNot IntKind.u64 x0 x1), .int .u64 (bits BinOp.and IntKind.u64 (bits BinOp.andNot IntKind.u64 y0 y1) 68719476735)], undef, undef, undef, undef], []⟩) (by kernel_rfl) ?_
  refine wp_seq ?_
  refine wp_seq ?_
  refine seq_go 4 [17, 18, 19, 20] [[], [], [0, 1], [2]]
    (fun i => ([.val (.agg #[.int .u64 (bits BinOp.andNot IntKind.u64 x0 x1), .int .u64 (bits BinOp.and IntKind.u64 (bits BinOp.andNot IntKind.u64 y0 y1) 68719476735)]), .val (.agg #[.int .u64 (bits BinOp.andNot IntKind.u64 x0 x1), .int .u64 (bits BinOp.and IntKind.u64 (bits BinOp.andNot IntKind.u64 y0 y1) 68719476735)]), .val (.bool true), .val (.bool false)] : List Fct).getD i .any)
    (by kernel_rfl) (by decide) (by simp) rfl (all_succ (all_succ (all_succ (all_succ all_zero ?_) ?_) ?_) ?_) ?_
  · refine step0 rfl rfl rfl (fun wr hw => ?_)
    with_reducible refine OpRun.row (x := (.tmp 6)) row_impl_Cells (B4.ext hw) ?_ ?_ ?_ ?_
    · rfl
    · rfl
    · kernel_rfl
    · exact ⟨Ext.refl _, rfl⟩
  · refine step0 rfl rfl rfl (fun wr hw => ?_)
    with_reducible refine OpRun.row (x := (.tmp 5)) row_impl_Cells (B3.ext hw) ?_ ?_ ?_ ?_
    · rfl
    · rfl
    · kernel_rfl
    · exact ⟨Ext.refl _, rfl⟩
  · refine step2 rfl rfl rfl rfl rfl (fun u0 u1 wr hw h0 h1 => ?_)
    cases h0
    cases h1
    unfold OpRun
    go_simp
    exact (eqCells_same _ _ _).mono fun e w1 ⟨he, hb⟩ => ⟨_, he, hb, rfl⟩
  · refine step1 rfl rfl rfl rfl (fun u0 wr hw h0 => ?_)
    cases h0
    unfold OpRun
    go_simp
    exact ⟨Ext.refl _, rfl⟩
  refine end4 (fun u0 u1 u2 u3 w4 E4 f0 f1 f2 f3 => ?_)
  cases f0
  cases f1
  cases f2
  cases f3
  replace B1 := B1.ext E4
  replace B2 := B2.ext E4
  replace B3 := B3.ext E4
  replace B4 := B4.ext E4
  refine wpList_nil (then_normal ?_)
  refine wp_frame (a' := ⟨#[.agg #[.int .u64 x0, .int .u64 y0], .agg #[.int .u64 x1, .int .u64 y1], .pointer (some ⟨g1, 0, none⟩), .pointer (some ⟨g2, 0, none⟩), .bool false, .pointer (some ⟨g3, 0, none⟩), .pointer (some ⟨g4, 0, none⟩), .agg #[.int .u64 x0, .int .u64 y0], .agg #[.int .u64 x0, .int .u64 y0], .agg #[.int .u64 x1, .int .u64 y1], .agg #[.int .u64 x1, .int .u64 y1], .agg #[.int .u64 (bits BinOp.andNot IntKind.u64 x0 x1), .int .u64 (bits BinOp.and IntKind.u64 (bits BinOp.andNot IntKind.u64 y0 y1) 68719476735)], .agg #[.int .u64 x0, .int .u64 y0], .agg #[.int .u64 x0, .int .u64 y0], .agg #[.int .u64 x1, .int .u64 y1], .agg #[.int .u64 x1, .int .u64 y1], .agg #[.int .u64 (bits BinOp.andNot IntKind.u64 x0 x1), .int .u64 (bits BinOp.and IntKind.u64 (bits BinOp.andNot IntKind.u64 y0 y1) 68719476735)], .agg #[.int .u64 (bits BinOp.andNot IntKind.u64 x0 x1), .int .u64 (bits BinOp.and IntKind.u64 (bits BinOp.andNot IntKind.u64 y0 y1) 68719476735)], .agg #[.int .u64 (bits BinOp.andNot IntKind.u64 x0 x1), .int .u64 (bits BinOp.and IntKind.u64 (bits BinOp.andNot IntKind.u64 y0 y1) 68719476735)], .bool true, .bool false], []⟩) (by kernel_rfl) ?_
  refine wp_cond_false rfl ?_
  refine wp_skip (then_normal ?_)
  refine wp_seq ?_
  refine seq_go 1 [4] [[]]
    (fun i => ([.val (.bool true)] : List Fct).getD i .any)
    (by kernel_rfl) (by decide) (by simp) rfl (all_succ all_zero ?_) ?_
  · refine step0 rfl rfl rfl (fun wr hw => ?_)
    unfold OpRun
    go_simp
    exact ⟨Ext.refl _, rfl⟩
  refine end1 (fun u0 w5 E5 f0 => ?_)
  cases f0
  replace B1 := B1.ext E5
  replace B2 := B2.ext E5
  replace B3 := B3.ext E5
  replace B4 := B4.ext E5
  refine wpList_nil (then_normal ?_)
  refine wp_frame (a' := ⟨#[.agg #[.int .u64 x0, .int .u64 y0], .agg #[.int .u64 x1, .int .u64 y1], .pointer (some ⟨g1, 0, none⟩), .pointer (some ⟨g2, 0, none⟩), .bool true, .pointer (some ⟨g3, 0, none⟩), .pointer (some ⟨g4, 0, none⟩), .agg #[.int .u64 x0, .int .u64 y0], .agg #[.int .u64 x0, .int .u64 y0], .agg #[.int .u64 x1, .int .u64 y1], .agg #[.int .u64 x1, .int .u64 y1], .agg #[.int .u64 (bits BinOp.andNot IntKind.u64 x0 x1), .int .u64 (bits BinOp.and IntKind.u64 (bits BinOp.andNot IntKind.u64 y0 y1) 68719476735)], .agg #[.int .u64 x0, .int .u64 y0], .agg #[.int .u64 x0, .int .u64 y0], .agg #[.int .u64 x1, .int .u64 y1], .agg #[.int .u64 x1, .int .u64 y1], .agg #[.int .u64 (bits BinOp.andNot IntKind.u64 x0 x1), .int .u64 (bits BinOp.and IntKind.u64 (bits BinOp.andNot IntKind.u64 y0 y1) 68719476735)], .agg #[.int .u64 (bits BinOp.andNot IntKind.u64 x0 x1), .int .u64 (bits BinOp.and IntKind.u64 (bits BinOp.andNot IntKind.u64 y0 y1) 68719476735)], .agg #[.int .u64 (bits BinOp.andNot IntKind.u64 x0 x1), .int .u64 (bits BinOp.and IntKind.u64 (bits BinOp.andNot IntKind.u64 y0 y1) 68719476735)], .bool true, .bool false], []⟩) (by kernel_rfl) ?_
  refine wp_ret ?_
  refine bodyPost_ret (results_tmp rfl _ _ _) rfl ⟨rfl, ?_⟩
  exact ((((((Ext.refl w).trans E1).trans E2s).trans E3s).trans E4).trans E5)
end Go.Proofs.Ythmdcnoockoggaa
