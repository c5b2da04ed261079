/-
  Contracts: validity, codes. No conditions.
-/
import Derived.Test.YtjnlbincgakmpaaTy
import Derived.Test.YtjnlbincgakmpaaMth
import Derived.Test.YtjnlbincgakmpaaFn1
namespace Go.Proofs.Ytjnlbincgakmpaa
open Go.RowKit
set_option linter.unusedSimpArgs false
set_option linter.unusedVariables false
set_option maxHeartbeats 4000000
attribute [local irreducible] wpList Code.wp
--# iValidField_any
theorem iValidField_any (F : Fld) (hF : F.wf) (w : World) :
 Calls Try.prog 25 #[.agg F.cells] w fun e w' => e = .returned (.bool (okB F)) ∧ Ext w w' := by
  have w1_ := hF.w1
  have w2_ := hF.w2
  have h1_ := hF.h1
  have h2_ := hF.h2
  refine calls_of_wp Try.func25 rfl ?_
  refine wp_frame (a' := ⟨#[.agg F.cells, undef, undef, undef, undef, undef, undef, undef, undef, undef, undef, undef, undef, undef, undef, undef, undef, undef, undef, undef, undef, undef, undef, undef, undef, undef, undef, undef, undef, undef, undef, undef, undef, undef, undef, undef, undef, undef, undef, undef, undef, undef, undef, undef, undef, undef, undef, undef, undef, undef, undef, undef, undef, undef, undef, undef, undef, undef, undef, undef, undef, undef, undef, undef, undef, undef, undef], []⟩) (by kernel_rfl) ?_
  refine wp_seq ?_
  refine wp_region_lit ?_
  refine wpl_box (v := .agg F.cells) F.cells rfl (by kernel_rfl) rfl (by kernel_rfl) rfl ?_
  intro g1 w1 B1 E1 hg_
  have lo_g1 : w.heap.size ≤ g1 := Nat.le_trans ((Ext.refl w)).size hg_
  clear hg_
  have H1 := ((Ext.refl w)).trans E1
  clear E1
  refine wpl_val (.bool false) (.bool false) rfl (by kernel_rfl) (by kernel_rfl) rfl ?_
  refine wpList_nil ?_
  refine then_normal ?_
  refine wp_frame (a' := ⟨#[.agg F.cells, .pointer (some ⟨g1, 0, none⟩), .bool false, undef, undef, undef, undef, undef, undef, undef, undef, undef, undef, undef, undef, undef, undef, undef, undef, undef, undef, undef, undef, undef, undef, undef, undef, undef, undef, undef, undef, undef, undef, undef, undef, undef, undef, undef, undef, undef, undef, undef, undef, undef, undef, undef, undef, undef, undef, undef, undef, undef, undef, undef, undef, undef, undef, undef, undef, undef, undef, undef, undef, undef, undef, undef, undef], []⟩) (by kernel_rfl) ?_
  refine wp_seq ?_
  refine wp_seq ?_
  refine wp_region_lit ?_
  refine wpl_val (.pointer (some ⟨g1, 0, none⟩)) (.pointer (some ⟨g1, 0, none⟩)) rfl (by kernel_rfl) (by kernel_rfl) rfl ?_
  refine wpl_cell (g := g1) (off := 0) (.int .i8 F.w) rfl (by kernel_rfl) scal_int8 rfl (by kernel_rfl) (by rw [B1.cell]; exact Fld.get0 _) ?_
  refine wpl_val (.int .i64 (IntKind.i64.wrap F.w)) (.int .i64 F.w) rfl (by kernel_rfl) (by kernel_rfl) (by exact congrArg _ (IntWalk.i64_in _ (by omega))) ?_
  refine wpl_call (53) #[.int .i64 F.w, .int .i64 1, .int .i64 10] rfl (by kernel_rfl) (by kernel_rfl) (within_any _ _ _ _) ?_
  intro w2 E2
  replace B1 := B1.ext E2
  have H2 := (H1).trans E2
  clear E2
  refine wpl_val (.bool (!(inB F.w 1 10))) (.bool (!(inB F.w 1 10))) rfl (by kernel_rfl) (by kernel_rfl) rfl ?_
  refine wpl_val (.bool (!(inB F.w 1 10))) (.bool (!(inB F.w 1 10))) rfl (by kernel_rfl) (by kernel_rfl) rfl ?_
  refine wpl_frame (a' := ⟨#[.agg F.cells, .pointer (some ⟨g1, 0, none⟩), .bool false, undef, undef, undef, .pointer (some ⟨g1, 0, none⟩), .int .i8 F.w, .int .i64 F.w, .bool (inB F.w 1 10), .bool (!(inB F.w 1 10)), .bool (!(inB F.w 1 10)), undef, undef, undef, undef, undef, undef, undef, undef, undef, undef, undef, undef, undef, undef, undef, undef, undef, undef, undef, undef, undef, undef, undef, undef, undef, undef, undef, undef, undef, undef, undef, undef, undef, undef, undef, undef, undef, undef, undef, undef, undef, undef, undef, undef, undef, undef, undef, undef, undef, undef, undef, undef, undef, undef, undef], []⟩) (by kernel_rfl) ?_
  refine split_bool (inB F.w 1 10) (fun h1 => ?_) (fun h1 => ?_)
  · skip
    refine wpl_frame (a' := ⟨#[.agg F.cells, .pointer (some ⟨g1, 0, none⟩), .bool false, undef, undef, undef, .pointer (some ⟨g1, 0, none⟩), .int .i8 F.w, .int .i64 F.w, .bool true, .bool false, .bool false, undef, undef, undef, undef, undef, undef, undef, undef, undef, undef, undef, undef, undef, undef, undef, undef, undef, undef, undef, undef, undef, undef, undef, undef, undef, undef, undef, undef, undef, undef, undef, undef, undef, undef, undef, undef, undef, undef, undef, undef, undef, undef, undef, undef, undef, undef, undef, undef, undef, undef, undef, undef, undef, undef, undef], []⟩) (by simp only [h1, Bool.not_true, Bool.not_false]) ?_
    have hk1 := h1
    try simp only [decide_eq_true_eq, decide_eq_false_iff_not, Bool.and_eq_true, Bool.or_eq_true, Bool.and_eq_false_iff, Bool.or_eq_false_iff, Bool.not_eq_true', Bool.not_eq_false', beq_iff_eq, beq_eq_false_iff_ne, bne_iff_ne, bne_eq_false_iff_eq, gt_iff_lt, ge_iff_le, ne_eq, Decidable.not_not, Int.not_lt, Int.not_le, inB] at h1
    refine wpl_val (.pointer (some ⟨g1, 1, none⟩)) (.pointer (some ⟨g1, 1, none⟩)) rfl (by kernel_rfl) (by kernel_rfl) rfl ?_
    refine wpl_cell (g := g1) (off := 1) (.int .i8 F.h) rfl (by kernel_rfl) scal_int8 rfl (by kernel_rfl) (by rw [B1.cell]; exact Fld.get1 _) ?_
    refine wpl_val (.int .i64 (IntKind.i64.wrap F.h)) (.int .i64 F.h) rfl (by kernel_rfl) (by kernel_rfl) (by exact congrArg _ (IntWalk.i64_in _ (by omega))) ?_
    refine wpl_call (53) #[.int .i64 F.h, .int .i64 1, .int .i64 10] rfl (by kernel_rfl) (by kernel_rfl) (within_any _ _ _ _) ?_
    intro w3 E3
    replace B1 := B1.ext E3
    have H3 := (H2).trans E3
    clear E3
    refine wpl_val (.bool (!(inB F.h 1 10))) (.bool (!(inB F.h 1 10))) rfl (by kernel_rfl) (by kernel_rfl) rfl ?_
    refine wpl_val (.bool (!(inB F.h 1 10))) (.bool (!(inB F.h 1 10))) rfl (by kernel_rfl) (by kernel_rfl) rfl ?_
    refine wpList_nil ?_
    refine then_normal ?_
    refine wp_frame (a' := ⟨#[.agg F.cells, .pointer (some ⟨g1, 0, none⟩), .bool false, undef, undef, undef, .pointer (some ⟨g1, 0, none⟩), .int .i8 F.w, .int .i64 F.w, .bool true, .bool false, .bool false, .pointer (some ⟨g1, 1, none⟩), .int .i8 F.h, .int .i64 F.h, .bool (inB F.h 1 10), .bool (!(inB F.h 1 10)), .bool (!(inB F.h 1 10)), undef, undef, undef, undef, undef, undef, undef, undef, undef, undef, undef, undef, undef, undef, undef, undef, undef, undef, undef, undef, undef, undef, undef, undef, undef, undef, undef, undef, undef, undef, undef, undef, undef, undef, undef, undef, undef, undef, undef, undef, undef, undef, undef, undef, undef, undef, undef, undef, undef], []⟩) (by kernel_rfl) ?_
    refine wp_cond_split (t := !(inB F.h 1 10)) rfl (fun h2 => ?_) (fun h2 => ?_)
    · skip
      simp only [Bool.not_eq_true', Bool.not_eq_false'] at h2
      have hk2 := h2
      try simp only [decide_eq_true_eq, decide_eq_false_iff_not, Bool.and_eq_true, Bool.or_eq_true, Bool.and_eq_false_iff, Bool.or_eq_false_iff, Bool.not_eq_true', Bool.not_eq_false', beq_iff_eq, beq_eq_false_iff_ne, bne_iff_ne, bne_eq_false_iff_eq, gt_iff_lt, ge_iff_le, ne_eq, Decidable.not_not, Int.not_lt, Int.not_le, inB] at h2
      refine wp_seq ?_
      refine wp_region_lit ?_
      refine wpl_val (.bool false) (.bool false) rfl (by kernel_rfl) (by kernel_rfl) rfl ?_
      refine wpl_frame (a' := ⟨#[.agg F.cells, .pointer (some ⟨g1, 0, none⟩), .bool false, undef, undef, undef, .pointer (some ⟨g1, 0, none⟩), .int .i8 F.w, .int .i64 F.w, .bool true, .bool false, .bool false, .pointer (some ⟨g1, 1, none⟩), .int .i8 F.h, .int .i64 F.h, .bool (inB F.h 1 10), .bool (!(inB F.h 1 10)), .bool (!(inB F.h 1 10)), undef, undef, undef, undef, undef, undef, undef, undef, undef, undef, undef, undef, undef, undef, undef, undef, undef, undef, undef, undef, undef, undef, undef, undef, undef, undef, undef, undef, undef, undef, undef, undef, undef, undef, undef, undef, undef, undef, undef, undef, undef, undef, undef, undef, undef, undef, undef, undef, undef], []⟩) (by kernel_rfl) ?_
      refine wpl_frame (a' := ⟨#[.agg F.cells, .pointer (some ⟨g1, 0, none⟩), .bool false, undef, undef, undef, .pointer (some ⟨g1, 0, none⟩), .int .i8 F.w, .int .i64 F.w, .bool true, .bool false, .bool false, .pointer (some ⟨g1, 1, none⟩), .int .i8 F.h, .int .i64 F.h, .bool false, .bool (!(inB F.h 1 10)), .bool (!(inB F.h 1 10)), undef, undef, undef, undef, undef, undef, undef, undef, undef, undef, undef, undef, undef, undef, undef, undef, undef, undef, undef, undef, undef, undef, undef, undef, undef, undef, undef, undef, undef, undef, undef, undef, undef, undef, undef, undef, undef, undef, undef, undef, undef, undef, undef, undef, undef, undef, undef, undef, undef], []⟩) (by simp only [hk2, Bool.not_true, Bool.not_false]) ?_
      refine wpList_nil ?_
      refine then_normal ?_
      refine wp_frame (a' := ⟨#[.agg F.cells, .pointer (some ⟨g1, 0, none⟩), .bool false, undef, undef, undef, .pointer (some ⟨g1, 0, none⟩), .int .i8 F.w, .int .i64 F.w, .bool true, .bool false, .bool false, .pointer (some ⟨g1, 1, none⟩), .int .i8 F.h, .int .i64 F.h, .bool false, .bool (!(inB F.h 1 10)), .bool (!(inB F.h 1 10)), undef, undef, undef, undef, undef, undef, undef, undef, undef, undef, undef, undef, undef, undef, undef, undef, undef, undef, undef, undef, undef, undef, undef, undef, undef, undef, undef, undef, undef, undef, undef, undef, undef, undef, undef, undef, undef, undef, undef, undef, undef, undef, undef, undef, undef, undef, undef, undef, undef], []⟩) (by kernel_rfl) ?_
      refine wp_ret ?_
      refine then_ret ?_
      refine body_frame (a' := ⟨#[.agg F.cells, .pointer (some ⟨g1, 0, none⟩), .bool false, undef, undef, undef, .pointer (some ⟨g1, 0, none⟩), .int .i8 F.w, .int .i64 F.w, .bool true, .bool false, .bool false, .pointer (some ⟨g1, 1, none⟩), .int .i8 F.h, .int .i64 F.h, .bool false, .bool (!(inB F.h 1 10)), .bool (!(inB F.h 1 10)), undef, undef, undef, undef, undef, undef, undef, undef, undef, undef, undef, undef, undef, undef, undef, undef, undef, undef, undef, undef, undef, undef, undef, undef, undef, undef, undef, undef, undef, undef, undef, undef, undef, undef, undef, undef, undef, undef, undef, undef, undef, undef, undef, undef, undef, undef, undef, undef, undef], []⟩) (by kernel_rfl) ?_
      refine ret1 (.bool (okB F)) rfl ?_ rfl ?_
      · show (.bool false : Value) = (.bool (okB F))
        refine congrArg Value.bool ?_
        first | exact (okB_w (by omega)).symm | exact (okB_h (by omega)).symm | exact (okB_true.2 ⟨by omega, by omega, by omega, by omega, fun j hj => hall j (by omega)⟩).symm | skip
        all_goals (refine (okB_c i (by omega) ?_).symm)
        all_goals (first | (rw [celB_in (by assumption)]; exact decide_eq_false (by omega)) | (rw [celB_out (by assumption)]; exact decide_eq_false (by omega)) | (cases hq_ : isB F (i : Int) with | false => (rw [celB_out hq_]; exact decide_eq_false (by omega)) | true => (rw [celB_in hq_]; exact decide_eq_false (by omega))))
      exact ⟨rfl, H3⟩
    · skip
      simp only [Bool.not_eq_true', Bool.not_eq_false'] at h2
      have hk3 := h2
      try simp only [decide_eq_true_eq, decide_eq_false_iff_not, Bool.and_eq_true, Bool.or_eq_true, Bool.and_eq_false_iff, Bool.or_eq_false_iff, Bool.not_eq_true', Bool.not_eq_false', beq_iff_eq, beq_eq_false_iff_ne, bne_iff_ne, bne_eq_false_iff_eq, gt_iff_lt, ge_iff_le, ne_eq, Decidable.not_not, Int.not_lt, Int.not_le, inB] at h2
      refine wp_skip ?_
      refine then_normal ?_
      refine wp_frame (a' := ⟨#[.agg F.cells, .pointer (some ⟨g1, 0, none⟩), .bool false, undef, undef, undef, .pointer (some ⟨g1, 0, none⟩), .int .i8 F.w, .int .i64 F.w, .bool true, .bool false, .bool false, .pointer (some ⟨g1, 1, none⟩), .int .i8 F.h, .int .i64 F.h, .bool (inB F.h 1 10), .bool (!(inB F.h 1 10)), .bool (!(inB F.h 1 10)), undef, undef, undef, undef, undef, undef, undef, undef, undef, undef, undef, undef, undef, undef, undef, undef, undef, undef, undef, undef, undef, undef, undef, undef, undef, undef, undef, undef, undef, undef, undef, undef, undef, undef, undef, undef, undef, undef, undef, undef, undef, undef, undef, undef, undef, undef, undef, undef, undef], []⟩) (by kernel_rfl) ?_
      refine wp_seq ?_
      refine wp_seq ?_
      refine wp_region_lit ?_
      refine wpl_val (.int .i64 0) (.int .i64 0) rfl (by kernel_rfl) (by kernel_rfl) rfl ?_
      refine wpl_frame (a' := ⟨#[.agg F.cells, .pointer (some ⟨g1, 0, none⟩), .bool false, undef, undef, undef, .pointer (some ⟨g1, 0, none⟩), .int .i8 F.w, .int .i64 F.w, .bool true, .bool false, .bool false, .pointer (some ⟨g1, 1, none⟩), .int .i8 F.h, .int .i64 F.h, .bool (inB F.h 1 10), .bool (!(inB F.h 1 10)), .bool (!(inB F.h 1 10)), .int .i64 0, undef, undef, undef, undef, undef, undef, undef, undef, undef, undef, undef, undef, undef, undef, undef, undef, undef, undef, undef, undef, undef, undef, undef, undef, undef, undef, undef, undef, undef, undef, undef, undef, undef, undef, undef, undef, undef, undef, undef, undef, undef, undef, undef, undef, undef, undef, undef, undef], []⟩) (by kernel_rfl) ?_
      refine wpl_frame (a' := ⟨#[.agg F.cells, .pointer (some ⟨g1, 0, none⟩), .bool false, undef, undef, undef, .pointer (some ⟨g1, 0, none⟩), .int .i8 F.w, .int .i64 F.w, .bool true, .bool false, .bool false, .pointer (some ⟨g1, 1, none⟩), .int .i8 F.h, .int .i64 F.h, .bool true, .bool (!(inB F.h 1 10)), .bool (!(inB F.h 1 10)), .int .i64 0, undef, undef, undef, undef, undef, undef, undef, undef, undef, undef, undef, undef, undef, undef, undef, undef, undef, undef, undef, undef, undef, undef, undef, undef, undef, undef, undef, undef, undef, undef, undef, undef, undef, undef, undef, undef, undef, undef, undef, undef, undef, undef, undef, undef, undef, undef, undef, undef], []⟩) (by simp only [hk3, Bool.not_true, Bool.not_false]) ?_
      refine wpList_nil ?_
      refine then_normal ?_
      refine wp_frame (a' := ⟨#[.agg F.cells, .pointer (some ⟨g1, 0, none⟩), .bool false, undef, undef, undef, .pointer (some ⟨g1, 0, none⟩), .int .i8 F.w, .int .i64 F.w, .bool true, .bool false, .bool false, .pointer (some ⟨g1, 1, none⟩), .int .i8 F.h, .int .i64 F.h, .bool true, .bool (!(inB F.h 1 10)), .bool (!(inB F.h 1 10)), .int .i64 0, undef, undef, undef, undef, undef, undef, undef, undef, undef, undef, undef, undef, undef, undef, undef, undef, undef, undef, undef, undef, undef, undef, undef, undef, undef, undef, undef, undef, undef, undef, undef, undef, undef, undef, undef, undef, undef, undef, undef, undef, undef, undef, undef, undef, undef, undef, undef, undef], []⟩) (by kernel_rfl) ?_
      refine wp_block ?_
      refine wp_loop_k (fun m1 a wl1 => ∃ (i : Nat) (J1 : Nat → Value), m1 = 100 - i ∧ i ≤ 100 ∧ (∀ j, j < i → celB F j = true) ∧ Ext w wl1 ∧ Blk wl1 g1 39 F.cells ∧ a = ⟨#[.agg F.cells, .pointer (some ⟨g1, 0, none⟩), J1 0, J1 1, J1 2, J1 3, .pointer (some ⟨g1, 0, none⟩), .int .i8 F.w, .int .i64 F.w, .bool true, .bool false, .bool false, .pointer (some ⟨g1, 1, none⟩), .int .i8 F.h, .int .i64 F.h, .bool true, .bool (!(inB F.h 1 10)), .bool (!(inB F.h 1 10)), .int .i64 (i : Int), J1 4, J1 5, J1 6, J1 7, J1 8, J1 9, J1 10, J1 11, J1 12, J1 13, J1 14, J1 15, J1 16, J1 17, J1 18, J1 19, J1 20, J1 21, J1 22, J1 23, J1 24, J1 25, J1 26, J1 27, J1 28, J1 29, J1 30, J1 31, J1 32, J1 33, J1 34, J1 35, J1 36, J1 37, J1 38, J1 39, J1 40, J1 41, J1 42, J1 43, J1 44, J1 45, J1 46, J1 47, J1 48, J1 49, J1 50, J1 51], []⟩) (100) ?_ ?_
      · refine ⟨0, fun i_ => ([.bool false, undef, undef, undef, undef, undef, undef, undef, undef, undef, undef, undef, undef, undef, undef, undef, undef, undef, undef, undef, undef, undef, undef, undef, undef, undef, undef, undef, undef, undef, undef, undef, undef, undef, undef, undef, undef, undef, undef, undef, undef, undef, undef, undef, undef, undef, undef, undef, undef, undef, undef, undef] : List Value).getD i_ undef, rfl, ?_, ?_, H3, ?_, by kernel_rfl⟩
        · omega
        · intro j hj; omega
        · exact B1
      intro m1 a wl1 hI
      obtain ⟨i, J1, rfl, hi_, hall, HL1, B1, rfl⟩ := hI
      have hk_ := hF.k1 i
      have hs_ := hF.s1 i
      refine wp_seq ?_
      refine wp_region_lit ?_
      refine wpl_val (.bool (decide ((i : Int) < 100))) (.bool (decide ((i : Int) < 100))) rfl (by kernel_rfl) (by kernel_rfl) rfl ?_
      refine wpList_nil ?_
      refine then_normal ?_
      refine wp_frame (a' := ⟨#[.agg F.cells, .pointer (some ⟨g1, 0, none⟩), J1 0, J1 1, J1 2, J1 3, .pointer (some ⟨g1, 0, none⟩), .int .i8 F.w, .int .i64 F.w, .bool true, .bool false, .bool false, .pointer (some ⟨g1, 1, none⟩), .int .i8 F.h, .int .i64 F.h, .bool true, .bool (!(inB F.h 1 10)), .bool (!(inB F.h 1 10)), .int .i64 (i : Int), .bool (decide ((i : Int) < 100)), J1 5, J1 6, J1 7, J1 8, J1 9, J1 10, J1 11, J1 12, J1 13, J1 14, J1 15, J1 16, J1 17, J1 18, J1 19, J1 20, J1 21, J1 22, J1 23, J1 24, J1 25, J1 26, J1 27, J1 28, J1 29, J1 30, J1 31, J1 32, J1 33, J1 34, J1 35, J1 36, J1 37, J1 38, J1 39, J1 40, J1 41, J1 42, J1 43, J1 44, J1 45, J1 46, J1 47, J1 48, J1 49, J1 50, J1 51], []⟩) (by kernel_rfl) ?_
      refine wp_seq ?_
      refine wp_cond_split (t := decide ((i : Int) < 100)) rfl (fun h3 => ?_) (fun h3 => ?_)
      · skip
        have hk4 := h3
        try simp only [decide_eq_true_eq, decide_eq_false_iff_not, Bool.and_eq_true, Bool.or_eq_true, Bool.and_eq_false_iff, Bool.or_eq_false_iff, Bool.not_eq_true', Bool.not_eq_false', beq_iff_eq, beq_eq_false_iff_ne, bne_iff_ne, bne_eq_false_iff_eq, gt_iff_lt, ge_iff_le, ne_eq, Decidable.not_not, Int.not_lt, Int.not_le, inB] at h3
        refine wp_skip ?_
        refine then_normal ?_
        refine wp_frame (a' := ⟨#[.agg F.cells, .pointer (some ⟨g1, 0, none⟩), J1 0, J1 1, J1 2, J1 3, .pointer (some ⟨g1, 0, none⟩), .int .i8 F.w, .int .i64 F.w, .bool true, .bool false, .bool false, .pointer (some ⟨g1, 1, none⟩), .int .i8 F.h, .int .i64 F.h, .bool true, .bool (!(inB F.h 1 10)), .bool (!(inB F.h 1 10)), .int .i64 (i : Int), .bool (decide ((i : Int) < 100)), J1 5, J1 6, J1 7, J1 8, J1 9, J1 10, J1 11, J1 12, J1 13, J1 14, J1 15, J1 16, J1 17, J1 18, J1 19, J1 20, J1 21, J1 22, J1 23, J1 24, J1 25, J1 26, J1 27, J1 28, J1 29, J1 30, J1 31, J1 32, J1 33, J1 34, J1 35, J1 36, J1 37, J1 38, J1 39, J1 40, J1 41, J1 42, J1 43, J1 44, J1 45, J1 46, J1 47, J1 48, J1 49, J1 50, J1 51], []⟩) (by kernel_rfl) ?_
        refine wp_seq ?_
        refine wp_block ?_
        refine wp_seq ?_
        refine wp_region_lit ?_
        refine wpl_val (.int .i64 (i : Int)) (.int .i64 (i : Int)) rfl (by kernel_rfl) (by kernel_rfl) rfl ?_
        refine wpl_frame (a' := ⟨#[.agg F.cells, .pointer (some ⟨g1, 0, none⟩), J1 0, J1 1, J1 2, J1 3, .pointer (some ⟨g1, 0, none⟩), .int .i8 F.w, .int .i64 F.w, .bool true, .bool false, .bool false, .pointer (some ⟨g1, 1, none⟩), .int .i8 F.h, .int .i64 F.h, .bool true, .bool (!(inB F.h 1 10)), .bool (!(inB F.h 1 10)), .int .i64 (i : Int), .bool (decide ((i : Int) < 100)), .int .i64 (i : Int), J1 6, J1 7, J1 8, J1 9, J1 10, J1 11, J1 12, J1 13, J1 14, J1 15, J1 16, J1 17, J1 18, J1 19, J1 20, J1 21, J1 22, J1 23, J1 24, J1 25, J1 26, J1 27, J1 28, J1 29, J1 30, J1 31, J1 32, J1 33, J1 34, J1 35, J1 36, J1 37, J1 38, J1 39, J1 40, J1 41, J1 42, J1 43, J1 44, J1 45, J1 46, J1 47, J1 48, J1 49, J1 50, J1 51], []⟩) (by kernel_rfl) ?_
        refine wpl_frame (a' := ⟨#[.agg F.cells, .pointer (some ⟨g1, 0, none⟩), J1 0, J1 1, J1 2, J1 3, .pointer (some ⟨g1, 0, none⟩), .int .i8 F.w, .int .i64 F.w, .bool true, .bool false, .bool false, .pointer (some ⟨g1, 1, none⟩), .int .i8 F.h, .int .i64 F.h, .bool true, .bool (!(inB F.h 1 10)), .bool (!(inB F.h 1 10)), .int .i64 (i : Int), .bool true, .int .i64 (i : Int), J1 6, J1 7, J1 8, J1 9, J1 10, J1 11, J1 12, J1 13, J1 14, J1 15, J1 16, J1 17, J1 18, J1 19, J1 20, J1 21, J1 22, J1 23, J1 24, J1 25, J1 26, J1 27, J1 28, J1 29, J1 30, J1 31, J1 32, J1 33, J1 34, J1 35, J1 36, J1 37, J1 38, J1 39, J1 40, J1 41, J1 42, J1 43, J1 44, J1 45, J1 46, J1 47, J1 48, J1 49, J1 50, J1 51], []⟩) (by simp only [hk4, Bool.not_true, Bool.not_false]) ?_
        refine wpl_val (.int .i64 (i : Int)) (.int .i64 (i : Int)) rfl (by kernel_rfl) (by kernel_rfl) rfl ?_
        refine wpList_nil ?_
        refine then_normal ?_
        refine wp_frame (a' := ⟨#[.agg F.cells, .pointer (some ⟨g1, 0, none⟩), J1 0, .int .i64 (i : Int), J1 2, J1 3, .pointer (some ⟨g1, 0, none⟩), .int .i8 F.w, .int .i64 F.w, .bool true, .bool false, .bool false, .pointer (some ⟨g1, 1, none⟩), .int .i8 F.h, .int .i64 F.h, .bool true, .bool (!(inB F.h 1 10)), .bool (!(inB F.h 1 10)), .int .i64 (i : Int), .bool true, .int .i64 (i : Int), J1 6, J1 7, J1 8, J1 9, J1 10, J1 11, J1 12, J1 13, J1 14, J1 15, J1 16, J1 17, J1 18, J1 19, J1 20, J1 21, J1 22, J1 23, J1 24, J1 25, J1 26, J1 27, J1 28, J1 29, J1 30, J1 31, J1 32, J1 33, J1 34, J1 35, J1 36, J1 37, J1 38, J1 39, J1 40, J1 41, J1 42, J1 43, J1 44, J1 45, J1 46, J1 47, J1 48, J1 49, J1 50, J1 51], []⟩) (by kernel_rfl) ?_
        refine wp_seq ?_
        have ce1 := hF.k1 i (by omega)
        have ce2 := hF.s1 i (by omega)
        refine region_go 11 [21, 22, 23, 24, 25, 26, 27, 28, 29, 4, 5] [[], [], [1, 0], [2], [], [], [5, 4], [6], [7], [3], [8]]
          (fun i_ => ([.val (.int .i64 (i : Int)), .val (.pointer (some ⟨g1, 2, none⟩)), .val (.pointer (some ⟨g1, 2 + i, none⟩)), .val (.int .u8 (F.k i)), .val (.int .i64 (i : Int)), .val (.pointer (some ⟨g1, 102, none⟩)), .val (.pointer (some ⟨g1, 102 + i, none⟩)), .val (.int .i16 (F.s i)), .val (.int .i64 (F.s i)), .val (.int .u8 (F.k i)), .val (.int .i64 (F.s i))] : List Fct).getD i_ .any)
          (by kernel_rfl) (by kernel_rfl) (by decide) (by simp) rfl (all_succ (all_succ (all_succ (all_succ (all_succ (all_succ (all_succ (all_succ (all_succ (all_succ (all_succ all_zero ?_) ?_) ?_) ?_) ?_) ?_) ?_) ?_) ?_) ?_) ?_) ?_
        · refine step0 rfl rfl rfl (fun wr hw => ?_)
          exact OpRun.val (.int .i64 (i : Int)) (.int .i64 (i : Int)) (by kernel_rfl) rfl ⟨Ext.refl _, rfl⟩
        · refine step0 rfl rfl rfl (fun wr hw => ?_)
          exact OpRun.val (.pointer (some ⟨g1, 2, none⟩)) (.pointer (some ⟨g1, 2, none⟩)) (by kernel_rfl) rfl ⟨Ext.refl _, rfl⟩
        · refine step2 rfl rfl rfl rfl rfl (fun u0 u1 wr hw h0 h1 => ?_)
          cases h0
          cases h1
          exact OpRun.ixan (i := i) (k := .i64) (g := g1) (off := 2) arrt__100_uint8 rfl (by kernel_rfl) (by kernel_rfl) (by omega) ⟨Ext.refl _, rfl⟩
        · refine step1 rfl rfl rfl rfl (fun u0 wr hw h0 => ?_)
          cases h0
          have hb_ := (B1.ext hw)
          exact OpRun.cell (g := g1) (off := 2 + i) scal_uint8 rfl (by kernel_rfl) (by rw [hb_.cell]; exact Fld.getk _ _ (by omega)) ⟨Ext.refl _, rfl⟩
        · refine step0 rfl rfl rfl (fun wr hw => ?_)
          exact OpRun.val (.int .i64 (i : Int)) (.int .i64 (i : Int)) (by kernel_rfl) rfl ⟨Ext.refl _, rfl⟩
        · refine step0 rfl rfl rfl (fun wr hw => ?_)
          exact OpRun.val (.pointer (some ⟨g1, 102, none⟩)) (.pointer (some ⟨g1, 102, none⟩)) (by kernel_rfl) rfl ⟨Ext.refl _, rfl⟩
        · refine step2 rfl rfl rfl rfl rfl (fun u0 u1 wr hw h0 h1 => ?_)
          cases h0
          cases h1
          exact OpRun.ixan (i := i) (k := .i64) (g := g1) (off := 102) arrt__100_int16 rfl (by kernel_rfl) (by kernel_rfl) (by omega) ⟨Ext.refl _, rfl⟩
        · refine step1 rfl rfl rfl rfl (fun u0 wr hw h0 => ?_)
          cases h0
          have hb_ := (B1.ext hw)
          exact OpRun.cell (g := g1) (off := 102 + i) scal_int16 rfl (by kernel_rfl) (by rw [hb_.cell]; exact Fld.gets _ _ (by omega)) ⟨Ext.refl _, rfl⟩
        · refine step1 rfl rfl rfl rfl (fun u0 wr hw h0 => ?_)
          cases h0
          exact OpRun.val (.int .i64 (IntKind.i64.wrap (F.s i))) (.int .i64 (F.s i)) (by kernel_rfl) (by exact congrArg _ (IntWalk.i64_in _ (by omega))) ⟨Ext.refl _, rfl⟩
        · refine step1 rfl rfl rfl rfl (fun u0 wr hw h0 => ?_)
          cases h0
          exact OpRun.val (.int .u8 (F.k i)) (.int .u8 (F.k i)) (by kernel_rfl) rfl ⟨Ext.refl _, rfl⟩
        · refine step1 rfl rfl rfl rfl (fun u0 wr hw h0 => ?_)
          cases h0
          exact OpRun.val (.int .i64 (F.s i)) (.int .i64 (F.s i)) (by kernel_rfl) rfl ⟨Ext.refl _, rfl⟩
        refine end11 (fun u0 u1 u2 u3 u4 u5 u6 u7 u8 u9 u10 w4 E4 f0 f1 f2 f3 f4 f5 f6 f7 f8 f9 f10 => ?_)
        cases f0
        cases f1
        cases f2
        cases f3
        cases f4
        cases f5
        cases f6
        cases f7
        cases f8
        cases f9
        cases f10
        replace B1 := B1.ext E4
        have H4 := (HL1).trans E4
        clear E4
        refine wpList_nil ?_
        refine then_normal ?_
        refine wp_frame (a' := ⟨#[.agg F.cells, .pointer (some ⟨g1, 0, none⟩), J1 0, .int .i64 (i : Int), .int .u8 (F.k i), .int .i64 (F.s i), .pointer (some ⟨g1, 0, none⟩), .int .i8 F.w, .int .i64 F.w, .bool true, .bool false, .bool false, .pointer (some ⟨g1, 1, none⟩), .int .i8 F.h, .int .i64 F.h, .bool true, .bool (!(inB F.h 1 10)), .bool (!(inB F.h 1 10)), .int .i64 (i : Int), .bool true, .int .i64 (i : Int), .int .i64 (i : Int), .pointer (some ⟨g1, 2, none⟩), .pointer (some ⟨g1, 2 + i, none⟩), .int .u8 (F.k i), .int .i64 (i : Int), .pointer (some ⟨g1, 102, none⟩), .pointer (some ⟨g1, 102 + i, none⟩), .int .i16 (F.s i), .int .i64 (F.s i), J1 15, J1 16, J1 17, J1 18, J1 19, J1 20, J1 21, J1 22, J1 23, J1 24, J1 25, J1 26, J1 27, J1 28, J1 29, J1 30, J1 31, J1 32, J1 33, J1 34, J1 35, J1 36, J1 37, J1 38, J1 39, J1 40, J1 41, J1 42, J1 43, J1 44, J1 45, J1 46, J1 47, J1 48, J1 49, J1 50, J1 51], []⟩) (by kernel_rfl) ?_
        refine wp_block ?_
        refine wp_seq ?_
        refine wp_region_lit ?_
        refine wpl_val (.int .i64 (i : Int)) (.int .i64 (i : Int)) rfl (by kernel_rfl) (by kernel_rfl) rfl ?_
        refine wpl_call (54) #[.pointer (some ⟨g1, 0, none⟩), .int .i64 (i : Int)] rfl (by kernel_rfl) (by kernel_rfl) (has_any F hF g1 _ _ _ B1) ?_
        intro w5 E5
        replace B1 := B1.ext E5
        have H5 := (H4).trans E5
        clear E5
        refine wpl_val (.bool (!(isB F (i : Int)))) (.bool (!(isB F (i : Int)))) rfl (by kernel_rfl) (by kernel_rfl) rfl ?_
        refine wpl_val (.bool (!(isB F (i : Int)))) (.bool (!(isB F (i : Int)))) rfl (by kernel_rfl) (by kernel_rfl) rfl ?_
        refine wpl_frame (a' := ⟨#[.agg F.cells, .pointer (some ⟨g1, 0, none⟩), J1 0, .int .i64 (i : Int), .int .u8 (F.k i), .int .i64 (F.s i), .pointer (some ⟨g1, 0, none⟩), .int .i8 F.w, .int .i64 F.w, .bool true, .bool false, .bool false, .pointer (some ⟨g1, 1, none⟩), .int .i8 F.h, .int .i64 F.h, .bool true, .bool (!(inB F.h 1 10)), .bool (!(inB F.h 1 10)), .int .i64 (i : Int), .bool true, .int .i64 (i : Int), .int .i64 (i : Int), .pointer (some ⟨g1, 2, none⟩), .pointer (some ⟨g1, 2 + i, none⟩), .int .u8 (F.k i), .int .i64 (i : Int), .pointer (some ⟨g1, 102, none⟩), .pointer (some ⟨g1, 102 + i, none⟩), .int .i16 (F.s i), .int .i64 (F.s i), J1 15, .int .i64 (i : Int), .bool (isB F (i : Int)), .bool (!(isB F (i : Int))), .bool (!(isB F (i : Int))), J1 20, J1 21, J1 22, J1 23, J1 24, J1 25, J1 26, J1 27, J1 28, J1 29, J1 30, J1 31, J1 32, J1 33, J1 34, J1 35, J1 36, J1 37, J1 38, J1 39, J1 40, J1 41, J1 42, J1 43, J1 44, J1 45, J1 46, J1 47, J1 48, J1 49, J1 50, J1 51], []⟩) (by kernel_rfl) ?_
        refine split_bool (isB F (i : Int)) (fun h4 => ?_) (fun h4 => ?_)
        · skip
          refine wpl_frame (a' := ⟨#[.agg F.cells, .pointer (some ⟨g1, 0, none⟩), J1 0, .int .i64 (i : Int), .int .u8 (F.k i), .int .i64 (F.s i), .pointer (some ⟨g1, 0, none⟩), .int .i8 F.w, .int .i64 F.w, .bool true, .bool false, .bool false, .pointer (some ⟨g1, 1, none⟩), .int .i8 F.h, .int .i64 F.h, .bool true, .bool (!(inB F.h 1 10)), .bool (!(inB F.h 1 10)), .int .i64 (i : Int), .bool true, .int .i64 (i : Int), .int .i64 (i : Int), .pointer (some ⟨g1, 2, none⟩), .pointer (some ⟨g1, 2 + i, none⟩), .int .u8 (F.k i), .int .i64 (i : Int), .pointer (some ⟨g1, 102, none⟩), .pointer (some ⟨g1, 102 + i, none⟩), .int .i16 (F.s i), .int .i64 (F.s i), J1 15, .int .i64 (i : Int), .bool true, .bool false, .bool false, J1 20, J1 21, J1 22, J1 23, J1 24, J1 25, J1 26, J1 27, J1 28, J1 29, J1 30, J1 31, J1 32, J1 33, J1 34, J1 35, J1 36, J1 37, J1 38, J1 39, J1 40, J1 41, J1 42, J1 43, J1 44, J1 45, J1 46, J1 47, J1 48, J1 49, J1 50, J1 51], []⟩) (by simp only [h4, Bool.not_true, Bool.not_false]) ?_
          have hk5 := h4
          try simp only [decide_eq_true_eq, decide_eq_false_iff_not, Bool.and_eq_true, Bool.or_eq_true, Bool.and_eq_false_iff, Bool.or_eq_false_iff, Bool.not_eq_true', Bool.not_eq_false', beq_iff_eq, beq_eq_false_iff_ne, bne_iff_ne, bne_eq_false_iff_eq, gt_iff_lt, ge_iff_le, ne_eq, Decidable.not_not, Int.not_lt, Int.not_le, inB] at h4
          refine wpl_skip rfl (by kernel_rfl) ?_
          refine wpl_skip rfl (by kernel_rfl) ?_
          refine wpl_val (.bool false) (.bool false) rfl (by kernel_rfl) (by kernel_rfl) rfl ?_
          refine wpl_val (.bool false) (.bool false) rfl (by kernel_rfl) (by kernel_rfl) rfl ?_
          refine wpl_val (.int .u8 (F.k i)) (.int .u8 (F.k i)) rfl (by kernel_rfl) (by kernel_rfl) rfl ?_
          refine wpl_val (.bool (decide (F.k i > 3))) (.bool (decide (F.k i > 3))) rfl (by kernel_rfl) (by kernel_rfl) rfl ?_
          refine wpl_val (.bool (decide (F.k i > 3))) (.bool (decide (F.k i > 3))) rfl (by kernel_rfl) (by kernel_rfl) rfl ?_
          refine wpl_val (.bool (decide (F.k i > 3))) (.bool (decide (F.k i > 3))) rfl (by kernel_rfl) (by kernel_rfl) rfl ?_
          refine wpList_nil ?_
          refine then_normal ?_
          refine wp_frame (a' := ⟨#[.agg F.cells, .pointer (some ⟨g1, 0, none⟩), J1 0, .int .i64 (i : Int), .int .u8 (F.k i), .int .i64 (F.s i), .pointer (some ⟨g1, 0, none⟩), .int .i8 F.w, .int .i64 F.w, .bool true, .bool false, .bool false, .pointer (some ⟨g1, 1, none⟩), .int .i8 F.h, .int .i64 F.h, .bool true, .bool (!(inB F.h 1 10)), .bool (!(inB F.h 1 10)), .int .i64 (i : Int), .bool true, .int .i64 (i : Int), .int .i64 (i : Int), .pointer (some ⟨g1, 2, none⟩), .pointer (some ⟨g1, 2 + i, none⟩), .int .u8 (F.k i), .int .i64 (i : Int), .pointer (some ⟨g1, 102, none⟩), .pointer (some ⟨g1, 102 + i, none⟩), .int .i16 (F.s i), .int .i64 (F.s i), .bool (decide (F.k i > 3)), .int .i64 (i : Int), .bool true, .bool false, .bool false, undef, undef, .bool false, .bool false, .int .u8 (F.k i), .bool (decide (F.k i > 3)), .bool (decide (F.k i > 3)), J1 27, J1 28, J1 29, J1 30, J1 31, J1 32, J1 33, J1 34, J1 35, J1 36, J1 37, J1 38, J1 39, J1 40, J1 41, J1 42, J1 43, J1 44, J1 45, J1 46, J1 47, J1 48, J1 49, J1 50, J1 51], []⟩) (by kernel_rfl) ?_
          refine wp_cond_split (t := decide (F.k i > 3)) rfl (fun h5 => ?_) (fun h5 => ?_)
          · skip
            have hk6 := h5
            try simp only [decide_eq_true_eq, decide_eq_false_iff_not, Bool.and_eq_true, Bool.or_eq_true, Bool.and_eq_false_iff, Bool.or_eq_false_iff, Bool.not_eq_true', Bool.not_eq_false', beq_iff_eq, beq_eq_false_iff_ne, bne_iff_ne, bne_eq_false_iff_eq, gt_iff_lt, ge_iff_le, ne_eq, Decidable.not_not, Int.not_lt, Int.not_le, inB] at h5
            refine wp_seq ?_
            refine wp_region_lit ?_
            refine wpl_val (.bool false) (.bool false) rfl (by kernel_rfl) (by kernel_rfl) rfl ?_
            refine wpl_frame (a' := ⟨#[.agg F.cells, .pointer (some ⟨g1, 0, none⟩), .bool false, .int .i64 (i : Int), .int .u8 (F.k i), .int .i64 (F.s i), .pointer (some ⟨g1, 0, none⟩), .int .i8 F.w, .int .i64 F.w, .bool true, .bool false, .bool false, .pointer (some ⟨g1, 1, none⟩), .int .i8 F.h, .int .i64 F.h, .bool true, .bool (!(inB F.h 1 10)), .bool (!(inB F.h 1 10)), .int .i64 (i : Int), .bool true, .int .i64 (i : Int), .int .i64 (i : Int), .pointer (some ⟨g1, 2, none⟩), .pointer (some ⟨g1, 2 + i, none⟩), .int .u8 (F.k i), .int .i64 (i : Int), .pointer (some ⟨g1, 102, none⟩), .pointer (some ⟨g1, 102 + i, none⟩), .int .i16 (F.s i), .int .i64 (F.s i), .bool (decide (F.k i > 3)), .int .i64 (i : Int), .bool true, .bool false, .bool false, undef, undef, .bool false, .bool false, .int .u8 (F.k i), .bool (decide (F.k i > 3)), .bool (decide (F.k i > 3)), J1 27, J1 28, J1 29, J1 30, J1 31, J1 32, J1 33, J1 34, J1 35, J1 36, J1 37, J1 38, J1 39, J1 40, J1 41, J1 42, J1 43, J1 44, J1 45, J1 46, J1 47, J1 48, J1 49, J1 50, J1 51], []⟩) (by kernel_rfl) ?_
            refine wpl_frame (a' := ⟨#[.agg F.cells, .pointer (some ⟨g1, 0, none⟩), .bool false, .int .i64 (i : Int), .int .u8 (F.k i), .int .i64 (F.s i), .pointer (some ⟨g1, 0, none⟩), .int .i8 F.w, .int .i64 F.w, .bool true, .bool false, .bool false, .pointer (some ⟨g1, 1, none⟩), .int .i8 F.h, .int .i64 F.h, .bool true, .bool (!(inB F.h 1 10)), .bool (!(inB F.h 1 10)), .int .i64 (i : Int), .bool true, .int .i64 (i : Int), .int .i64 (i : Int), .pointer (some ⟨g1, 2, none⟩), .pointer (some ⟨g1, 2 + i, none⟩), .int .u8 (F.k i), .int .i64 (i : Int), .pointer (some ⟨g1, 102, none⟩), .pointer (some ⟨g1, 102 + i, none⟩), .int .i16 (F.s i), .int .i64 (F.s i), .bool true, .int .i64 (i : Int), .bool true, .bool false, .bool false, undef, undef, .bool false, .bool false, .int .u8 (F.k i), .bool true, .bool true, J1 27, J1 28, J1 29, J1 30, J1 31, J1 32, J1 33, J1 34, J1 35, J1 36, J1 37, J1 38, J1 39, J1 40, J1 41, J1 42, J1 43, J1 44, J1 45, J1 46, J1 47, J1 48, J1 49, J1 50, J1 51], []⟩) (by simp only [hk6, Bool.not_true, Bool.not_false]) ?_
            refine wpList_nil ?_
            refine then_normal ?_
            refine wp_frame (a' := ⟨#[.agg F.cells, .pointer (some ⟨g1, 0, none⟩), .bool false, .int .i64 (i : Int), .int .u8 (F.k i), .int .i64 (F.s i), .pointer (some ⟨g1, 0, none⟩), .int .i8 F.w, .int .i64 F.w, .bool true, .bool false, .bool false, .pointer (some ⟨g1, 1, none⟩), .int .i8 F.h, .int .i64 F.h, .bool true, .bool (!(inB F.h 1 10)), .bool (!(inB F.h 1 10)), .int .i64 (i : Int), .bool true, .int .i64 (i : Int), .int .i64 (i : Int), .pointer (some ⟨g1, 2, none⟩), .pointer (some ⟨g1, 2 + i, none⟩), .int .u8 (F.k i), .int .i64 (i : Int), .pointer (some ⟨g1, 102, none⟩), .pointer (some ⟨g1, 102 + i, none⟩), .int .i16 (F.s i), .int .i64 (F.s i), .bool true, .int .i64 (i : Int), .bool true, .bool false, .bool false, undef, undef, .bool false, .bool false, .int .u8 (F.k i), .bool true, .bool true, J1 27, J1 28, J1 29, J1 30, J1 31, J1 32, J1 33, J1 34, J1 35, J1 36, J1 37, J1 38, J1 39, J1 40, J1 41, J1 42, J1 43, J1 44, J1 45, J1 46, J1 47, J1 48, J1 49, J1 50, J1 51], []⟩) (by kernel_rfl) ?_
            refine wp_ret ?_
            refine block_ret ?_
            refine block_ret ?_
            refine then_ret ?_
            refine then_ret ?_
            refine block_ret ?_
            refine then_ret ?_
            refine body_frame (a' := ⟨#[.agg F.cells, .pointer (some ⟨g1, 0, none⟩), .bool false, .int .i64 (i : Int), .int .u8 (F.k i), .int .i64 (F.s i), .pointer (some ⟨g1, 0, none⟩), .int .i8 F.w, .int .i64 F.w, .bool true, .bool false, .bool false, .pointer (some ⟨g1, 1, none⟩), .int .i8 F.h, .int .i64 F.h, .bool true, .bool (!(inB F.h 1 10)), .bool (!(inB F.h 1 10)), .int .i64 (i : Int), .bool true, .int .i64 (i : Int), .int .i64 (i : Int), .pointer (some ⟨g1, 2, none⟩), .pointer (some ⟨g1, 2 + i, none⟩), .int .u8 (F.k i), .int .i64 (i : Int), .pointer (some ⟨g1, 102, none⟩), .pointer (some ⟨g1, 102 + i, none⟩), .int .i16 (F.s i), .int .i64 (F.s i), .bool true, .int .i64 (i : Int), .bool true, .bool false, .bool false, undef, undef, .bool false, .bool false, .int .u8 (F.k i), .bool true, .bool true, J1 27, J1 28, J1 29, J1 30, J1 31, J1 32, J1 33, J1 34, J1 35, J1 36, J1 37, J1 38, J1 39, J1 40, J1 41, J1 42, J1 43, J1 44, J1 45, J1 46, J1 47, J1 48, J1 49, J1 50, J1 51], []⟩) (by kernel_rfl) ?_
            refine ret1 (.bool (okB F)) rfl ?_ rfl ?_
            · show (.bool false : Value) = (.bool (okB F))
              refine congrArg Value.bool ?_
              first | exact (okB_w (by omega)).symm | exact (okB_h (by omega)).symm | exact (okB_true.2 ⟨by omega, by omega, by omega, by omega, fun j hj => hall j (by omega)⟩).symm | skip
              all_goals (refine (okB_c i (by omega) ?_).symm)
              all_goals (first | (rw [celB_in (by assumption)]; exact decide_eq_false (by omega)) | (rw [celB_out (by assumption)]; exact decide_eq_false (by omega)) | (cases hq_ : isB F (i : Int) with | false => (rw [celB_out hq_]; exact decide_eq_false (by omega)) | true => (rw [celB_in hq_]; exact decide_eq_false (by omega))))
            exact ⟨rfl, H5⟩
          · skip
            have hk7 := h5
            try simp only [decide_eq_true_eq, decide_eq_false_iff_not, Bool.and_eq_true, Bool.or_eq_true, Bool.and_eq_false_iff, Bool.or_eq_false_iff, Bool.not_eq_true', Bool.not_eq_false', beq_iff_eq, beq_eq_false_iff_ne, bne_iff_ne, bne_eq_false_iff_eq, gt_iff_lt, ge_iff_le, ne_eq, Decidable.not_not, Int.not_lt, Int.not_le, inB] at h5
            refine wp_seq ?_
            refine wp_region_lit ?_
            refine wpl_val (.int .i64 (i : Int)) (.int .i64 (i : Int)) rfl (by kernel_rfl) (by kernel_rfl) rfl ?_
            refine wpl_frame (a' := ⟨#[.agg F.cells, .pointer (some ⟨g1, 0, none⟩), J1 0, .int .i64 (i : Int), .int .u8 (F.k i), .int .i64 (F.s i), .pointer (some ⟨g1, 0, none⟩), .int .i8 F.w, .int .i64 F.w, .bool true, .bool false, .bool false, .pointer (some ⟨g1, 1, none⟩), .int .i8 F.h, .int .i64 F.h, .bool true, .bool (!(inB F.h 1 10)), .bool (!(inB F.h 1 10)), .int .i64 (i : Int), .bool true, .int .i64 (i : Int), .int .i64 (i : Int), .pointer (some ⟨g1, 2, none⟩), .pointer (some ⟨g1, 2 + i, none⟩), .int .u8 (F.k i), .int .i64 (i : Int), .pointer (some ⟨g1, 102, none⟩), .pointer (some ⟨g1, 102 + i, none⟩), .int .i16 (F.s i), .int .i64 (F.s i), .bool (decide (F.k i > 3)), .int .i64 (i : Int), .bool true, .bool false, .bool false, undef, undef, .bool false, .bool false, .int .u8 (F.k i), .bool (decide (F.k i > 3)), .bool (decide (F.k i > 3)), J1 27, .int .i64 (i : Int), J1 29, J1 30, J1 31, J1 32, J1 33, J1 34, J1 35, J1 36, J1 37, J1 38, J1 39, J1 40, J1 41, J1 42, J1 43, J1 44, J1 45, J1 46, J1 47, J1 48, J1 49, J1 50, J1 51], []⟩) (by kernel_rfl) ?_
            refine wpl_frame (a' := ⟨#[.agg F.cells, .pointer (some ⟨g1, 0, none⟩), J1 0, .int .i64 (i : Int), .int .u8 (F.k i), .int .i64 (F.s i), .pointer (some ⟨g1, 0, none⟩), .int .i8 F.w, .int .i64 F.w, .bool true, .bool false, .bool false, .pointer (some ⟨g1, 1, none⟩), .int .i8 F.h, .int .i64 F.h, .bool true, .bool (!(inB F.h 1 10)), .bool (!(inB F.h 1 10)), .int .i64 (i : Int), .bool true, .int .i64 (i : Int), .int .i64 (i : Int), .pointer (some ⟨g1, 2, none⟩), .pointer (some ⟨g1, 2 + i, none⟩), .int .u8 (F.k i), .int .i64 (i : Int), .pointer (some ⟨g1, 102, none⟩), .pointer (some ⟨g1, 102 + i, none⟩), .int .i16 (F.s i), .int .i64 (F.s i), .bool false, .int .i64 (i : Int), .bool true, .bool false, .bool false, undef, undef, .bool false, .bool false, .int .u8 (F.k i), .bool false, .bool false, J1 27, .int .i64 (i : Int), J1 29, J1 30, J1 31, J1 32, J1 33, J1 34, J1 35, J1 36, J1 37, J1 38, J1 39, J1 40, J1 41, J1 42, J1 43, J1 44, J1 45, J1 46, J1 47, J1 48, J1 49, J1 50, J1 51], []⟩) (by simp only [hk7, Bool.not_true, Bool.not_false]) ?_
            refine wpl_call (54) #[.pointer (some ⟨g1, 0, none⟩), .int .i64 (i : Int)] rfl (by kernel_rfl) (by kernel_rfl) (has_any F hF g1 _ _ _ B1) ?_
            intro w6 E6
            replace B1 := B1.ext E6
            have H6 := (H5).trans E6
            clear E6
            refine wpl_frame (a' := ⟨#[.agg F.cells, .pointer (some ⟨g1, 0, none⟩), J1 0, .int .i64 (i : Int), .int .u8 (F.k i), .int .i64 (F.s i), .pointer (some ⟨g1, 0, none⟩), .int .i8 F.w, .int .i64 F.w, .bool true, .bool false, .bool false, .pointer (some ⟨g1, 1, none⟩), .int .i8 F.h, .int .i64 F.h, .bool true, .bool (!(inB F.h 1 10)), .bool (!(inB F.h 1 10)), .int .i64 (i : Int), .bool true, .int .i64 (i : Int), .int .i64 (i : Int), .pointer (some ⟨g1, 2, none⟩), .pointer (some ⟨g1, 2 + i, none⟩), .int .u8 (F.k i), .int .i64 (i : Int), .pointer (some ⟨g1, 102, none⟩), .pointer (some ⟨g1, 102 + i, none⟩), .int .i16 (F.s i), .int .i64 (F.s i), .bool false, .int .i64 (i : Int), .bool true, .bool false, .bool false, undef, undef, .bool false, .bool false, .int .u8 (F.k i), .bool false, .bool false, J1 27, .int .i64 (i : Int), .bool (isB F (i : Int)), J1 30, J1 31, J1 32, J1 33, J1 34, J1 35, J1 36, J1 37, J1 38, J1 39, J1 40, J1 41, J1 42, J1 43, J1 44, J1 45, J1 46, J1 47, J1 48, J1 49, J1 50, J1 51], []⟩) (by kernel_rfl) ?_
            refine wpl_frame (a' := ⟨#[.agg F.cells, .pointer (some ⟨g1, 0, none⟩), J1 0, .int .i64 (i : Int), .int .u8 (F.k i), .int .i64 (F.s i), .pointer (some ⟨g1, 0, none⟩), .int .i8 F.w, .int .i64 F.w, .bool true, .bool false, .bool false, .pointer (some ⟨g1, 1, none⟩), .int .i8 F.h, .int .i64 F.h, .bool true, .bool (!(inB F.h 1 10)), .bool (!(inB F.h 1 10)), .int .i64 (i : Int), .bool true, .int .i64 (i : Int), .int .i64 (i : Int), .pointer (some ⟨g1, 2, none⟩), .pointer (some ⟨g1, 2 + i, none⟩), .int .u8 (F.k i), .int .i64 (i : Int), .pointer (some ⟨g1, 102, none⟩), .pointer (some ⟨g1, 102 + i, none⟩), .int .i16 (F.s i), .int .i64 (F.s i), .bool false, .int .i64 (i : Int), .bool true, .bool false, .bool false, undef, undef, .bool false, .bool false, .int .u8 (F.k i), .bool false, .bool false, J1 27, .int .i64 (i : Int), .bool true, J1 30, J1 31, J1 32, J1 33, J1 34, J1 35, J1 36, J1 37, J1 38, J1 39, J1 40, J1 41, J1 42, J1 43, J1 44, J1 45, J1 46, J1 47, J1 48, J1 49, J1 50, J1 51], []⟩) (by simp only [hk5, Bool.not_true, Bool.not_false]) ?_
            refine wpl_val (.bool true) (.bool true) rfl (by kernel_rfl) (by kernel_rfl) rfl ?_
            refine wpl_val (.int .u8 (F.k i)) (.int .u8 (F.k i)) rfl (by kernel_rfl) (by kernel_rfl) rfl ?_
            refine wpl_val (.bool ((F.k i) == 0)) (.bool ((F.k i) == 0)) rfl (by kernel_rfl) (by kernel_rfl) rfl ?_
            refine wpl_val (.bool ((F.k i) == 0)) (.bool ((F.k i) == 0)) rfl (by kernel_rfl) (by kernel_rfl) rfl ?_
            refine wpl_val (.bool ((F.k i) == 0)) (.bool ((F.k i) == 0)) rfl (by kernel_rfl) (by kernel_rfl) rfl ?_
            refine wpl_frame (a' := ⟨#[.agg F.cells, .pointer (some ⟨g1, 0, none⟩), J1 0, .int .i64 (i : Int), .int .u8 (F.k i), .int .i64 (F.s i), .pointer (some ⟨g1, 0, none⟩), .int .i8 F.w, .int .i64 F.w, .bool true, .bool false, .bool false, .pointer (some ⟨g1, 1, none⟩), .int .i8 F.h, .int .i64 F.h, .bool true, .bool (!(inB F.h 1 10)), .bool (!(inB F.h 1 10)), .int .i64 (i : Int), .bool true, .int .i64 (i : Int), .int .i64 (i : Int), .pointer (some ⟨g1, 2, none⟩), .pointer (some ⟨g1, 2 + i, none⟩), .int .u8 (F.k i), .int .i64 (i : Int), .pointer (some ⟨g1, 102, none⟩), .pointer (some ⟨g1, 102 + i, none⟩), .int .i16 (F.s i), .int .i64 (F.s i), .bool false, .int .i64 (i : Int), .bool true, .bool false, .bool false, undef, undef, .bool false, .bool false, .int .u8 (F.k i), .bool false, .bool false, J1 27, .int .i64 (i : Int), .bool true, .bool true, .int .u8 (F.k i), .bool ((F.k i) == 0), .bool ((F.k i) == 0), .bool ((F.k i) == 0), J1 35, J1 36, J1 37, J1 38, J1 39, J1 40, J1 41, J1 42, J1 43, J1 44, J1 45, J1 46, J1 47, J1 48, J1 49, J1 50, J1 51], []⟩) (by kernel_rfl) ?_
            refine split_bool ((F.k i) == 0) (fun h6 => ?_) (fun h6 => ?_)
            · skip
              refine wpl_frame (a' := ⟨#[.agg F.cells, .pointer (some ⟨g1, 0, none⟩), J1 0, .int .i64 (i : Int), .int .u8 (F.k i), .int .i64 (F.s i), .pointer (some ⟨g1, 0, none⟩), .int .i8 F.w, .int .i64 F.w, .bool true, .bool false, .bool false, .pointer (some ⟨g1, 1, none⟩), .int .i8 F.h, .int .i64 F.h, .bool true, .bool (!(inB F.h 1 10)), .bool (!(inB F.h 1 10)), .int .i64 (i : Int), .bool true, .int .i64 (i : Int), .int .i64 (i : Int), .pointer (some ⟨g1, 2, none⟩), .pointer (some ⟨g1, 2 + i, none⟩), .int .u8 (F.k i), .int .i64 (i : Int), .pointer (some ⟨g1, 102, none⟩), .pointer (some ⟨g1, 102 + i, none⟩), .int .i16 (F.s i), .int .i64 (F.s i), .bool false, .int .i64 (i : Int), .bool true, .bool false, .bool false, undef, undef, .bool false, .bool false, .int .u8 (F.k i), .bool false, .bool false, J1 27, .int .i64 (i : Int), .bool true, .bool true, .int .u8 (F.k i), .bool true, .bool true, .bool true, J1 35, J1 36, J1 37, J1 38, J1 39, J1 40, J1 41, J1 42, J1 43, J1 44, J1 45, J1 46, J1 47, J1 48, J1 49, J1 50, J1 51], []⟩) (by simp only [h6, Bool.not_true, Bool.not_false]) ?_
              have hk8 := h6
              try simp only [decide_eq_true_eq, decide_eq_false_iff_not, Bool.and_eq_true, Bool.or_eq_true, Bool.and_eq_false_iff, Bool.or_eq_false_iff, Bool.not_eq_true', Bool.not_eq_false', beq_iff_eq, beq_eq_false_iff_ne, bne_iff_ne, bne_eq_false_iff_eq, gt_iff_lt, ge_iff_le, ne_eq, Decidable.not_not, Int.not_lt, Int.not_le, inB] at h6
              refine wpl_val (.int .i64 (F.s i)) (.int .i64 (F.s i)) rfl (by kernel_rfl) (by kernel_rfl) rfl ?_
              refine wpl_call (53) #[.int .i64 (F.s i), .int .i64 0, .int .i64 1000] rfl (by kernel_rfl) (by kernel_rfl) (within_any _ _ _ _) ?_
              intro w7 E7
              replace B1 := B1.ext E7
              have H7 := (H6).trans E7
              clear E7
              refine wpl_val (.bool (!(inB (F.s i) 0 1000))) (.bool (!(inB (F.s i) 0 1000))) rfl (by kernel_rfl) (by kernel_rfl) rfl ?_
              refine wpl_val (.bool (!(inB (F.s i) 0 1000))) (.bool (!(inB (F.s i) 0 1000))) rfl (by kernel_rfl) (by kernel_rfl) rfl ?_
              refine wpl_val (.bool (!(inB (F.s i) 0 1000))) (.bool (!(inB (F.s i) 0 1000))) rfl (by kernel_rfl) (by kernel_rfl) rfl ?_
              refine wpList_nil ?_
              refine then_normal ?_
              refine wp_frame (a' := ⟨#[.agg F.cells, .pointer (some ⟨g1, 0, none⟩), J1 0, .int .i64 (i : Int), .int .u8 (F.k i), .int .i64 (F.s i), .pointer (some ⟨g1, 0, none⟩), .int .i8 F.w, .int .i64 F.w, .bool true, .bool false, .bool false, .pointer (some ⟨g1, 1, none⟩), .int .i8 F.h, .int .i64 F.h, .bool true, .bool (!(inB F.h 1 10)), .bool (!(inB F.h 1 10)), .int .i64 (i : Int), .bool true, .int .i64 (i : Int), .int .i64 (i : Int), .pointer (some ⟨g1, 2, none⟩), .pointer (some ⟨g1, 2 + i, none⟩), .int .u8 (F.k i), .int .i64 (i : Int), .pointer (some ⟨g1, 102, none⟩), .pointer (some ⟨g1, 102 + i, none⟩), .int .i16 (F.s i), .int .i64 (F.s i), .bool false, .int .i64 (i : Int), .bool true, .bool false, .bool false, undef, undef, .bool false, .bool false, .int .u8 (F.k i), .bool false, .bool false, .bool (!(inB (F.s i) 0 1000)), .int .i64 (i : Int), .bool true, .bool true, .int .u8 (F.k i), .bool true, .bool true, .bool true, .int .i64 (F.s i), .bool (inB (F.s i) 0 1000), .bool (!(inB (F.s i) 0 1000)), .bool (!(inB (F.s i) 0 1000)), J1 39, J1 40, J1 41, J1 42, J1 43, J1 44, J1 45, J1 46, J1 47, J1 48, J1 49, J1 50, J1 51], []⟩) (by kernel_rfl) ?_
              refine wp_cond_split (t := !(inB (F.s i) 0 1000)) rfl (fun h7 => ?_) (fun h7 => ?_)
              · skip
                simp only [Bool.not_eq_true', Bool.not_eq_false'] at h7
                have hk9 := h7
                try simp only [decide_eq_true_eq, decide_eq_false_iff_not, Bool.and_eq_true, Bool.or_eq_true, Bool.and_eq_false_iff, Bool.or_eq_false_iff, Bool.not_eq_true', Bool.not_eq_false', beq_iff_eq, beq_eq_false_iff_ne, bne_iff_ne, bne_eq_false_iff_eq, gt_iff_lt, ge_iff_le, ne_eq, Decidable.not_not, Int.not_lt, Int.not_le, inB] at h7
                refine wp_seq ?_
                refine wp_region_lit ?_
                refine wpl_val (.bool false) (.bool false) rfl (by kernel_rfl) (by kernel_rfl) rfl ?_
                refine wpl_frame (a' := ⟨#[.agg F.cells, .pointer (some ⟨g1, 0, none⟩), .bool false, .int .i64 (i : Int), .int .u8 (F.k i), .int .i64 (F.s i), .pointer (some ⟨g1, 0, none⟩), .int .i8 F.w, .int .i64 F.w, .bool true, .bool false, .bool false, .pointer (some ⟨g1, 1, none⟩), .int .i8 F.h, .int .i64 F.h, .bool true, .bool (!(inB F.h 1 10)), .bool (!(inB F.h 1 10)), .int .i64 (i : Int), .bool true, .int .i64 (i : Int), .int .i64 (i : Int), .pointer (some ⟨g1, 2, none⟩), .pointer (some ⟨g1, 2 + i, none⟩), .int .u8 (F.k i), .int .i64 (i : Int), .pointer (some ⟨g1, 102, none⟩), .pointer (some ⟨g1, 102 + i, none⟩), .int .i16 (F.s i), .int .i64 (F.s i), .bool false, .int .i64 (i : Int), .bool true, .bool false, .bool false, undef, undef, .bool false, .bool false, .int .u8 (F.k i), .bool false, .bool false, .bool (!(inB (F.s i) 0 1000)), .int .i64 (i : Int), .bool true, .bool true, .int .u8 (F.k i), .bool true, .bool true, .bool true, .int .i64 (F.s i), .bool (inB (F.s i) 0 1000), .bool (!(inB (F.s i) 0 1000)), .bool (!(inB (F.s i) 0 1000)), J1 39, J1 40, J1 41, J1 42, J1 43, J1 44, J1 45, J1 46, J1 47, J1 48, J1 49, J1 50, J1 51], []⟩) (by kernel_rfl) ?_
                refine wpl_frame (a' := ⟨#[.agg F.cells, .pointer (some ⟨g1, 0, none⟩), .bool false, .int .i64 (i : Int), .int .u8 (F.k i), .int .i64 (F.s i), .pointer (some ⟨g1, 0, none⟩), .int .i8 F.w, .int .i64 F.w, .bool true, .bool false, .bool false, .pointer (some ⟨g1, 1, none⟩), .int .i8 F.h, .int .i64 F.h, .bool true, .bool (!(inB F.h 1 10)), .bool (!(inB F.h 1 10)), .int .i64 (i : Int), .bool true, .int .i64 (i : Int), .int .i64 (i : Int), .pointer (some ⟨g1, 2, none⟩), .pointer (some ⟨g1, 2 + i, none⟩), .int .u8 (F.k i), .int .i64 (i : Int), .pointer (some ⟨g1, 102, none⟩), .pointer (some ⟨g1, 102 + i, none⟩), .int .i16 (F.s i), .int .i64 (F.s i), .bool false, .int .i64 (i : Int), .bool true, .bool false, .bool false, undef, undef, .bool false, .bool false, .int .u8 (F.k i), .bool false, .bool false, .bool (!(inB (F.s i) 0 1000)), .int .i64 (i : Int), .bool true, .bool true, .int .u8 (F.k i), .bool true, .bool true, .bool true, .int .i64 (F.s i), .bool false, .bool (!(inB (F.s i) 0 1000)), .bool (!(inB (F.s i) 0 1000)), J1 39, J1 40, J1 41, J1 42, J1 43, J1 44, J1 45, J1 46, J1 47, J1 48, J1 49, J1 50, J1 51], []⟩) (by simp only [hk9, Bool.not_true, Bool.not_false]) ?_
                refine wpList_nil ?_
                refine then_normal ?_
                refine wp_frame (a' := ⟨#[.agg F.cells, .pointer (some ⟨g1, 0, none⟩), .bool false, .int .i64 (i : Int), .int .u8 (F.k i), .int .i64 (F.s i), .pointer (some ⟨g1, 0, none⟩), .int .i8 F.w, .int .i64 F.w, .bool true, .bool false, .bool false, .pointer (some ⟨g1, 1, none⟩), .int .i8 F.h, .int .i64 F.h, .bool true, .bool (!(inB F.h 1 10)), .bool (!(inB F.h 1 10)), .int .i64 (i : Int), .bool true, .int .i64 (i : Int), .int .i64 (i : Int), .pointer (some ⟨g1, 2, none⟩), .pointer (some ⟨g1, 2 + i, none⟩), .int .u8 (F.k i), .int .i64 (i : Int), .pointer (some ⟨g1, 102, none⟩), .pointer (some ⟨g1, 102 + i, none⟩), .int .i16 (F.s i), .int .i64 (F.s i), .bool false, .int .i64 (i : Int), .bool true, .bool false, .bool false, undef, undef, .bool false, .bool false, .int .u8 (F.k i), .bool false, .bool false, .bool (!(inB (F.s i) 0 1000)), .int .i64 (i : Int), .bool true, .bool true, .int .u8 (F.k i), .bool true, .bool true, .bool true, .int .i64 (F.s i), .bool false, .bool (!(inB (F.s i) 0 1000)), .bool (!(inB (F.s i) 0 1000)), J1 39, J1 40, J1 41, J1 42, J1 43, J1 44, J1 45, J1 46, J1 47, J1 48, J1 49, J1 50, J1 51], []⟩) (by kernel_rfl) ?_
                refine wp_ret ?_
                refine block_ret ?_
                refine block_ret ?_
                refine then_ret ?_
                refine then_ret ?_
                refine block_ret ?_
                refine then_ret ?_
                refine body_frame (a' := ⟨#[.agg F.cells, .pointer (some ⟨g1, 0, none⟩), .bool false, .int .i64 (i : Int), .int .u8 (F.k i), .int .i64 (F.s i), .pointer (some ⟨g1, 0, none⟩), .int .i8 F.w, .int .i64 F.w, .bool true, .bool false, .bool false, .pointer (some ⟨g1, 1, none⟩), .int .i8 F.h, .int .i64 F.h, .bool true, .bool (!(inB F.h 1 10)), .bool (!(inB F.h 1 10)), .int .i64 (i : Int), .bool true, .int .i64 (i : Int), .int .i64 (i : Int), .pointer (some ⟨g1, 2, none⟩), .pointer (some ⟨g1, 2 + i, none⟩), .int .u8 (F.k i), .int .i64 (i : Int), .pointer (some ⟨g1, 102, none⟩), .pointer (some ⟨g1, 102 + i, none⟩), .int .i16 (F.s i), .int .i64 (F.s i), .bool false, .int .i64 (i : Int), .bool true, .bool false, .bool false, undef, undef, .bool false, .bool false, .int .u8 (F.k i), .bool false, .bool false, .bool (!(inB (F.s i) 0 1000)), .int .i64 (i : Int), .bool true, .bool true, .int .u8 (F.k i), .bool true, .bool true, .bool true, .int .i64 (F.s i), .bool false, .bool (!(inB (F.s i) 0 1000)), .bool (!(inB (F.s i) 0 1000)), J1 39, J1 40, J1 41, J1 42, J1 43, J1 44, J1 45, J1 46, J1 47, J1 48, J1 49, J1 50, J1 51], []⟩) (by kernel_rfl) ?_
                refine ret1 (.bool (okB F)) rfl ?_ rfl ?_
                · show (.bool false : Value) = (.bool (okB F))
                  refine congrArg Value.bool ?_
                  first | exact (okB_w (by omega)).symm | exact (okB_h (by omega)).symm | exact (okB_true.2 ⟨by omega, by omega, by omega, by omega, fun j hj => hall j (by omega)⟩).symm | skip
                  all_goals (refine (okB_c i (by omega) ?_).symm)
                  all_goals (first | (rw [celB_in (by assumption)]; exact decide_eq_false (by omega)) | (rw [celB_out (by assumption)]; exact decide_eq_false (by omega)) | (cases hq_ : isB F (i : Int) with | false => (rw [celB_out hq_]; exact decide_eq_false (by omega)) | true => (rw [celB_in hq_]; exact decide_eq_false (by omega))))
                exact ⟨rfl, H7⟩
              · skip
                simp only [Bool.not_eq_true', Bool.not_eq_false'] at h7
                have hk10 := h7
                try simp only [decide_eq_true_eq, decide_eq_false_iff_not, Bool.and_eq_true, Bool.or_eq_true, Bool.and_eq_false_iff, Bool.or_eq_false_iff, Bool.not_eq_true', Bool.not_eq_false', beq_iff_eq, beq_eq_false_iff_ne, bne_iff_ne, bne_eq_false_iff_eq, gt_iff_lt, ge_iff_le, ne_eq, Decidable.not_not, Int.not_lt, Int.not_le, inB] at h7
                refine wp_seq ?_
                refine wp_region_lit ?_
                refine wpl_val (.int .i64 (i : Int)) (.int .i64 (i : Int)) rfl (by kernel_rfl) (by kernel_rfl) rfl ?_
                refine wpl_frame (a' := ⟨#[.agg F.cells, .pointer (some ⟨g1, 0, none⟩), J1 0, .int .i64 (i : Int), .int .u8 (F.k i), .int .i64 (F.s i), .pointer (some ⟨g1, 0, none⟩), .int .i8 F.w, .int .i64 F.w, .bool true, .bool false, .bool false, .pointer (some ⟨g1, 1, none⟩), .int .i8 F.h, .int .i64 F.h, .bool true, .bool (!(inB F.h 1 10)), .bool (!(inB F.h 1 10)), .int .i64 (i : Int), .bool true, .int .i64 (i : Int), .int .i64 (i : Int), .pointer (some ⟨g1, 2, none⟩), .pointer (some ⟨g1, 2 + i, none⟩), .int .u8 (F.k i), .int .i64 (i : Int), .pointer (some ⟨g1, 102, none⟩), .pointer (some ⟨g1, 102 + i, none⟩), .int .i16 (F.s i), .int .i64 (F.s i), .bool false, .int .i64 (i : Int), .bool true, .bool false, .bool false, undef, undef, .bool false, .bool false, .int .u8 (F.k i), .bool false, .bool false, .bool (!(inB (F.s i) 0 1000)), .int .i64 (i : Int), .bool true, .bool true, .int .u8 (F.k i), .bool true, .bool true, .bool true, .int .i64 (F.s i), .bool (inB (F.s i) 0 1000), .bool (!(inB (F.s i) 0 1000)), .bool (!(inB (F.s i) 0 1000)), J1 39, .int .i64 (i : Int), J1 41, J1 42, J1 43, J1 44, J1 45, J1 46, J1 47, J1 48, J1 49, J1 50, J1 51], []⟩) (by kernel_rfl) ?_
                refine wpl_frame (a' := ⟨#[.agg F.cells, .pointer (some ⟨g1, 0, none⟩), J1 0, .int .i64 (i : Int), .int .u8 (F.k i), .int .i64 (F.s i), .pointer (some ⟨g1, 0, none⟩), .int .i8 F.w, .int .i64 F.w, .bool true, .bool false, .bool false, .pointer (some ⟨g1, 1, none⟩), .int .i8 F.h, .int .i64 F.h, .bool true, .bool (!(inB F.h 1 10)), .bool (!(inB F.h 1 10)), .int .i64 (i : Int), .bool true, .int .i64 (i : Int), .int .i64 (i : Int), .pointer (some ⟨g1, 2, none⟩), .pointer (some ⟨g1, 2 + i, none⟩), .int .u8 (F.k i), .int .i64 (i : Int), .pointer (some ⟨g1, 102, none⟩), .pointer (some ⟨g1, 102 + i, none⟩), .int .i16 (F.s i), .int .i64 (F.s i), .bool false, .int .i64 (i : Int), .bool true, .bool false, .bool false, undef, undef, .bool false, .bool false, .int .u8 (F.k i), .bool false, .bool false, .bool (!(inB (F.s i) 0 1000)), .int .i64 (i : Int), .bool true, .bool true, .int .u8 (F.k i), .bool true, .bool true, .bool true, .int .i64 (F.s i), .bool true, .bool (!(inB (F.s i) 0 1000)), .bool (!(inB (F.s i) 0 1000)), J1 39, .int .i64 (i : Int), J1 41, J1 42, J1 43, J1 44, J1 45, J1 46, J1 47, J1 48, J1 49, J1 50, J1 51], []⟩) (by simp only [hk10, Bool.not_true, Bool.not_false]) ?_
                refine wpl_call (54) #[.pointer (some ⟨g1, 0, none⟩), .int .i64 (i : Int)] rfl (by kernel_rfl) (by kernel_rfl) (has_any F hF g1 _ _ _ B1) ?_
                intro w8 E8
                replace B1 := B1.ext E8
                have H8 := (H7).trans E8
                clear E8
                refine wpl_frame (a' := ⟨#[.agg F.cells, .pointer (some ⟨g1, 0, none⟩), J1 0, .int .i64 (i : Int), .int .u8 (F.k i), .int .i64 (F.s i), .pointer (some ⟨g1, 0, none⟩), .int .i8 F.w, .int .i64 F.w, .bool true, .bool false, .bool false, .pointer (some ⟨g1, 1, none⟩), .int .i8 F.h, .int .i64 F.h, .bool true, .bool (!(inB F.h 1 10)), .bool (!(inB F.h 1 10)), .int .i64 (i : Int), .bool true, .int .i64 (i : Int), .int .i64 (i : Int), .pointer (some ⟨g1, 2, none⟩), .pointer (some ⟨g1, 2 + i, none⟩), .int .u8 (F.k i), .int .i64 (i : Int), .pointer (some ⟨g1, 102, none⟩), .pointer (some ⟨g1, 102 + i, none⟩), .int .i16 (F.s i), .int .i64 (F.s i), .bool false, .int .i64 (i : Int), .bool true, .bool false, .bool false, undef, undef, .bool false, .bool false, .int .u8 (F.k i), .bool false, .bool false, .bool (!(inB (F.s i) 0 1000)), .int .i64 (i : Int), .bool true, .bool true, .int .u8 (F.k i), .bool true, .bool true, .bool true, .int .i64 (F.s i), .bool true, .bool (!(inB (F.s i) 0 1000)), .bool (!(inB (F.s i) 0 1000)), J1 39, .int .i64 (i : Int), .bool (isB F (i : Int)), J1 42, J1 43, J1 44, J1 45, J1 46, J1 47, J1 48, J1 49, J1 50, J1 51], []⟩) (by kernel_rfl) ?_
                refine wpl_frame (a' := ⟨#[.agg F.cells, .pointer (some ⟨g1, 0, none⟩), J1 0, .int .i64 (i : Int), .int .u8 (F.k i), .int .i64 (F.s i), .pointer (some ⟨g1, 0, none⟩), .int .i8 F.w, .int .i64 F.w, .bool true, .bool false, .bool false, .pointer (some ⟨g1, 1, none⟩), .int .i8 F.h, .int .i64 F.h, .bool true, .bool (!(inB F.h 1 10)), .bool (!(inB F.h 1 10)), .int .i64 (i : Int), .bool true, .int .i64 (i : Int), .int .i64 (i : Int), .pointer (some ⟨g1, 2, none⟩), .pointer (some ⟨g1, 2 + i, none⟩), .int .u8 (F.k i), .int .i64 (i : Int), .pointer (some ⟨g1, 102, none⟩), .pointer (some ⟨g1, 102 + i, none⟩), .int .i16 (F.s i), .int .i64 (F.s i), .bool false, .int .i64 (i : Int), .bool true, .bool false, .bool false, undef, undef, .bool false, .bool false, .int .u8 (F.k i), .bool false, .bool false, .bool (!(inB (F.s i) 0 1000)), .int .i64 (i : Int), .bool true, .bool true, .int .u8 (F.k i), .bool true, .bool true, .bool true, .int .i64 (F.s i), .bool true, .bool (!(inB (F.s i) 0 1000)), .bool (!(inB (F.s i) 0 1000)), J1 39, .int .i64 (i : Int), .bool true, J1 42, J1 43, J1 44, J1 45, J1 46, J1 47, J1 48, J1 49, J1 50, J1 51], []⟩) (by simp only [hk5, Bool.not_true, Bool.not_false]) ?_
                refine wpl_val (.bool false) (.bool false) rfl (by kernel_rfl) (by kernel_rfl) rfl ?_
                refine wpl_val (.bool false) (.bool false) rfl (by kernel_rfl) (by kernel_rfl) rfl ?_
                refine wpl_val (.int .u8 (F.k i)) (.int .u8 (F.k i)) rfl (by kernel_rfl) (by kernel_rfl) rfl ?_
                refine wpl_val (.bool ((F.k i) != 0)) (.bool ((F.k i) != 0)) rfl (by kernel_rfl) (by kernel_rfl) rfl ?_
                refine wpl_val (.bool ((F.k i) != 0)) (.bool ((F.k i) != 0)) rfl (by kernel_rfl) (by kernel_rfl) rfl ?_
                refine wpl_val (.bool ((F.k i) != 0)) (.bool ((F.k i) != 0)) rfl (by kernel_rfl) (by kernel_rfl) rfl ?_
                refine wpl_frame (a' := ⟨#[.agg F.cells, .pointer (some ⟨g1, 0, none⟩), J1 0, .int .i64 (i : Int), .int .u8 (F.k i), .int .i64 (F.s i), .pointer (some ⟨g1, 0, none⟩), .int .i8 F.w, .int .i64 F.w, .bool true, .bool false, .bool false, .pointer (some ⟨g1, 1, none⟩), .int .i8 F.h, .int .i64 F.h, .bool true, .bool (!(inB F.h 1 10)), .bool (!(inB F.h 1 10)), .int .i64 (i : Int), .bool true, .int .i64 (i : Int), .int .i64 (i : Int), .pointer (some ⟨g1, 2, none⟩), .pointer (some ⟨g1, 2 + i, none⟩), .int .u8 (F.k i), .int .i64 (i : Int), .pointer (some ⟨g1, 102, none⟩), .pointer (some ⟨g1, 102 + i, none⟩), .int .i16 (F.s i), .int .i64 (F.s i), .bool false, .int .i64 (i : Int), .bool true, .bool false, .bool false, undef, undef, .bool false, .bool false, .int .u8 (F.k i), .bool false, .bool false, .bool (!(inB (F.s i) 0 1000)), .int .i64 (i : Int), .bool true, .bool true, .int .u8 (F.k i), .bool true, .bool true, .bool true, .int .i64 (F.s i), .bool true, .bool (!(inB (F.s i) 0 1000)), .bool (!(inB (F.s i) 0 1000)), J1 39, .int .i64 (i : Int), .bool true, .bool false, .bool false, .int .u8 (F.k i), .bool ((F.k i) != 0), .bool ((F.k i) != 0), .bool ((F.k i) != 0), J1 48, J1 49, J1 50, J1 51], []⟩) (by kernel_rfl) ?_
                refine split_bool ((F.k i) != 0) (fun h8 => ?_) (fun h8 => ?_)
                · skip
                  refine wpl_frame (a' := ⟨#[.agg F.cells, .pointer (some ⟨g1, 0, none⟩), J1 0, .int .i64 (i : Int), .int .u8 (F.k i), .int .i64 (F.s i), .pointer (some ⟨g1, 0, none⟩), .int .i8 F.w, .int .i64 F.w, .bool true, .bool false, .bool false, .pointer (some ⟨g1, 1, none⟩), .int .i8 F.h, .int .i64 F.h, .bool true, .bool (!(inB F.h 1 10)), .bool (!(inB F.h 1 10)), .int .i64 (i : Int), .bool true, .int .i64 (i : Int), .int .i64 (i : Int), .pointer (some ⟨g1, 2, none⟩), .pointer (some ⟨g1, 2 + i, none⟩), .int .u8 (F.k i), .int .i64 (i : Int), .pointer (some ⟨g1, 102, none⟩), .pointer (some ⟨g1, 102 + i, none⟩), .int .i16 (F.s i), .int .i64 (F.s i), .bool false, .int .i64 (i : Int), .bool true, .bool false, .bool false, undef, undef, .bool false, .bool false, .int .u8 (F.k i), .bool false, .bool false, .bool (!(inB (F.s i) 0 1000)), .int .i64 (i : Int), .bool true, .bool true, .int .u8 (F.k i), .bool true, .bool true, .bool true, .int .i64 (F.s i), .bool true, .bool (!(inB (F.s i) 0 1000)), .bool (!(inB (F.s i) 0 1000)), J1 39, .int .i64 (i : Int), .bool true, .bool false, .bool false, .int .u8 (F.k i), .bool true, .bool true, .bool true, J1 48, J1 49, J1 50, J1 51], []⟩) (by simp only [h8, Bool.not_true, Bool.not_false]) ?_
                  have hk11 := h8
                  try simp only [decide_eq_true_eq, decide_eq_false_iff_not, Bool.and_eq_true, Bool.or_eq_true, Bool.and_eq_false_iff, Bool.or_eq_false_iff, Bool.not_eq_true', Bool.not_eq_false', beq_iff_eq, beq_eq_false_iff_ne, bne_iff_ne, bne_eq_false_iff_eq, gt_iff_lt, ge_iff_le, ne_eq, Decidable.not_not, Int.not_lt, Int.not_le, inB] at h8
                  refine wpl_val (.int .i64 (F.s i)) (.int .i64 (F.s i)) rfl (by kernel_rfl) (by kernel_rfl) rfl ?_
                  refine wpl_val (.bool ((F.s i) != 0)) (.bool ((F.s i) != 0)) rfl (by kernel_rfl) (by kernel_rfl) rfl ?_
                  refine wpl_val (.bool ((F.s i) != 0)) (.bool ((F.s i) != 0)) rfl (by kernel_rfl) (by kernel_rfl) rfl ?_
                  refine wpl_val (.bool ((F.s i) != 0)) (.bool ((F.s i) != 0)) rfl (by kernel_rfl) (by kernel_rfl) rfl ?_
                  refine wpList_nil ?_
                  refine then_normal ?_
                  refine wp_frame (a' := ⟨#[.agg F.cells, .pointer (some ⟨g1, 0, none⟩), J1 0, .int .i64 (i : Int), .int .u8 (F.k i), .int .i64 (F.s i), .pointer (some ⟨g1, 0, none⟩), .int .i8 F.w, .int .i64 F.w, .bool true, .bool false, .bool false, .pointer (some ⟨g1, 1, none⟩), .int .i8 F.h, .int .i64 F.h, .bool true, .bool (!(inB F.h 1 10)), .bool (!(inB F.h 1 10)), .int .i64 (i : Int), .bool true, .int .i64 (i : Int), .int .i64 (i : Int), .pointer (some ⟨g1, 2, none⟩), .pointer (some ⟨g1, 2 + i, none⟩), .int .u8 (F.k i), .int .i64 (i : Int), .pointer (some ⟨g1, 102, none⟩), .pointer (some ⟨g1, 102 + i, none⟩), .int .i16 (F.s i), .int .i64 (F.s i), .bool false, .int .i64 (i : Int), .bool true, .bool false, .bool false, undef, undef, .bool false, .bool false, .int .u8 (F.k i), .bool false, .bool false, .bool (!(inB (F.s i) 0 1000)), .int .i64 (i : Int), .bool true, .bool true, .int .u8 (F.k i), .bool true, .bool true, .bool true, .int .i64 (F.s i), .bool true, .bool (!(inB (F.s i) 0 1000)), .bool (!(inB (F.s i) 0 1000)), .bool ((F.s i) != 0), .int .i64 (i : Int), .bool true, .bool false, .bool false, .int .u8 (F.k i), .bool true, .bool true, .bool true, .int .i64 (F.s i), .bool ((F.s i) != 0), .bool ((F.s i) != 0), J1 51], []⟩) (by kernel_rfl) ?_
                  refine wp_cond_split (t := (F.s i) != 0) rfl (fun h9 => ?_) (fun h9 => ?_)
                  · skip
                    have hk12 := h9
                    try simp only [decide_eq_true_eq, decide_eq_false_iff_not, Bool.and_eq_true, Bool.or_eq_true, Bool.and_eq_false_iff, Bool.or_eq_false_iff, Bool.not_eq_true', Bool.not_eq_false', beq_iff_eq, beq_eq_false_iff_ne, bne_iff_ne, bne_eq_false_iff_eq, gt_iff_lt, ge_iff_le, ne_eq, Decidable.not_not, Int.not_lt, Int.not_le, inB] at h9
                    refine wp_seq ?_
                    refine wp_region_lit ?_
                    refine wpl_val (.bool false) (.bool false) rfl (by kernel_rfl) (by kernel_rfl) rfl ?_
                    refine wpl_frame (a' := ⟨#[.agg F.cells, .pointer (some ⟨g1, 0, none⟩), .bool false, .int .i64 (i : Int), .int .u8 (F.k i), .int .i64 (F.s i), .pointer (some ⟨g1, 0, none⟩), .int .i8 F.w, .int .i64 F.w, .bool true, .bool false, .bool false, .pointer (some ⟨g1, 1, none⟩), .int .i8 F.h, .int .i64 F.h, .bool true, .bool (!(inB F.h 1 10)), .bool (!(inB F.h 1 10)), .int .i64 (i : Int), .bool true, .int .i64 (i : Int), .int .i64 (i : Int), .pointer (some ⟨g1, 2, none⟩), .pointer (some ⟨g1, 2 + i, none⟩), .int .u8 (F.k i), .int .i64 (i : Int), .pointer (some ⟨g1, 102, none⟩), .pointer (some ⟨g1, 102 + i, none⟩), .int .i16 (F.s i), .int .i64 (F.s i), .bool false, .int .i64 (i : Int), .bool true, .bool false, .bool false, undef, undef, .bool false, .bool false, .int .u8 (F.k i), .bool false, .bool false, .bool (!(inB (F.s i) 0 1000)), .int .i64 (i : Int), .bool true, .bool true, .int .u8 (F.k i), .bool true, .bool true, .bool true, .int .i64 (F.s i), .bool true, .bool (!(inB (F.s i) 0 1000)), .bool (!(inB (F.s i) 0 1000)), .bool ((F.s i) != 0), .int .i64 (i : Int), .bool true, .bool false, .bool false, .int .u8 (F.k i), .bool true, .bool true, .bool true, .int .i64 (F.s i), .bool ((F.s i) != 0), .bool ((F.s i) != 0), J1 51], []⟩) (by kernel_rfl) ?_
                    refine wpl_frame (a' := ⟨#[.agg F.cells, .pointer (some ⟨g1, 0, none⟩), .bool false, .int .i64 (i : Int), .int .u8 (F.k i), .int .i64 (F.s i), .pointer (some ⟨g1, 0, none⟩), .int .i8 F.w, .int .i64 F.w, .bool true, .bool false, .bool false, .pointer (some ⟨g1, 1, none⟩), .int .i8 F.h, .int .i64 F.h, .bool true, .bool (!(inB F.h 1 10)), .bool (!(inB F.h 1 10)), .int .i64 (i : Int), .bool true, .int .i64 (i : Int), .int .i64 (i : Int), .pointer (some ⟨g1, 2, none⟩), .pointer (some ⟨g1, 2 + i, none⟩), .int .u8 (F.k i), .int .i64 (i : Int), .pointer (some ⟨g1, 102, none⟩), .pointer (some ⟨g1, 102 + i, none⟩), .int .i16 (F.s i), .int .i64 (F.s i), .bool false, .int .i64 (i : Int), .bool true, .bool false, .bool false, undef, undef, .bool false, .bool false, .int .u8 (F.k i), .bool false, .bool false, .bool (!(inB (F.s i) 0 1000)), .int .i64 (i : Int), .bool true, .bool true, .int .u8 (F.k i), .bool true, .bool true, .bool true, .int .i64 (F.s i), .bool true, .bool (!(inB (F.s i) 0 1000)), .bool (!(inB (F.s i) 0 1000)), .bool true, .int .i64 (i : Int), .bool true, .bool false, .bool false, .int .u8 (F.k i), .bool true, .bool true, .bool true, .int .i64 (F.s i), .bool true, .bool true, J1 51], []⟩) (by simp only [hk12, Bool.not_true, Bool.not_false]) ?_
                    refine wpList_nil ?_
                    refine then_normal ?_
                    refine wp_frame (a' := ⟨#[.agg F.cells, .pointer (some ⟨g1, 0, none⟩), .bool false, .int .i64 (i : Int), .int .u8 (F.k i), .int .i64 (F.s i), .pointer (some ⟨g1, 0, none⟩), .int .i8 F.w, .int .i64 F.w, .bool true, .bool false, .bool false, .pointer (some ⟨g1, 1, none⟩), .int .i8 F.h, .int .i64 F.h, .bool true, .bool (!(inB F.h 1 10)), .bool (!(inB F.h 1 10)), .int .i64 (i : Int), .bool true, .int .i64 (i : Int), .int .i64 (i : Int), .pointer (some ⟨g1, 2, none⟩), .pointer (some ⟨g1, 2 + i, none⟩), .int .u8 (F.k i), .int .i64 (i : Int), .pointer (some ⟨g1, 102, none⟩), .pointer (some ⟨g1, 102 + i, none⟩), .int .i16 (F.s i), .int .i64 (F.s i), .bool false, .int .i64 (i : Int), .bool true, .bool false, .bool false, undef, undef, .bool false, .bool false, .int .u8 (F.k i), .bool false, .bool false, .bool (!(inB (F.s i) 0 1000)), .int .i64 (i : Int), .bool true, .bool true, .int .u8 (F.k i), .bool true, .bool true, .bool true, .int .i64 (F.s i), .bool true, .bool (!(inB (F.s i) 0 1000)), .bool (!(inB (F.s i) 0 1000)), .bool true, .int .i64 (i : Int), .bool true, .bool false, .bool false, .int .u8 (F.k i), .bool true, .bool true, .bool true, .int .i64 (F.s i), .bool true, .bool true, J1 51], []⟩) (by kernel_rfl) ?_
                    refine wp_ret ?_
                    refine block_ret ?_
                    refine block_ret ?_
                    refine then_ret ?_
                    refine then_ret ?_
                    refine block_ret ?_
                    refine then_ret ?_
                    refine body_frame (a' := ⟨#[.agg F.cells, .pointer (some ⟨g1, 0, none⟩), .bool false, .int .i64 (i : Int), .int .u8 (F.k i), .int .i64 (F.s i), .pointer (some ⟨g1, 0, none⟩), .int .i8 F.w, .int .i64 F.w, .bool true, .bool false, .bool false, .pointer (some ⟨g1, 1, none⟩), .int .i8 F.h, .int .i64 F.h, .bool true, .bool (!(inB F.h 1 10)), .bool (!(inB F.h 1 10)), .int .i64 (i : Int), .bool true, .int .i64 (i : Int), .int .i64 (i : Int), .pointer (some ⟨g1, 2, none⟩), .pointer (some ⟨g1, 2 + i, none⟩), .int .u8 (F.k i), .int .i64 (i : Int), .pointer (some ⟨g1, 102, none⟩), .pointer (some ⟨g1, 102 + i, none⟩), .int .i16 (F.s i), .int .i64 (F.s i), .bool false, .int .i64 (i : Int), .bool true, .bool false, .bool false, undef, undef, .bool false, .bool false, .int .u8 (F.k i), .bool false, .bool false, .bool (!(inB (F.s i) 0 1000)), .int .i64 (i : Int), .bool true, .bool true, .int .u8 (F.k i), .bool true, .bool true, .bool true, .int .i64 (F.s i), .bool true, .bool (!(inB (F.s i) 0 1000)), .bool (!(inB (F.s i) 0 1000)), .bool true, .int .i64 (i : Int), .bool true, .bool false, .bool false, .int .u8 (F.k i), .bool true, .bool true, .bool true, .int .i64 (F.s i), .bool true, .bool true, J1 51], []⟩) (by kernel_rfl) ?_
                    refine ret1 (.bool (okB F)) rfl ?_ rfl ?_
                    · show (.bool false : Value) = (.bool (okB F))
                      refine congrArg Value.bool ?_
                      first | exact (okB_w (by omega)).symm | exact (okB_h (by omega)).symm | exact (okB_true.2 ⟨by omega, by omega, by omega, by omega, fun j hj => hall j (by omega)⟩).symm | skip
                      all_goals (refine (okB_c i (by omega) ?_).symm)
                      all_goals (first | (rw [celB_in (by assumption)]; exact decide_eq_false (by omega)) | (rw [celB_out (by assumption)]; exact decide_eq_false (by omega)) | (cases hq_ : isB F (i : Int) with | false => (rw [celB_out hq_]; exact decide_eq_false (by omega)) | true => (rw [celB_in hq_]; exact decide_eq_false (by omega))))
                    exact ⟨rfl, H8⟩
                  · skip
                    have hk13 := h9
                    try simp only [decide_eq_true_eq, decide_eq_false_iff_not, Bool.and_eq_true, Bool.or_eq_true, Bool.and_eq_false_iff, Bool.or_eq_false_iff, Bool.not_eq_true', Bool.not_eq_false', beq_iff_eq, beq_eq_false_iff_ne, bne_iff_ne, bne_eq_false_iff_eq, gt_iff_lt, ge_iff_le, ne_eq, Decidable.not_not, Int.not_lt, Int.not_le, inB] at h9
                    refine wp_skip ?_
                    refine block_normal ?_
                    refine block_normal ?_
                    refine then_normal ?_
                    refine wp_frame (a' := ⟨#[.agg F.cells, .pointer (some ⟨g1, 0, none⟩), J1 0, .int .i64 (i : Int), .int .u8 (F.k i), .int .i64 (F.s i), .pointer (some ⟨g1, 0, none⟩), .int .i8 F.w, .int .i64 F.w, .bool true, .bool false, .bool false, .pointer (some ⟨g1, 1, none⟩), .int .i8 F.h, .int .i64 F.h, .bool true, .bool (!(inB F.h 1 10)), .bool (!(inB F.h 1 10)), .int .i64 (i : Int), .bool true, .int .i64 (i : Int), .int .i64 (i : Int), .pointer (some ⟨g1, 2, none⟩), .pointer (some ⟨g1, 2 + i, none⟩), .int .u8 (F.k i), .int .i64 (i : Int), .pointer (some ⟨g1, 102, none⟩), .pointer (some ⟨g1, 102 + i, none⟩), .int .i16 (F.s i), .int .i64 (F.s i), .bool false, .int .i64 (i : Int), .bool true, .bool false, .bool false, undef, undef, .bool false, .bool false, .int .u8 (F.k i), .bool false, .bool false, .bool (!(inB (F.s i) 0 1000)), .int .i64 (i : Int), .bool true, .bool true, .int .u8 (F.k i), .bool true, .bool true, .bool true, .int .i64 (F.s i), .bool true, .bool (!(inB (F.s i) 0 1000)), .bool (!(inB (F.s i) 0 1000)), .bool ((F.s i) != 0), .int .i64 (i : Int), .bool true, .bool false, .bool false, .int .u8 (F.k i), .bool true, .bool true, .bool true, .int .i64 (F.s i), .bool ((F.s i) != 0), .bool ((F.s i) != 0), J1 51], []⟩) (by kernel_rfl) ?_
                    refine wp_region_lit ?_
                    refine wpl_val (.int .i64 (IntKind.i64.wrap ((i : Int) + 1))) (.int .i64 ((i : Int) + 1)) rfl (by kernel_rfl) (by kernel_rfl) (by exact congrArg _ (IntWalk.i64_in _ (by omega))) ?_
                    refine wpl_frame (a' := ⟨#[.agg F.cells, .pointer (some ⟨g1, 0, none⟩), J1 0, .int .i64 (i : Int), .int .u8 (F.k i), .int .i64 (F.s i), .pointer (some ⟨g1, 0, none⟩), .int .i8 F.w, .int .i64 F.w, .bool true, .bool false, .bool false, .pointer (some ⟨g1, 1, none⟩), .int .i8 F.h, .int .i64 F.h, .bool true, .bool (!(inB F.h 1 10)), .bool (!(inB F.h 1 10)), .int .i64 (i : Int), .bool true, .int .i64 (i : Int), .int .i64 (i : Int), .pointer (some ⟨g1, 2, none⟩), .pointer (some ⟨g1, 2 + i, none⟩), .int .u8 (F.k i), .int .i64 (i : Int), .pointer (some ⟨g1, 102, none⟩), .pointer (some ⟨g1, 102 + i, none⟩), .int .i16 (F.s i), .int .i64 (F.s i), .bool false, .int .i64 (i : Int), .bool true, .bool false, .bool false, undef, undef, .bool false, .bool false, .int .u8 (F.k i), .bool false, .bool false, .bool (!(inB (F.s i) 0 1000)), .int .i64 (i : Int), .bool true, .bool true, .int .u8 (F.k i), .bool true, .bool true, .bool true, .int .i64 (F.s i), .bool true, .bool (!(inB (F.s i) 0 1000)), .bool (!(inB (F.s i) 0 1000)), .bool ((F.s i) != 0), .int .i64 (i : Int), .bool true, .bool false, .bool false, .int .u8 (F.k i), .bool true, .bool true, .bool true, .int .i64 (F.s i), .bool ((F.s i) != 0), .bool ((F.s i) != 0), .int .i64 ((i : Int) + 1)], []⟩) (by kernel_rfl) ?_
                    refine wpl_frame (a' := ⟨#[.agg F.cells, .pointer (some ⟨g1, 0, none⟩), J1 0, .int .i64 (i : Int), .int .u8 (F.k i), .int .i64 (F.s i), .pointer (some ⟨g1, 0, none⟩), .int .i8 F.w, .int .i64 F.w, .bool true, .bool false, .bool false, .pointer (some ⟨g1, 1, none⟩), .int .i8 F.h, .int .i64 F.h, .bool true, .bool (!(inB F.h 1 10)), .bool (!(inB F.h 1 10)), .int .i64 (i : Int), .bool true, .int .i64 (i : Int), .int .i64 (i : Int), .pointer (some ⟨g1, 2, none⟩), .pointer (some ⟨g1, 2 + i, none⟩), .int .u8 (F.k i), .int .i64 (i : Int), .pointer (some ⟨g1, 102, none⟩), .pointer (some ⟨g1, 102 + i, none⟩), .int .i16 (F.s i), .int .i64 (F.s i), .bool false, .int .i64 (i : Int), .bool true, .bool false, .bool false, undef, undef, .bool false, .bool false, .int .u8 (F.k i), .bool false, .bool false, .bool (!(inB (F.s i) 0 1000)), .int .i64 (i : Int), .bool true, .bool true, .int .u8 (F.k i), .bool true, .bool true, .bool true, .int .i64 (F.s i), .bool true, .bool (!(inB (F.s i) 0 1000)), .bool (!(inB (F.s i) 0 1000)), .bool false, .int .i64 (i : Int), .bool true, .bool false, .bool false, .int .u8 (F.k i), .bool true, .bool true, .bool true, .int .i64 (F.s i), .bool false, .bool false, .int .i64 ((i : Int) + 1)], []⟩) (by simp only [hk13, Bool.not_true, Bool.not_false]) ?_
                    refine wpl_val (.int .i64 ((i : Int) + 1)) (.int .i64 ((i : Int) + 1)) rfl (by kernel_rfl) (by kernel_rfl) rfl ?_
                    refine wpList_nil ?_
                    refine then_normal ?_
                    refine ⟨_, ?_, i + 1, fun i_ => ([J1 0, .int .i64 (i : Int), .int .u8 (F.k i), .int .i64 (F.s i), .bool true, .int .i64 (i : Int), .int .i64 (i : Int), .pointer (some ⟨g1, 2, none⟩), .pointer (some ⟨g1, 2 + i, none⟩), .int .u8 (F.k i), .int .i64 (i : Int), .pointer (some ⟨g1, 102, none⟩), .pointer (some ⟨g1, 102 + i, none⟩), .int .i16 (F.s i), .int .i64 (F.s i), .bool false, .int .i64 (i : Int), .bool true, .bool false, .bool false, undef, undef, .bool false, .bool false, .int .u8 (F.k i), .bool false, .bool false, .bool (!(inB (F.s i) 0 1000)), .int .i64 (i : Int), .bool true, .bool true, .int .u8 (F.k i), .bool true, .bool true, .bool true, .int .i64 (F.s i), .bool true, .bool (!(inB (F.s i) 0 1000)), .bool (!(inB (F.s i) 0 1000)), .bool false, .int .i64 (i : Int), .bool true, .bool false, .bool false, .int .u8 (F.k i), .bool true, .bool true, .bool true, .int .i64 (F.s i), .bool false, .bool false, .int .i64 ((i : Int) + 1)] : List Value).getD i_ undef, rfl, ?_, ?_, H8, ?_, by kernel_rfl⟩
                    · omega
                    · omega
                    · refine all_step hall ?_
                      first | (rw [celB_in (by assumption)]; exact decide_eq_true (by omega)) | (rw [celB_out (by assumption)]; exact decide_eq_true (by omega))
                    · exact B1
                · skip
                  refine wpl_frame (a' := ⟨#[.agg F.cells, .pointer (some ⟨g1, 0, none⟩), J1 0, .int .i64 (i : Int), .int .u8 (F.k i), .int .i64 (F.s i), .pointer (some ⟨g1, 0, none⟩), .int .i8 F.w, .int .i64 F.w, .bool true, .bool false, .bool false, .pointer (some ⟨g1, 1, none⟩), .int .i8 F.h, .int .i64 F.h, .bool true, .bool (!(inB F.h 1 10)), .bool (!(inB F.h 1 10)), .int .i64 (i : Int), .bool true, .int .i64 (i : Int), .int .i64 (i : Int), .pointer (some ⟨g1, 2, none⟩), .pointer (some ⟨g1, 2 + i, none⟩), .int .u8 (F.k i), .int .i64 (i : Int), .pointer (some ⟨g1, 102, none⟩), .pointer (some ⟨g1, 102 + i, none⟩), .int .i16 (F.s i), .int .i64 (F.s i), .bool false, .int .i64 (i : Int), .bool true, .bool false, .bool false, undef, undef, .bool false, .bool false, .int .u8 (F.k i), .bool false, .bool false, .bool (!(inB (F.s i) 0 1000)), .int .i64 (i : Int), .bool true, .bool true, .int .u8 (F.k i), .bool true, .bool true, .bool true, .int .i64 (F.s i), .bool true, .bool (!(inB (F.s i) 0 1000)), .bool (!(inB (F.s i) 0 1000)), J1 39, .int .i64 (i : Int), .bool true, .bool false, .bool false, .int .u8 (F.k i), .bool false, .bool false, .bool false, J1 48, J1 49, J1 50, J1 51], []⟩) (by simp only [h8, Bool.not_true, Bool.not_false]) ?_
                  have hk14 := h8
                  try simp only [decide_eq_true_eq, decide_eq_false_iff_not, Bool.and_eq_true, Bool.or_eq_true, Bool.and_eq_false_iff, Bool.or_eq_false_iff, Bool.not_eq_true', Bool.not_eq_false', beq_iff_eq, beq_eq_false_iff_ne, bne_iff_ne, bne_eq_false_iff_eq, gt_iff_lt, ge_iff_le, ne_eq, Decidable.not_not, Int.not_lt, Int.not_le, inB] at h8
                  refine wpl_skip rfl (by kernel_rfl) ?_
                  refine wpl_skip rfl (by kernel_rfl) ?_
                  refine wpl_val (.bool false) (.bool false) rfl (by kernel_rfl) (by kernel_rfl) rfl ?_
                  refine wpl_val (.bool false) (.bool false) rfl (by kernel_rfl) (by kernel_rfl) rfl ?_
                  refine wpList_nil ?_
                  refine then_normal ?_
                  refine wp_frame (a' := ⟨#[.agg F.cells, .pointer (some ⟨g1, 0, none⟩), J1 0, .int .i64 (i : Int), .int .u8 (F.k i), .int .i64 (F.s i), .pointer (some ⟨g1, 0, none⟩), .int .i8 F.w, .int .i64 F.w, .bool true, .bool false, .bool false, .pointer (some ⟨g1, 1, none⟩), .int .i8 F.h, .int .i64 F.h, .bool true, .bool (!(inB F.h 1 10)), .bool (!(inB F.h 1 10)), .int .i64 (i : Int), .bool true, .int .i64 (i : Int), .int .i64 (i : Int), .pointer (some ⟨g1, 2, none⟩), .pointer (some ⟨g1, 2 + i, none⟩), .int .u8 (F.k i), .int .i64 (i : Int), .pointer (some ⟨g1, 102, none⟩), .pointer (some ⟨g1, 102 + i, none⟩), .int .i16 (F.s i), .int .i64 (F.s i), .bool false, .int .i64 (i : Int), .bool true, .bool false, .bool false, undef, undef, .bool false, .bool false, .int .u8 (F.k i), .bool false, .bool false, .bool (!(inB (F.s i) 0 1000)), .int .i64 (i : Int), .bool true, .bool true, .int .u8 (F.k i), .bool true, .bool true, .bool true, .int .i64 (F.s i), .bool true, .bool (!(inB (F.s i) 0 1000)), .bool (!(inB (F.s i) 0 1000)), .bool false, .int .i64 (i : Int), .bool true, .bool false, .bool false, .int .u8 (F.k i), .bool false, .bool false, .bool false, undef, undef, .bool false, J1 51], []⟩) (by kernel_rfl) ?_
                  refine wp_cond_false rfl ?_
                  refine wp_skip ?_
                  refine block_normal ?_
                  refine block_normal ?_
                  refine then_normal ?_
                  refine wp_frame (a' := ⟨#[.agg F.cells, .pointer (some ⟨g1, 0, none⟩), J1 0, .int .i64 (i : Int), .int .u8 (F.k i), .int .i64 (F.s i), .pointer (some ⟨g1, 0, none⟩), .int .i8 F.w, .int .i64 F.w, .bool true, .bool false, .bool false, .pointer (some ⟨g1, 1, none⟩), .int .i8 F.h, .int .i64 F.h, .bool true, .bool (!(inB F.h 1 10)), .bool (!(inB F.h 1 10)), .int .i64 (i : Int), .bool true, .int .i64 (i : Int), .int .i64 (i : Int), .pointer (some ⟨g1, 2, none⟩), .pointer (some ⟨g1, 2 + i, none⟩), .int .u8 (F.k i), .int .i64 (i : Int), .pointer (some ⟨g1, 102, none⟩), .pointer (some ⟨g1, 102 + i, none⟩), .int .i16 (F.s i), .int .i64 (F.s i), .bool false, .int .i64 (i : Int), .bool true, .bool false, .bool false, undef, undef, .bool false, .bool false, .int .u8 (F.k i), .bool false, .bool false, .bool (!(inB (F.s i) 0 1000)), .int .i64 (i : Int), .bool true, .bool true, .int .u8 (F.k i), .bool true, .bool true, .bool true, .int .i64 (F.s i), .bool true, .bool (!(inB (F.s i) 0 1000)), .bool (!(inB (F.s i) 0 1000)), .bool false, .int .i64 (i : Int), .bool true, .bool false, .bool false, .int .u8 (F.k i), .bool false, .bool false, .bool false, undef, undef, .bool false, J1 51], []⟩) (by kernel_rfl) ?_
                  refine wp_region_lit ?_
                  refine wpl_val (.int .i64 (IntKind.i64.wrap ((i : Int) + 1))) (.int .i64 ((i : Int) + 1)) rfl (by kernel_rfl) (by kernel_rfl) (by exact congrArg _ (IntWalk.i64_in _ (by omega))) ?_
                  refine wpl_val (.int .i64 ((i : Int) + 1)) (.int .i64 ((i : Int) + 1)) rfl (by kernel_rfl) (by kernel_rfl) rfl ?_
                  refine wpList_nil ?_
                  refine then_normal ?_
                  refine ⟨_, ?_, i + 1, fun i_ => ([J1 0, .int .i64 (i : Int), .int .u8 (F.k i), .int .i64 (F.s i), .bool true, .int .i64 (i : Int), .int .i64 (i : Int), .pointer (some ⟨g1, 2, none⟩), .pointer (some ⟨g1, 2 + i, none⟩), .int .u8 (F.k i), .int .i64 (i : Int), .pointer (some ⟨g1, 102, none⟩), .pointer (some ⟨g1, 102 + i, none⟩), .int .i16 (F.s i), .int .i64 (F.s i), .bool false, .int .i64 (i : Int), .bool true, .bool false, .bool false, undef, undef, .bool false, .bool false, .int .u8 (F.k i), .bool false, .bool false, .bool (!(inB (F.s i) 0 1000)), .int .i64 (i : Int), .bool true, .bool true, .int .u8 (F.k i), .bool true, .bool true, .bool true, .int .i64 (F.s i), .bool true, .bool (!(inB (F.s i) 0 1000)), .bool (!(inB (F.s i) 0 1000)), .bool false, .int .i64 (i : Int), .bool true, .bool false, .bool false, .int .u8 (F.k i), .bool false, .bool false, .bool false, undef, undef, .bool false, .int .i64 ((i : Int) + 1)] : List Value).getD i_ undef, rfl, ?_, ?_, H8, ?_, by kernel_rfl⟩
                  · omega
                  · omega
                  · refine all_step hall ?_
                    first | (rw [celB_in (by assumption)]; exact decide_eq_true (by omega)) | (rw [celB_out (by assumption)]; exact decide_eq_true (by omega))
                  · exact B1
            · skip
              refine wpl_frame (a' := ⟨#[.agg F.cells, .pointer (some ⟨g1, 0, none⟩), J1 0, .int .i64 (i : Int), .int .u8 (F.k i), .int .i64 (F.s i), .pointer (some ⟨g1, 0, none⟩), .int .i8 F.w, .int .i64 F.w, .bool true, .bool false, .bool false, .pointer (some ⟨g1, 1, none⟩), .int .i8 F.h, .int .i64 F.h, .bool true, .bool (!(inB F.h 1 10)), .bool (!(inB F.h 1 10)), .int .i64 (i : Int), .bool true, .int .i64 (i : Int), .int .i64 (i : Int), .pointer (some ⟨g1, 2, none⟩), .pointer (some ⟨g1, 2 + i, none⟩), .int .u8 (F.k i), .int .i64 (i : Int), .pointer (some ⟨g1, 102, none⟩), .pointer (some ⟨g1, 102 + i, none⟩), .int .i16 (F.s i), .int .i64 (F.s i), .bool false, .int .i64 (i : Int), .bool true, .bool false, .bool false, undef, undef, .bool false, .bool false, .int .u8 (F.k i), .bool false, .bool false, J1 27, .int .i64 (i : Int), .bool true, .bool true, .int .u8 (F.k i), .bool false, .bool false, .bool false, J1 35, J1 36, J1 37, J1 38, J1 39, J1 40, J1 41, J1 42, J1 43, J1 44, J1 45, J1 46, J1 47, J1 48, J1 49, J1 50, J1 51], []⟩) (by simp only [h6, Bool.not_true, Bool.not_false]) ?_
              have hk15 := h6
              try simp only [decide_eq_true_eq, decide_eq_false_iff_not, Bool.and_eq_true, Bool.or_eq_true, Bool.and_eq_false_iff, Bool.or_eq_false_iff, Bool.not_eq_true', Bool.not_eq_false', beq_iff_eq, beq_eq_false_iff_ne, bne_iff_ne, bne_eq_false_iff_eq, gt_iff_lt, ge_iff_le, ne_eq, Decidable.not_not, Int.not_lt, Int.not_le, inB] at h6
              refine wpl_skip rfl (by kernel_rfl) ?_
              refine wpl_skip rfl (by kernel_rfl) ?_
              refine wpl_skip rfl (by kernel_rfl) ?_
              refine wpl_val (.bool false) (.bool false) rfl (by kernel_rfl) (by kernel_rfl) rfl ?_
              refine wpl_val (.bool false) (.bool false) rfl (by kernel_rfl) (by kernel_rfl) rfl ?_
              refine wpList_nil ?_
              refine then_normal ?_
              refine wp_frame (a' := ⟨#[.agg F.cells, .pointer (some ⟨g1, 0, none⟩), J1 0, .int .i64 (i : Int), .int .u8 (F.k i), .int .i64 (F.s i), .pointer (some ⟨g1, 0, none⟩), .int .i8 F.w, .int .i64 F.w, .bool true, .bool false, .bool false, .pointer (some ⟨g1, 1, none⟩), .int .i8 F.h, .int .i64 F.h, .bool true, .bool (!(inB F.h 1 10)), .bool (!(inB F.h 1 10)), .int .i64 (i : Int), .bool true, .int .i64 (i : Int), .int .i64 (i : Int), .pointer (some ⟨g1, 2, none⟩), .pointer (some ⟨g1, 2 + i, none⟩), .int .u8 (F.k i), .int .i64 (i : Int), .pointer (some ⟨g1, 102, none⟩), .pointer (some ⟨g1, 102 + i, none⟩), .int .i16 (F.s i), .int .i64 (F.s i), .bool false, .int .i64 (i : Int), .bool true, .bool false, .bool false, undef, undef, .bool false, .bool false, .int .u8 (F.k i), .bool false, .bool false, .bool false, .int .i64 (i : Int), .bool true, .bool true, .int .u8 (F.k i), .bool false, .bool false, .bool false, undef, undef, undef, .bool false, J1 39, J1 40, J1 41, J1 42, J1 43, J1 44, J1 45, J1 46, J1 47, J1 48, J1 49, J1 50, J1 51], []⟩) (by kernel_rfl) ?_
              refine wp_cond_false rfl ?_
              refine wp_seq ?_
              refine wp_region_lit ?_
              refine wpl_val (.int .i64 (i : Int)) (.int .i64 (i : Int)) rfl (by kernel_rfl) (by kernel_rfl) rfl ?_
              refine wpl_call (54) #[.pointer (some ⟨g1, 0, none⟩), .int .i64 (i : Int)] rfl (by kernel_rfl) (by kernel_rfl) (has_any F hF g1 _ _ _ B1) ?_
              intro w9 E9
              replace B1 := B1.ext E9
              have H9 := (H6).trans E9
              clear E9
              refine wpl_frame (a' := ⟨#[.agg F.cells, .pointer (some ⟨g1, 0, none⟩), J1 0, .int .i64 (i : Int), .int .u8 (F.k i), .int .i64 (F.s i), .pointer (some ⟨g1, 0, none⟩), .int .i8 F.w, .int .i64 F.w, .bool true, .bool false, .bool false, .pointer (some ⟨g1, 1, none⟩), .int .i8 F.h, .int .i64 F.h, .bool true, .bool (!(inB F.h 1 10)), .bool (!(inB F.h 1 10)), .int .i64 (i : Int), .bool true, .int .i64 (i : Int), .int .i64 (i : Int), .pointer (some ⟨g1, 2, none⟩), .pointer (some ⟨g1, 2 + i, none⟩), .int .u8 (F.k i), .int .i64 (i : Int), .pointer (some ⟨g1, 102, none⟩), .pointer (some ⟨g1, 102 + i, none⟩), .int .i16 (F.s i), .int .i64 (F.s i), .bool false, .int .i64 (i : Int), .bool true, .bool false, .bool false, undef, undef, .bool false, .bool false, .int .u8 (F.k i), .bool false, .bool false, .bool false, .int .i64 (i : Int), .bool true, .bool true, .int .u8 (F.k i), .bool false, .bool false, .bool false, undef, undef, undef, .bool false, J1 39, .int .i64 (i : Int), .bool (isB F (i : Int)), J1 42, J1 43, J1 44, J1 45, J1 46, J1 47, J1 48, J1 49, J1 50, J1 51], []⟩) (by kernel_rfl) ?_
              refine wpl_frame (a' := ⟨#[.agg F.cells, .pointer (some ⟨g1, 0, none⟩), J1 0, .int .i64 (i : Int), .int .u8 (F.k i), .int .i64 (F.s i), .pointer (some ⟨g1, 0, none⟩), .int .i8 F.w, .int .i64 F.w, .bool true, .bool false, .bool false, .pointer (some ⟨g1, 1, none⟩), .int .i8 F.h, .int .i64 F.h, .bool true, .bool (!(inB F.h 1 10)), .bool (!(inB F.h 1 10)), .int .i64 (i : Int), .bool true, .int .i64 (i : Int), .int .i64 (i : Int), .pointer (some ⟨g1, 2, none⟩), .pointer (some ⟨g1, 2 + i, none⟩), .int .u8 (F.k i), .int .i64 (i : Int), .pointer (some ⟨g1, 102, none⟩), .pointer (some ⟨g1, 102 + i, none⟩), .int .i16 (F.s i), .int .i64 (F.s i), .bool false, .int .i64 (i : Int), .bool true, .bool false, .bool false, undef, undef, .bool false, .bool false, .int .u8 (F.k i), .bool false, .bool false, .bool false, .int .i64 (i : Int), .bool true, .bool true, .int .u8 (F.k i), .bool false, .bool false, .bool false, undef, undef, undef, .bool false, J1 39, .int .i64 (i : Int), .bool true, J1 42, J1 43, J1 44, J1 45, J1 46, J1 47, J1 48, J1 49, J1 50, J1 51], []⟩) (by simp only [hk5, Bool.not_true, Bool.not_false]) ?_
              refine wpl_val (.bool false) (.bool false) rfl (by kernel_rfl) (by kernel_rfl) rfl ?_
              refine wpl_val (.bool false) (.bool false) rfl (by kernel_rfl) (by kernel_rfl) rfl ?_
              refine wpl_val (.int .u8 (F.k i)) (.int .u8 (F.k i)) rfl (by kernel_rfl) (by kernel_rfl) rfl ?_
              refine wpl_val (.bool ((F.k i) != 0)) (.bool ((F.k i) != 0)) rfl (by kernel_rfl) (by kernel_rfl) rfl ?_
              refine wpl_val (.bool ((F.k i) != 0)) (.bool ((F.k i) != 0)) rfl (by kernel_rfl) (by kernel_rfl) rfl ?_
              refine wpl_val (.bool ((F.k i) != 0)) (.bool ((F.k i) != 0)) rfl (by kernel_rfl) (by kernel_rfl) rfl ?_
              refine wpl_frame (a' := ⟨#[.agg F.cells, .pointer (some ⟨g1, 0, none⟩), J1 0, .int .i64 (i : Int), .int .u8 (F.k i), .int .i64 (F.s i), .pointer (some ⟨g1, 0, none⟩), .int .i8 F.w, .int .i64 F.w, .bool true, .bool false, .bool false, .pointer (some ⟨g1, 1, none⟩), .int .i8 F.h, .int .i64 F.h, .bool true, .bool (!(inB F.h 1 10)), .bool (!(inB F.h 1 10)), .int .i64 (i : Int), .bool true, .int .i64 (i : Int), .int .i64 (i : Int), .pointer (some ⟨g1, 2, none⟩), .pointer (some ⟨g1, 2 + i, none⟩), .int .u8 (F.k i), .int .i64 (i : Int), .pointer (some ⟨g1, 102, none⟩), .pointer (some ⟨g1, 102 + i, none⟩), .int .i16 (F.s i), .int .i64 (F.s i), .bool false, .int .i64 (i : Int), .bool true, .bool false, .bool false, undef, undef, .bool false, .bool false, .int .u8 (F.k i), .bool false, .bool false, .bool false, .int .i64 (i : Int), .bool true, .bool true, .int .u8 (F.k i), .bool false, .bool false, .bool false, undef, undef, undef, .bool false, J1 39, .int .i64 (i : Int), .bool true, .bool false, .bool false, .int .u8 (F.k i), .bool ((F.k i) != 0), .bool ((F.k i) != 0), .bool ((F.k i) != 0), J1 48, J1 49, J1 50, J1 51], []⟩) (by kernel_rfl) ?_
              refine split_bool ((F.k i) != 0) (fun h10 => ?_) (fun h10 => ?_)
              · skip
                refine wpl_frame (a' := ⟨#[.agg F.cells, .pointer (some ⟨g1, 0, none⟩), J1 0, .int .i64 (i : Int), .int .u8 (F.k i), .int .i64 (F.s i), .pointer (some ⟨g1, 0, none⟩), .int .i8 F.w, .int .i64 F.w, .bool true, .bool false, .bool false, .pointer (some ⟨g1, 1, none⟩), .int .i8 F.h, .int .i64 F.h, .bool true, .bool (!(inB F.h 1 10)), .bool (!(inB F.h 1 10)), .int .i64 (i : Int), .bool true, .int .i64 (i : Int), .int .i64 (i : Int), .pointer (some ⟨g1, 2, none⟩), .pointer (some ⟨g1, 2 + i, none⟩), .int .u8 (F.k i), .int .i64 (i : Int), .pointer (some ⟨g1, 102, none⟩), .pointer (some ⟨g1, 102 + i, none⟩), .int .i16 (F.s i), .int .i64 (F.s i), .bool false, .int .i64 (i : Int), .bool true, .bool false, .bool false, undef, undef, .bool false, .bool false, .int .u8 (F.k i), .bool false, .bool false, .bool false, .int .i64 (i : Int), .bool true, .bool true, .int .u8 (F.k i), .bool false, .bool false, .bool false, undef, undef, undef, .bool false, J1 39, .int .i64 (i : Int), .bool true, .bool false, .bool false, .int .u8 (F.k i), .bool true, .bool true, .bool true, J1 48, J1 49, J1 50, J1 51], []⟩) (by simp only [h10, Bool.not_true, Bool.not_false]) ?_
                have hk16 := h10
                try simp only [decide_eq_true_eq, decide_eq_false_iff_not, Bool.and_eq_true, Bool.or_eq_true, Bool.and_eq_false_iff, Bool.or_eq_false_iff, Bool.not_eq_true', Bool.not_eq_false', beq_iff_eq, beq_eq_false_iff_ne, bne_iff_ne, bne_eq_false_iff_eq, gt_iff_lt, ge_iff_le, ne_eq, Decidable.not_not, Int.not_lt, Int.not_le, inB] at h10
                refine wpl_val (.int .i64 (F.s i)) (.int .i64 (F.s i)) rfl (by kernel_rfl) (by kernel_rfl) rfl ?_
                refine wpl_val (.bool ((F.s i) != 0)) (.bool ((F.s i) != 0)) rfl (by kernel_rfl) (by kernel_rfl) rfl ?_
                refine wpl_val (.bool ((F.s i) != 0)) (.bool ((F.s i) != 0)) rfl (by kernel_rfl) (by kernel_rfl) rfl ?_
                refine wpl_val (.bool ((F.s i) != 0)) (.bool ((F.s i) != 0)) rfl (by kernel_rfl) (by kernel_rfl) rfl ?_
                refine wpList_nil ?_
                refine then_normal ?_
                refine wp_frame (a' := ⟨#[.agg F.cells, .pointer (some ⟨g1, 0, none⟩), J1 0, .int .i64 (i : Int), .int .u8 (F.k i), .int .i64 (F.s i), .pointer (some ⟨g1, 0, none⟩), .int .i8 F.w, .int .i64 F.w, .bool true, .bool false, .bool false, .pointer (some ⟨g1, 1, none⟩), .int .i8 F.h, .int .i64 F.h, .bool true, .bool (!(inB F.h 1 10)), .bool (!(inB F.h 1 10)), .int .i64 (i : Int), .bool true, .int .i64 (i : Int), .int .i64 (i : Int), .pointer (some ⟨g1, 2, none⟩), .pointer (some ⟨g1, 2 + i, none⟩), .int .u8 (F.k i), .int .i64 (i : Int), .pointer (some ⟨g1, 102, none⟩), .pointer (some ⟨g1, 102 + i, none⟩), .int .i16 (F.s i), .int .i64 (F.s i), .bool false, .int .i64 (i : Int), .bool true, .bool false, .bool false, undef, undef, .bool false, .bool false, .int .u8 (F.k i), .bool false, .bool false, .bool false, .int .i64 (i : Int), .bool true, .bool true, .int .u8 (F.k i), .bool false, .bool false, .bool false, undef, undef, undef, .bool false, .bool ((F.s i) != 0), .int .i64 (i : Int), .bool true, .bool false, .bool false, .int .u8 (F.k i), .bool true, .bool true, .bool true, .int .i64 (F.s i), .bool ((F.s i) != 0), .bool ((F.s i) != 0), J1 51], []⟩) (by kernel_rfl) ?_
                refine wp_cond_split (t := (F.s i) != 0) rfl (fun h11 => ?_) (fun h11 => ?_)
                · skip
                  have hk17 := h11
                  try simp only [decide_eq_true_eq, decide_eq_false_iff_not, Bool.and_eq_true, Bool.or_eq_true, Bool.and_eq_false_iff, Bool.or_eq_false_iff, Bool.not_eq_true', Bool.not_eq_false', beq_iff_eq, beq_eq_false_iff_ne, bne_iff_ne, bne_eq_false_iff_eq, gt_iff_lt, ge_iff_le, ne_eq, Decidable.not_not, Int.not_lt, Int.not_le, inB] at h11
                  refine wp_seq ?_
                  refine wp_region_lit ?_
                  refine wpl_val (.bool false) (.bool false) rfl (by kernel_rfl) (by kernel_rfl) rfl ?_
                  refine wpl_frame (a' := ⟨#[.agg F.cells, .pointer (some ⟨g1, 0, none⟩), .bool false, .int .i64 (i : Int), .int .u8 (F.k i), .int .i64 (F.s i), .pointer (some ⟨g1, 0, none⟩), .int .i8 F.w, .int .i64 F.w, .bool true, .bool false, .bool false, .pointer (some ⟨g1, 1, none⟩), .int .i8 F.h, .int .i64 F.h, .bool true, .bool (!(inB F.h 1 10)), .bool (!(inB F.h 1 10)), .int .i64 (i : Int), .bool true, .int .i64 (i : Int), .int .i64 (i : Int), .pointer (some ⟨g1, 2, none⟩), .pointer (some ⟨g1, 2 + i, none⟩), .int .u8 (F.k i), .int .i64 (i : Int), .pointer (some ⟨g1, 102, none⟩), .pointer (some ⟨g1, 102 + i, none⟩), .int .i16 (F.s i), .int .i64 (F.s i), .bool false, .int .i64 (i : Int), .bool true, .bool false, .bool false, undef, undef, .bool false, .bool false, .int .u8 (F.k i), .bool false, .bool false, .bool false, .int .i64 (i : Int), .bool true, .bool true, .int .u8 (F.k i), .bool false, .bool false, .bool false, undef, undef, undef, .bool false, .bool ((F.s i) != 0), .int .i64 (i : Int), .bool true, .bool false, .bool false, .int .u8 (F.k i), .bool true, .bool true, .bool true, .int .i64 (F.s i), .bool ((F.s i) != 0), .bool ((F.s i) != 0), J1 51], []⟩) (by kernel_rfl) ?_
                  refine wpl_frame (a' := ⟨#[.agg F.cells, .pointer (some ⟨g1, 0, none⟩), .bool false, .int .i64 (i : Int), .int .u8 (F.k i), .int .i64 (F.s i), .pointer (some ⟨g1, 0, none⟩), .int .i8 F.w, .int .i64 F.w, .bool true, .bool false, .bool false, .pointer (some ⟨g1, 1, none⟩), .int .i8 F.h, .int .i64 F.h, .bool true, .bool (!(inB F.h 1 10)), .bool (!(inB F.h 1 10)), .int .i64 (i : Int), .bool true, .int .i64 (i : Int), .int .i64 (i : Int), .pointer (some ⟨g1, 2, none⟩), .pointer (some ⟨g1, 2 + i, none⟩), .int .u8 (F.k i), .int .i64 (i : Int), .pointer (some ⟨g1, 102, none⟩), .pointer (some ⟨g1, 102 + i, none⟩), .int .i16 (F.s i), .int .i64 (F.s i), .bool false, .int .i64 (i : Int), .bool true, .bool false, .bool false, undef, undef, .bool false, .bool false, .int .u8 (F.k i), .bool false, .bool false, .bool false, .int .i64 (i : Int), .bool true, .bool true, .int .u8 (F.k i), .bool false, .bool false, .bool false, undef, undef, undef, .bool false, .bool true, .int .i64 (i : Int), .bool true, .bool false, .bool false, .int .u8 (F.k i), .bool true, .bool true, .bool true, .int .i64 (F.s i), .bool true, .bool true, J1 51], []⟩) (by simp only [hk17, Bool.not_true, Bool.not_false]) ?_
                  refine wpList_nil ?_
                  refine then_normal ?_
                  refine wp_frame (a' := ⟨#[.agg F.cells, .pointer (some ⟨g1, 0, none⟩), .bool false, .int .i64 (i : Int), .int .u8 (F.k i), .int .i64 (F.s i), .pointer (some ⟨g1, 0, none⟩), .int .i8 F.w, .int .i64 F.w, .bool true, .bool false, .bool false, .pointer (some ⟨g1, 1, none⟩), .int .i8 F.h, .int .i64 F.h, .bool true, .bool (!(inB F.h 1 10)), .bool (!(inB F.h 1 10)), .int .i64 (i : Int), .bool true, .int .i64 (i : Int), .int .i64 (i : Int), .pointer (some ⟨g1, 2, none⟩), .pointer (some ⟨g1, 2 + i, none⟩), .int .u8 (F.k i), .int .i64 (i : Int), .pointer (some ⟨g1, 102, none⟩), .pointer (some ⟨g1, 102 + i, none⟩), .int .i16 (F.s i), .int .i64 (F.s i), .bool false, .int .i64 (i : Int), .bool true, .bool false, .bool false, undef, undef, .bool false, .bool false, .int .u8 (F.k i), .bool false, .bool false, .bool false, .int .i64 (i : Int), .bool true, .bool true, .int .u8 (F.k i), .bool false, .bool false, .bool false, undef, undef, undef, .bool false, .bool true, .int .i64 (i : Int), .bool true, .bool false, .bool false, .int .u8 (F.k i), .bool true, .bool true, .bool true, .int .i64 (F.s i), .bool true, .bool true, J1 51], []⟩) (by kernel_rfl) ?_
                  refine wp_ret ?_
                  refine block_ret ?_
                  refine block_ret ?_
                  refine then_ret ?_
                  refine then_ret ?_
                  refine block_ret ?_
                  refine then_ret ?_
                  refine body_frame (a' := ⟨#[.agg F.cells, .pointer (some ⟨g1, 0, none⟩), .bool false, .int .i64 (i : Int), .int .u8 (F.k i), .int .i64 (F.s i), .pointer (some ⟨g1, 0, none⟩), .int .i8 F.w, .int .i64 F.w, .bool true, .bool false, .bool false, .pointer (some ⟨g1, 1, none⟩), .int .i8 F.h, .int .i64 F.h, .bool true, .bool (!(inB F.h 1 10)), .bool (!(inB F.h 1 10)), .int .i64 (i : Int), .bool true, .int .i64 (i : Int), .int .i64 (i : Int), .pointer (some ⟨g1, 2, none⟩), .pointer (some ⟨g1, 2 + i, none⟩), .int .u8 (F.k i), .int .i64 (i : Int), .pointer (some ⟨g1, 102, none⟩), .pointer (some ⟨g1, 102 + i, none⟩), .int .i16 (F.s i), .int .i64 (F.s i), .bool false, .int .i64 (i : Int), .bool true, .bool false, .bool false, undef, undef, .bool false, .bool false, .int .u8 (F.k i), .bool false, .bool false, .bool false, .int .i64 (i : Int), .bool true, .bool true, .int .u8 (F.k i), .bool false, .bool false, .bool false, undef, undef, undef, .bool false, .bool true, .int .i64 (i : Int), .bool true, .bool false, .bool false, .int .u8 (F.k i), .bool true, .bool true, .bool true, .int .i64 (F.s i), .bool true, .bool true, J1 51], []⟩) (by kernel_rfl) ?_
                  refine ret1 (.bool (okB F)) rfl ?_ rfl ?_
                  · show (.bool false : Value) = (.bool (okB F))
                    refine congrArg Value.bool ?_
                    first | exact (okB_w (by omega)).symm | exact (okB_h (by omega)).symm | exact (okB_true.2 ⟨by omega, by omega, by omega, by omega, fun j hj => hall j (by omega)⟩).symm | skip
                    all_goals (refine (okB_c i (by omega) ?_).symm)
                    all_goals (first | (rw [celB_in (by assumption)]; exact decide_eq_false (by omega)) | (rw [celB_out (by assumption)]; exact decide_eq_false (by omega)) | (cases hq_ : isB F (i : Int) with | false => (rw [celB_out hq_]; exact decide_eq_false (by omega)) | true => (rw [celB_in hq_]; exact decide_eq_false (by omega))))
                  exact ⟨rfl, H9⟩
                · skip
                  have hk18 := h11
                  try simp only [decide_eq_true_eq, decide_eq_false_iff_not, Bool.and_eq_true, Bool.or_eq_true, Bool.and_eq_false_iff, Bool.or_eq_false_iff, Bool.not_eq_true', Bool.not_eq_false', beq_iff_eq, beq_eq_false_iff_ne, bne_iff_ne, bne_eq_false_iff_eq, gt_iff_lt, ge_iff_le, ne_eq, Decidable.not_not, Int.not_lt, Int.not_le, inB] at h11
                  refine wp_skip ?_
                  refine block_normal ?_
                  refine block_normal ?_
                  refine then_normal ?_
                  refine wp_frame (a' := ⟨#[.agg F.cells, .pointer (some ⟨g1, 0, none⟩), J1 0, .int .i64 (i : Int), .int .u8 (F.k i), .int .i64 (F.s i), .pointer (some ⟨g1, 0, none⟩), .int .i8 F.w, .int .i64 F.w, .bool true, .bool false, .bool false, .pointer (some ⟨g1, 1, none⟩), .int .i8 F.h, .int .i64 F.h, .bool true, .bool (!(inB F.h 1 10)), .bool (!(inB F.h 1 10)), .int .i64 (i : Int), .bool true, .int .i64 (i : Int), .int .i64 (i : Int), .pointer (some ⟨g1, 2, none⟩), .pointer (some ⟨g1, 2 + i, none⟩), .int .u8 (F.k i), .int .i64 (i : Int), .pointer (some ⟨g1, 102, none⟩), .pointer (some ⟨g1, 102 + i, none⟩), .int .i16 (F.s i), .int .i64 (F.s i), .bool false, .int .i64 (i : Int), .bool true, .bool false, .bool false, undef, undef, .bool false, .bool false, .int .u8 (F.k i), .bool false, .bool false, .bool false, .int .i64 (i : Int), .bool true, .bool true, .int .u8 (F.k i), .bool false, .bool false, .bool false, undef, undef, undef, .bool false, .bool ((F.s i) != 0), .int .i64 (i : Int), .bool true, .bool false, .bool false, .int .u8 (F.k i), .bool true, .bool true, .bool true, .int .i64 (F.s i), .bool ((F.s i) != 0), .bool ((F.s i) != 0), J1 51], []⟩) (by kernel_rfl) ?_
                  refine wp_region_lit ?_
                  refine wpl_val (.int .i64 (IntKind.i64.wrap ((i : Int) + 1))) (.int .i64 ((i : Int) + 1)) rfl (by kernel_rfl) (by kernel_rfl) (by exact congrArg _ (IntWalk.i64_in _ (by omega))) ?_
                  refine wpl_frame (a' := ⟨#[.agg F.cells, .pointer (some ⟨g1, 0, none⟩), J1 0, .int .i64 (i : Int), .int .u8 (F.k i), .int .i64 (F.s i), .pointer (some ⟨g1, 0, none⟩), .int .i8 F.w, .int .i64 F.w, .bool true, .bool false, .bool false, .pointer (some ⟨g1, 1, none⟩), .int .i8 F.h, .int .i64 F.h, .bool true, .bool (!(inB F.h 1 10)), .bool (!(inB F.h 1 10)), .int .i64 (i : Int), .bool true, .int .i64 (i : Int), .int .i64 (i : Int), .pointer (some ⟨g1, 2, none⟩), .pointer (some ⟨g1, 2 + i, none⟩), .int .u8 (F.k i), .int .i64 (i : Int), .pointer (some ⟨g1, 102, none⟩), .pointer (some ⟨g1, 102 + i, none⟩), .int .i16 (F.s i), .int .i64 (F.s i), .bool false, .int .i64 (i : Int), .bool true, .bool false, .bool false, undef, undef, .bool false, .bool false, .int .u8 (F.k i), .bool false, .bool false, .bool false, .int .i64 (i : Int), .bool true, .bool true, .int .u8 (F.k i), .bool false, .bool false, .bool false, undef, undef, undef, .bool false, .bool ((F.s i) != 0), .int .i64 (i : Int), .bool true, .bool false, .bool false, .int .u8 (F.k i), .bool true, .bool true, .bool true, .int .i64 (F.s i), .bool ((F.s i) != 0), .bool ((F.s i) != 0), .int .i64 ((i : Int) + 1)], []⟩) (by kernel_rfl) ?_
                  refine wpl_frame (a' := ⟨#[.agg F.cells, .pointer (some ⟨g1, 0, none⟩), J1 0, .int .i64 (i : Int), .int .u8 (F.k i), .int .i64 (F.s i), .pointer (some ⟨g1, 0, none⟩), .int .i8 F.w, .int .i64 F.w, .bool true, .bool false, .bool false, .pointer (some ⟨g1, 1, none⟩), .int .i8 F.h, .int .i64 F.h, .bool true, .bool (!(inB F.h 1 10)), .bool (!(inB F.h 1 10)), .int .i64 (i : Int), .bool true, .int .i64 (i : Int), .int .i64 (i : Int), .pointer (some ⟨g1, 2, none⟩), .pointer (some ⟨g1, 2 + i, none⟩), .int .u8 (F.k i), .int .i64 (i : Int), .pointer (some ⟨g1, 102, none⟩), .pointer (some ⟨g1, 102 + i, none⟩), .int .i16 (F.s i), .int .i64 (F.s i), .bool false, .int .i64 (i : Int), .bool true, .bool false, .bool false, undef, undef, .bool false, .bool false, .int .u8 (F.k i), .bool false, .bool false, .bool false, .int .i64 (i : Int), .bool true, .bool true, .int .u8 (F.k i), .bool false, .bool false, .bool false, undef, undef, undef, .bool false, .bool false, .int .i64 (i : Int), .bool true, .bool false, .bool false, .int .u8 (F.k i), .bool true, .bool true, .bool true, .int .i64 (F.s i), .bool false, .bool false, .int .i64 ((i : Int) + 1)], []⟩) (by simp only [hk18, Bool.not_true, Bool.not_false]) ?_
                  refine wpl_val (.int .i64 ((i : Int) + 1)) (.int .i64 ((i : Int) + 1)) rfl (by kernel_rfl) (by kernel_rfl) rfl ?_
                  refine wpList_nil ?_
                  refine then_normal ?_
                  refine ⟨_, ?_, i + 1, fun i_ => ([J1 0, .int .i64 (i : Int), .int .u8 (F.k i), .int .i64 (F.s i), .bool true, .int .i64 (i : Int), .int .i64 (i : Int), .pointer (some ⟨g1, 2, none⟩), .pointer (some ⟨g1, 2 + i, none⟩), .int .u8 (F.k i), .int .i64 (i : Int), .pointer (some ⟨g1, 102, none⟩), .pointer (some ⟨g1, 102 + i, none⟩), .int .i16 (F.s i), .int .i64 (F.s i), .bool false, .int .i64 (i : Int), .bool true, .bool false, .bool false, undef, undef, .bool false, .bool false, .int .u8 (F.k i), .bool false, .bool false, .bool false, .int .i64 (i : Int), .bool true, .bool true, .int .u8 (F.k i), .bool false, .bool false, .bool false, undef, undef, undef, .bool false, .bool false, .int .i64 (i : Int), .bool true, .bool false, .bool false, .int .u8 (F.k i), .bool true, .bool true, .bool true, .int .i64 (F.s i), .bool false, .bool false, .int .i64 ((i : Int) + 1)] : List Value).getD i_ undef, rfl, ?_, ?_, H9, ?_, by kernel_rfl⟩
                  · omega
                  · omega
                  · refine all_step hall ?_
                    first | (rw [celB_in (by assumption)]; exact decide_eq_true (by omega)) | (rw [celB_out (by assumption)]; exact decide_eq_true (by omega))
                  · exact B1
              · skip
                refine wpl_frame (a' := ⟨#[.agg F.cells, .pointer (some ⟨g1, 0, none⟩), J1 0, .int .i64 (i : Int), .int .u8 (F.k i), .int .i64 (F.s i), .pointer (some ⟨g1, 0, none⟩), .int .i8 F.w, .int .i64 F.w, .bool true, .bool false, .bool false, .pointer (some ⟨g1, 1, none⟩), .int .i8 F.h, .int .i64 F.h, .bool true, .bool (!(inB F.h 1 10)), .bool (!(inB F.h 1 10)), .int .i64 (i : Int), .bool true, .int .i64 (i : Int), .int .i64 (i : Int), .pointer (some ⟨g1, 2, none⟩), .pointer (some ⟨g1, 2 + i, none⟩), .int .u8 (F.k i), .int .i64 (i : Int), .pointer (some ⟨g1, 102, none⟩), .pointer (some ⟨g1, 102 + i, none⟩), .int .i16 (F.s i), .int .i64 (F.s i), .bool false, .int .i64 (i : Int), .bool true, .bool false, .bool false, undef, undef, .bool false, .bool false, .int .u8 (F.k i), .bool false, .bool false, .bool false, .int .i64 (i : Int), .bool true, .bool true, .int .u8 (F.k i), .bool false, .bool false, .bool false, undef, undef, undef, .bool false, J1 39, .int .i64 (i : Int), .bool true, .bool false, .bool false, .int .u8 (F.k i), .bool false, .bool false, .bool false, J1 48, J1 49, J1 50, J1 51], []⟩) (by simp only [h10, Bool.not_true, Bool.not_false]) ?_
                have hk19 := h10
                try simp only [decide_eq_true_eq, decide_eq_false_iff_not, Bool.and_eq_true, Bool.or_eq_true, Bool.and_eq_false_iff, Bool.or_eq_false_iff, Bool.not_eq_true', Bool.not_eq_false', beq_iff_eq, beq_eq_false_iff_ne, bne_iff_ne, bne_eq_false_iff_eq, gt_iff_lt, ge_iff_le, ne_eq, Decidable.not_not, Int.not_lt, Int.not_le, inB] at h10
                refine wpl_skip rfl (by kernel_rfl) ?_
                refine wpl_skip rfl (by kernel_rfl) ?_
                refine wpl_val (.bool false) (.bool false) rfl (by kernel_rfl) (by kernel_rfl) rfl ?_
                refine wpl_val (.bool false) (.bool false) rfl (by kernel_rfl) (by kernel_rfl) rfl ?_
                refine wpList_nil ?_
                refine then_normal ?_
                refine wp_frame (a' := ⟨#[.agg F.cells, .pointer (some ⟨g1, 0, none⟩), J1 0, .int .i64 (i : Int), .int .u8 (F.k i), .int .i64 (F.s i), .pointer (some ⟨g1, 0, none⟩), .int .i8 F.w, .int .i64 F.w, .bool true, .bool false, .bool false, .pointer (some ⟨g1, 1, none⟩), .int .i8 F.h, .int .i64 F.h, .bool true, .bool (!(inB F.h 1 10)), .bool (!(inB F.h 1 10)), .int .i64 (i : Int), .bool true, .int .i64 (i : Int), .int .i64 (i : Int), .pointer (some ⟨g1, 2, none⟩), .pointer (some ⟨g1, 2 + i, none⟩), .int .u8 (F.k i), .int .i64 (i : Int), .pointer (some ⟨g1, 102, none⟩), .pointer (some ⟨g1, 102 + i, none⟩), .int .i16 (F.s i), .int .i64 (F.s i), .bool false, .int .i64 (i : Int), .bool true, .bool false, .bool false, undef, undef, .bool false, .bool false, .int .u8 (F.k i), .bool false, .bool false, .bool false, .int .i64 (i : Int), .bool true, .bool true, .int .u8 (F.k i), .bool false, .bool false, .bool false, undef, undef, undef, .bool false, .bool false, .int .i64 (i : Int), .bool true, .bool false, .bool false, .int .u8 (F.k i), .bool false, .bool false, .bool false, undef, undef, .bool false, J1 51], []⟩) (by kernel_rfl) ?_
                refine wp_cond_false rfl ?_
                refine wp_skip ?_
                refine block_normal ?_
                refine block_normal ?_
                refine then_normal ?_
                refine wp_frame (a' := ⟨#[.agg F.cells, .pointer (some ⟨g1, 0, none⟩), J1 0, .int .i64 (i : Int), .int .u8 (F.k i), .int .i64 (F.s i), .pointer (some ⟨g1, 0, none⟩), .int .i8 F.w, .int .i64 F.w, .bool true, .bool false, .bool false, .pointer (some ⟨g1, 1, none⟩), .int .i8 F.h, .int .i64 F.h, .bool true, .bool (!(inB F.h 1 10)), .bool (!(inB F.h 1 10)), .int .i64 (i : Int), .bool true, .int .i64 (i : Int), .int .i64 (i : Int), .pointer (some ⟨g1, 2, none⟩), .pointer (some ⟨g1, 2 + i, none⟩), .int .u8 (F.k i), .int .i64 (i : Int), .pointer (some ⟨g1, 102, none⟩), .pointer (some ⟨g1, 102 + i, none⟩), .int .i16 (F.s i), .int .i64 (F.s i), .bool false, .int .i64 (i : Int), .bool true, .bool false, .bool false, undef, undef, .bool false, .bool false, .int .u8 (F.k i), .bool false, .bool false, .bool false, .int .i64 (i : Int), .bool true, .bool true, .int .u8 (F.k i), .bool false, .bool false, .bool false, undef, undef, undef, .bool false, .bool false, .int .i64 (i : Int), .bool true, .bool false, .bool false, .int .u8 (F.k i), .bool false, .bool false, .bool false, undef, undef, .bool false, J1 51], []⟩) (by kernel_rfl) ?_
                refine wp_region_lit ?_
                refine wpl_val (.int .i64 (IntKind.i64.wrap ((i : Int) + 1))) (.int .i64 ((i : Int) + 1)) rfl (by kernel_rfl) (by kernel_rfl) (by exact congrArg _ (IntWalk.i64_in _ (by omega))) ?_
                refine wpl_val (.int .i64 ((i : Int) + 1)) (.int .i64 ((i : Int) + 1)) rfl (by kernel_rfl) (by kernel_rfl) rfl ?_
                refine wpList_nil ?_
                refine then_normal ?_
                refine ⟨_, ?_, i + 1, fun i_ => ([J1 0, .int .i64 (i : Int), .int .u8 (F.k i), .int .i64 (F.s i), .bool true, .int .i64 (i : Int), .int .i64 (i : Int), .pointer (some ⟨g1, 2, none⟩), .pointer (some ⟨g1, 2 + i, none⟩), .int .u8 (F.k i), .int .i64 (i : Int), .pointer (some ⟨g1, 102, none⟩), .pointer (some ⟨g1, 102 + i, none⟩), .int .i16 (F.s i), .int .i64 (F.s i), .bool false, .int .i64 (i : Int), .bool true, .bool false, .bool false, undef, undef, .bool false, .bool false, .int .u8 (F.k i), .bool false, .bool false, .bool false, .int .i64 (i : Int), .bool true, .bool true, .int .u8 (F.k i), .bool false, .bool false, .bool false, undef, undef, undef, .bool false, .bool false, .int .i64 (i : Int), .bool true, .bool false, .bool false, .int .u8 (F.k i), .bool false, .bool false, .bool false, undef, undef, .bool false, .int .i64 ((i : Int) + 1)] : List Value).getD i_ undef, rfl, ?_, ?_, H9, ?_, by kernel_rfl⟩
                · omega
                · omega
                · refine all_step hall ?_
                  first | (rw [celB_in (by assumption)]; exact decide_eq_true (by omega)) | (rw [celB_out (by assumption)]; exact decide_eq_true (by omega))
                · exact B1
        · skip
          refine wpl_frame (a' := ⟨#[.agg F.cells, .pointer (some ⟨g1, 0, none⟩), J1 0, .int .i64 (i : Int), .int .u8 (F.k i), .int .i64 (F.s i), .pointer (some ⟨g1, 0, none⟩), .int .i8 F.w, .int .i64 F.w, .bool true, .bool false, .bool false, .pointer (some ⟨g1, 1, none⟩), .int .i8 F.h, .int .i64 F.h, .bool true, .bool (!(inB F.h 1 10)), .bool (!(inB F.h 1 10)), .int .i64 (i : Int), .bool true, .int .i64 (i : Int), .int .i64 (i : Int), .pointer (some ⟨g1, 2, none⟩), .pointer (some ⟨g1, 2 + i, none⟩), .int .u8 (F.k i), .int .i64 (i : Int), .pointer (some ⟨g1, 102, none⟩), .pointer (some ⟨g1, 102 + i, none⟩), .int .i16 (F.s i), .int .i64 (F.s i), J1 15, .int .i64 (i : Int), .bool false, .bool true, .bool true, J1 20, J1 21, J1 22, J1 23, J1 24, J1 25, J1 26, J1 27, J1 28, J1 29, J1 30, J1 31, J1 32, J1 33, J1 34, J1 35, J1 36, J1 37, J1 38, J1 39, J1 40, J1 41, J1 42, J1 43, J1 44, J1 45, J1 46, J1 47, J1 48, J1 49, J1 50, J1 51], []⟩) (by simp only [h4, Bool.not_true, Bool.not_false]) ?_
          have hk20 := h4
          try simp only [decide_eq_true_eq, decide_eq_false_iff_not, Bool.and_eq_true, Bool.or_eq_true, Bool.and_eq_false_iff, Bool.or_eq_false_iff, Bool.not_eq_true', Bool.not_eq_false', beq_iff_eq, beq_eq_false_iff_ne, bne_iff_ne, bne_eq_false_iff_eq, gt_iff_lt, ge_iff_le, ne_eq, Decidable.not_not, Int.not_lt, Int.not_le, inB] at h4
          refine wpl_val (.int .u8 (F.k i)) (.int .u8 (F.k i)) rfl (by kernel_rfl) (by kernel_rfl) rfl ?_
          refine wpl_val (.bool ((F.k i) != 0)) (.bool ((F.k i) != 0)) rfl (by kernel_rfl) (by kernel_rfl) rfl ?_
          refine wpl_val (.bool ((F.k i) != 0)) (.bool ((F.k i) != 0)) rfl (by kernel_rfl) (by kernel_rfl) rfl ?_
          refine wpl_val (.bool ((F.k i) != 0)) (.bool ((F.k i) != 0)) rfl (by kernel_rfl) (by kernel_rfl) rfl ?_
          refine wpl_frame (a' := ⟨#[.agg F.cells, .pointer (some ⟨g1, 0, none⟩), J1 0, .int .i64 (i : Int), .int .u8 (F.k i), .int .i64 (F.s i), .pointer (some ⟨g1, 0, none⟩), .int .i8 F.w, .int .i64 F.w, .bool true, .bool false, .bool false, .pointer (some ⟨g1, 1, none⟩), .int .i8 F.h, .int .i64 F.h, .bool true, .bool (!(inB F.h 1 10)), .bool (!(inB F.h 1 10)), .int .i64 (i : Int), .bool true, .int .i64 (i : Int), .int .i64 (i : Int), .pointer (some ⟨g1, 2, none⟩), .pointer (some ⟨g1, 2 + i, none⟩), .int .u8 (F.k i), .int .i64 (i : Int), .pointer (some ⟨g1, 102, none⟩), .pointer (some ⟨g1, 102 + i, none⟩), .int .i16 (F.s i), .int .i64 (F.s i), J1 15, .int .i64 (i : Int), .bool false, .bool true, .bool true, .int .u8 (F.k i), .bool ((F.k i) != 0), .bool ((F.k i) != 0), .bool ((F.k i) != 0), J1 24, J1 25, J1 26, J1 27, J1 28, J1 29, J1 30, J1 31, J1 32, J1 33, J1 34, J1 35, J1 36, J1 37, J1 38, J1 39, J1 40, J1 41, J1 42, J1 43, J1 44, J1 45, J1 46, J1 47, J1 48, J1 49, J1 50, J1 51], []⟩) (by kernel_rfl) ?_
          refine split_bool ((F.k i) != 0) (fun h12 => ?_) (fun h12 => ?_)
          · skip
            refine wpl_frame (a' := ⟨#[.agg F.cells, .pointer (some ⟨g1, 0, none⟩), J1 0, .int .i64 (i : Int), .int .u8 (F.k i), .int .i64 (F.s i), .pointer (some ⟨g1, 0, none⟩), .int .i8 F.w, .int .i64 F.w, .bool true, .bool false, .bool false, .pointer (some ⟨g1, 1, none⟩), .int .i8 F.h, .int .i64 F.h, .bool true, .bool (!(inB F.h 1 10)), .bool (!(inB F.h 1 10)), .int .i64 (i : Int), .bool true, .int .i64 (i : Int), .int .i64 (i : Int), .pointer (some ⟨g1, 2, none⟩), .pointer (some ⟨g1, 2 + i, none⟩), .int .u8 (F.k i), .int .i64 (i : Int), .pointer (some ⟨g1, 102, none⟩), .pointer (some ⟨g1, 102 + i, none⟩), .int .i16 (F.s i), .int .i64 (F.s i), J1 15, .int .i64 (i : Int), .bool false, .bool true, .bool true, .int .u8 (F.k i), .bool true, .bool true, .bool true, J1 24, J1 25, J1 26, J1 27, J1 28, J1 29, J1 30, J1 31, J1 32, J1 33, J1 34, J1 35, J1 36, J1 37, J1 38, J1 39, J1 40, J1 41, J1 42, J1 43, J1 44, J1 45, J1 46, J1 47, J1 48, J1 49, J1 50, J1 51], []⟩) (by simp only [h12, Bool.not_true, Bool.not_false]) ?_
            have hk21 := h12
            try simp only [decide_eq_true_eq, decide_eq_false_iff_not, Bool.and_eq_true, Bool.or_eq_true, Bool.and_eq_false_iff, Bool.or_eq_false_iff, Bool.not_eq_true', Bool.not_eq_false', beq_iff_eq, beq_eq_false_iff_ne, bne_iff_ne, bne_eq_false_iff_eq, gt_iff_lt, ge_iff_le, ne_eq, Decidable.not_not, Int.not_lt, Int.not_le, inB] at h12
            refine wpl_skip rfl (by kernel_rfl) ?_
            refine wpl_skip rfl (by kernel_rfl) ?_
            refine wpl_val (.bool true) (.bool true) rfl (by kernel_rfl) (by kernel_rfl) rfl ?_
            refine wpl_val (.bool true) (.bool true) rfl (by kernel_rfl) (by kernel_rfl) rfl ?_
            refine wpList_nil ?_
            refine then_normal ?_
            refine wp_frame (a' := ⟨#[.agg F.cells, .pointer (some ⟨g1, 0, none⟩), J1 0, .int .i64 (i : Int), .int .u8 (F.k i), .int .i64 (F.s i), .pointer (some ⟨g1, 0, none⟩), .int .i8 F.w, .int .i64 F.w, .bool true, .bool false, .bool false, .pointer (some ⟨g1, 1, none⟩), .int .i8 F.h, .int .i64 F.h, .bool true, .bool (!(inB F.h 1 10)), .bool (!(inB F.h 1 10)), .int .i64 (i : Int), .bool true, .int .i64 (i : Int), .int .i64 (i : Int), .pointer (some ⟨g1, 2, none⟩), .pointer (some ⟨g1, 2 + i, none⟩), .int .u8 (F.k i), .int .i64 (i : Int), .pointer (some ⟨g1, 102, none⟩), .pointer (some ⟨g1, 102 + i, none⟩), .int .i16 (F.s i), .int .i64 (F.s i), .bool true, .int .i64 (i : Int), .bool false, .bool true, .bool true, .int .u8 (F.k i), .bool true, .bool true, .bool true, undef, undef, .bool true, J1 27, J1 28, J1 29, J1 30, J1 31, J1 32, J1 33, J1 34, J1 35, J1 36, J1 37, J1 38, J1 39, J1 40, J1 41, J1 42, J1 43, J1 44, J1 45, J1 46, J1 47, J1 48, J1 49, J1 50, J1 51], []⟩) (by kernel_rfl) ?_
            refine wp_cond_true rfl ?_
            refine wp_seq ?_
            refine wp_region_lit ?_
            refine wpl_val (.bool false) (.bool false) rfl (by kernel_rfl) (by kernel_rfl) rfl ?_
            refine wpList_nil ?_
            refine then_normal ?_
            refine wp_frame (a' := ⟨#[.agg F.cells, .pointer (some ⟨g1, 0, none⟩), .bool false, .int .i64 (i : Int), .int .u8 (F.k i), .int .i64 (F.s i), .pointer (some ⟨g1, 0, none⟩), .int .i8 F.w, .int .i64 F.w, .bool true, .bool false, .bool false, .pointer (some ⟨g1, 1, none⟩), .int .i8 F.h, .int .i64 F.h, .bool true, .bool (!(inB F.h 1 10)), .bool (!(inB F.h 1 10)), .int .i64 (i : Int), .bool true, .int .i64 (i : Int), .int .i64 (i : Int), .pointer (some ⟨g1, 2, none⟩), .pointer (some ⟨g1, 2 + i, none⟩), .int .u8 (F.k i), .int .i64 (i : Int), .pointer (some ⟨g1, 102, none⟩), .pointer (some ⟨g1, 102 + i, none⟩), .int .i16 (F.s i), .int .i64 (F.s i), .bool true, .int .i64 (i : Int), .bool false, .bool true, .bool true, .int .u8 (F.k i), .bool true, .bool true, .bool true, undef, undef, .bool true, J1 27, J1 28, J1 29, J1 30, J1 31, J1 32, J1 33, J1 34, J1 35, J1 36, J1 37, J1 38, J1 39, J1 40, J1 41, J1 42, J1 43, J1 44, J1 45, J1 46, J1 47, J1 48, J1 49, J1 50, J1 51], []⟩) (by kernel_rfl) ?_
            refine wp_ret ?_
            refine block_ret ?_
            refine block_ret ?_
            refine then_ret ?_
            refine then_ret ?_
            refine block_ret ?_
            refine then_ret ?_
            refine body_frame (a' := ⟨#[.agg F.cells, .pointer (some ⟨g1, 0, none⟩), .bool false, .int .i64 (i : Int), .int .u8 (F.k i), .int .i64 (F.s i), .pointer (some ⟨g1, 0, none⟩), .int .i8 F.w, .int .i64 F.w, .bool true, .bool false, .bool false, .pointer (some ⟨g1, 1, none⟩), .int .i8 F.h, .int .i64 F.h, .bool true, .bool (!(inB F.h 1 10)), .bool (!(inB F.h 1 10)), .int .i64 (i : Int), .bool true, .int .i64 (i : Int), .int .i64 (i : Int), .pointer (some ⟨g1, 2, none⟩), .pointer (some ⟨g1, 2 + i, none⟩), .int .u8 (F.k i), .int .i64 (i : Int), .pointer (some ⟨g1, 102, none⟩), .pointer (some ⟨g1, 102 + i, none⟩), .int .i16 (F.s i), .int .i64 (F.s i), .bool true, .int .i64 (i : Int), .bool false, .bool true, .bool true, .int .u8 (F.k i), .bool true, .bool true, .bool true, undef, undef, .bool true, J1 27, J1 28, J1 29, J1 30, J1 31, J1 32, J1 33, J1 34, J1 35, J1 36, J1 37, J1 38, J1 39, J1 40, J1 41, J1 42, J1 43, J1 44, J1 45, J1 46, J1 47, J1 48, J1 49, J1 50, J1 51], []⟩) (by kernel_rfl) ?_
            refine ret1 (.bool (okB F)) rfl ?_ rfl ?_
            · show (.bool false : Value) = (.bool (okB F))
              refine congrArg Value.bool ?_
              first | exact (okB_w (by omega)).symm | exact (okB_h (by omega)).symm | exact (okB_true.2 ⟨by omega, by omega, by omega, by omega, fun j hj => hall j (by omega)⟩).symm | skip
              all_goals (refine (okB_c i (by omega) ?_).symm)
              all_goals (first | (rw [celB_in (by assumption)]; exact decide_eq_false (by omega)) | (rw [celB_out (by assumption)]; exact decide_eq_false (by omega)) | (cases hq_ : isB F (i : Int) with | false => (rw [celB_out hq_]; exact decide_eq_false (by omega)) | true => (rw [celB_in hq_]; exact decide_eq_false (by omega))))
            exact ⟨rfl, H5⟩
          · skip
            refine wpl_frame (a' := ⟨#[.agg F.cells, .pointer (some ⟨g1, 0, none⟩), J1 0, .int .i64 (i : Int), .int .u8 (F.k i), .int .i64 (F.s i), .pointer (some ⟨g1, 0, none⟩), .int .i8 F.w, .int .i64 F.w, .bool true, .bool false, .bool false, .pointer (some ⟨g1, 1, none⟩), .int .i8 F.h, .int .i64 F.h, .bool true, .bool (!(inB F.h 1 10)), .bool (!(inB F.h 1 10)), .int .i64 (i : Int), .bool true, .int .i64 (i : Int), .int .i64 (i : Int), .pointer (some ⟨g1, 2, none⟩), .pointer (some ⟨g1, 2 + i, none⟩), .int .u8 (F.k i), .int .i64 (i : Int), .pointer (some ⟨g1, 102, none⟩), .pointer (some ⟨g1, 102 + i, none⟩), .int .i16 (F.s i), .int .i64 (F.s i), J1 15, .int .i64 (i : Int), .bool false, .bool true, .bool true, .int .u8 (F.k i), .bool false, .bool false, .bool false, J1 24, J1 25, J1 26, J1 27, J1 28, J1 29, J1 30, J1 31, J1 32, J1 33, J1 34, J1 35, J1 36, J1 37, J1 38, J1 39, J1 40, J1 41, J1 42, J1 43, J1 44, J1 45, J1 46, J1 47, J1 48, J1 49, J1 50, J1 51], []⟩) (by simp only [h12, Bool.not_true, Bool.not_false]) ?_
            have hk22 := h12
            try simp only [decide_eq_true_eq, decide_eq_false_iff_not, Bool.and_eq_true, Bool.or_eq_true, Bool.and_eq_false_iff, Bool.or_eq_false_iff, Bool.not_eq_true', Bool.not_eq_false', beq_iff_eq, beq_eq_false_iff_ne, bne_iff_ne, bne_eq_false_iff_eq, gt_iff_lt, ge_iff_le, ne_eq, Decidable.not_not, Int.not_lt, Int.not_le, inB] at h12
            refine wpl_val (.int .u8 (F.k i)) (.int .u8 (F.k i)) rfl (by kernel_rfl) (by kernel_rfl) rfl ?_
            refine wpl_val (.bool (decide (F.k i > 3))) (.bool (decide (F.k i > 3))) rfl (by kernel_rfl) (by kernel_rfl) rfl ?_
            refine wpl_val (.bool (decide (F.k i > 3))) (.bool (decide (F.k i > 3))) rfl (by kernel_rfl) (by kernel_rfl) rfl ?_
            refine wpl_val (.bool (decide (F.k i > 3))) (.bool (decide (F.k i > 3))) rfl (by kernel_rfl) (by kernel_rfl) rfl ?_
            refine wpList_nil ?_
            refine then_normal ?_
            refine wp_frame (a' := ⟨#[.agg F.cells, .pointer (some ⟨g1, 0, none⟩), J1 0, .int .i64 (i : Int), .int .u8 (F.k i), .int .i64 (F.s i), .pointer (some ⟨g1, 0, none⟩), .int .i8 F.w, .int .i64 F.w, .bool true, .bool false, .bool false, .pointer (some ⟨g1, 1, none⟩), .int .i8 F.h, .int .i64 F.h, .bool true, .bool (!(inB F.h 1 10)), .bool (!(inB F.h 1 10)), .int .i64 (i : Int), .bool true, .int .i64 (i : Int), .int .i64 (i : Int), .pointer (some ⟨g1, 2, none⟩), .pointer (some ⟨g1, 2 + i, none⟩), .int .u8 (F.k i), .int .i64 (i : Int), .pointer (some ⟨g1, 102, none⟩), .pointer (some ⟨g1, 102 + i, none⟩), .int .i16 (F.s i), .int .i64 (F.s i), .bool (decide (F.k i > 3)), .int .i64 (i : Int), .bool false, .bool true, .bool true, .int .u8 (F.k i), .bool false, .bool false, .bool false, .int .u8 (F.k i), .bool (decide (F.k i > 3)), .bool (decide (F.k i > 3)), J1 27, J1 28, J1 29, J1 30, J1 31, J1 32, J1 33, J1 34, J1 35, J1 36, J1 37, J1 38, J1 39, J1 40, J1 41, J1 42, J1 43, J1 44, J1 45, J1 46, J1 47, J1 48, J1 49, J1 50, J1 51], []⟩) (by kernel_rfl) ?_
            refine wp_cond_split (t := decide (F.k i > 3)) rfl (fun h13 => ?_) (fun h13 => ?_)
            · skip
              have hk23 := h13
              try simp only [decide_eq_true_eq, decide_eq_false_iff_not, Bool.and_eq_true, Bool.or_eq_true, Bool.and_eq_false_iff, Bool.or_eq_false_iff, Bool.not_eq_true', Bool.not_eq_false', beq_iff_eq, beq_eq_false_iff_ne, bne_iff_ne, bne_eq_false_iff_eq, gt_iff_lt, ge_iff_le, ne_eq, Decidable.not_not, Int.not_lt, Int.not_le, inB] at h13
              refine wp_seq ?_
              refine wp_region_lit ?_
              refine wpl_val (.bool false) (.bool false) rfl (by kernel_rfl) (by kernel_rfl) rfl ?_
              refine wpl_frame (a' := ⟨#[.agg F.cells, .pointer (some ⟨g1, 0, none⟩), .bool false, .int .i64 (i : Int), .int .u8 (F.k i), .int .i64 (F.s i), .pointer (some ⟨g1, 0, none⟩), .int .i8 F.w, .int .i64 F.w, .bool true, .bool false, .bool false, .pointer (some ⟨g1, 1, none⟩), .int .i8 F.h, .int .i64 F.h, .bool true, .bool (!(inB F.h 1 10)), .bool (!(inB F.h 1 10)), .int .i64 (i : Int), .bool true, .int .i64 (i : Int), .int .i64 (i : Int), .pointer (some ⟨g1, 2, none⟩), .pointer (some ⟨g1, 2 + i, none⟩), .int .u8 (F.k i), .int .i64 (i : Int), .pointer (some ⟨g1, 102, none⟩), .pointer (some ⟨g1, 102 + i, none⟩), .int .i16 (F.s i), .int .i64 (F.s i), .bool (decide (F.k i > 3)), .int .i64 (i : Int), .bool false, .bool true, .bool true, .int .u8 (F.k i), .bool false, .bool false, .bool false, .int .u8 (F.k i), .bool (decide (F.k i > 3)), .bool (decide (F.k i > 3)), J1 27, J1 28, J1 29, J1 30, J1 31, J1 32, J1 33, J1 34, J1 35, J1 36, J1 37, J1 38, J1 39, J1 40, J1 41, J1 42, J1 43, J1 44, J1 45, J1 46, J1 47, J1 48, J1 49, J1 50, J1 51], []⟩) (by kernel_rfl) ?_
              refine wpl_frame (a' := ⟨#[.agg F.cells, .pointer (some ⟨g1, 0, none⟩), .bool false, .int .i64 (i : Int), .int .u8 (F.k i), .int .i64 (F.s i), .pointer (some ⟨g1, 0, none⟩), .int .i8 F.w, .int .i64 F.w, .bool true, .bool false, .bool false, .pointer (some ⟨g1, 1, none⟩), .int .i8 F.h, .int .i64 F.h, .bool true, .bool (!(inB F.h 1 10)), .bool (!(inB F.h 1 10)), .int .i64 (i : Int), .bool true, .int .i64 (i : Int), .int .i64 (i : Int), .pointer (some ⟨g1, 2, none⟩), .pointer (some ⟨g1, 2 + i, none⟩), .int .u8 (F.k i), .int .i64 (i : Int), .pointer (some ⟨g1, 102, none⟩), .pointer (some ⟨g1, 102 + i, none⟩), .int .i16 (F.s i), .int .i64 (F.s i), .bool true, .int .i64 (i : Int), .bool false, .bool true, .bool true, .int .u8 (F.k i), .bool false, .bool false, .bool false, .int .u8 (F.k i), .bool true, .bool true, J1 27, J1 28, J1 29, J1 30, J1 31, J1 32, J1 33, J1 34, J1 35, J1 36, J1 37, J1 38, J1 39, J1 40, J1 41, J1 42, J1 43, J1 44, J1 45, J1 46, J1 47, J1 48, J1 49, J1 50, J1 51], []⟩) (by simp only [hk23, Bool.not_true, Bool.not_false]) ?_
              refine wpList_nil ?_
              refine then_normal ?_
              refine wp_frame (a' := ⟨#[.agg F.cells, .pointer (some ⟨g1, 0, none⟩), .bool false, .int .i64 (i : Int), .int .u8 (F.k i), .int .i64 (F.s i), .pointer (some ⟨g1, 0, none⟩), .int .i8 F.w, .int .i64 F.w, .bool true, .bool false, .bool false, .pointer (some ⟨g1, 1, none⟩), .int .i8 F.h, .int .i64 F.h, .bool true, .bool (!(inB F.h 1 10)), .bool (!(inB F.h 1 10)), .int .i64 (i : Int), .bool true, .int .i64 (i : Int), .int .i64 (i : Int), .pointer (some ⟨g1, 2, none⟩), .pointer (some ⟨g1, 2 + i, none⟩), .int .u8 (F.k i), .int .i64 (i : Int), .pointer (some ⟨g1, 102, none⟩), .pointer (some ⟨g1, 102 + i, none⟩), .int .i16 (F.s i), .int .i64 (F.s i), .bool true, .int .i64 (i : Int), .bool false, .bool true, .bool true, .int .u8 (F.k i), .bool false, .bool false, .bool false, .int .u8 (F.k i), .bool true, .bool true, J1 27, J1 28, J1 29, J1 30, J1 31, J1 32, J1 33, J1 34, J1 35, J1 36, J1 37, J1 38, J1 39, J1 40, J1 41, J1 42, J1 43, J1 44, J1 45, J1 46, J1 47, J1 48, J1 49, J1 50, J1 51], []⟩) (by kernel_rfl) ?_
              refine wp_ret ?_
              refine block_ret ?_
              refine block_ret ?_
              refine then_ret ?_
              refine then_ret ?_
              refine block_ret ?_
              refine then_ret ?_
              refine body_frame (a' := ⟨#[.agg F.cells, .pointer (some ⟨g1, 0, none⟩), .bool false, .int .i64 (i : Int), .int .u8 (F.k i), .int .i64 (F.s i), .pointer (some ⟨g1, 0, none⟩), .int .i8 F.w, .int .i64 F.w, .bool true, .bool false, .bool false, .pointer (some ⟨g1, 1, none⟩), .int .i8 F.h, .int .i64 F.h, .bool true, .bool (!(inB F.h 1 10)), .bool (!(inB F.h 1 10)), .int .i64 (i : Int), .bool true, .int .i64 (i : Int), .int .i64 (i : Int), .pointer (some ⟨g1, 2, none⟩), .pointer (some ⟨g1, 2 + i, none⟩), .int .u8 (F.k i), .int .i64 (i : Int), .pointer (some ⟨g1, 102, none⟩), .pointer (some ⟨g1, 102 + i, none⟩), .int .i16 (F.s i), .int .i64 (F.s i), .bool true, .int .i64 (i : Int), .bool false, .bool true, .bool true, .int .u8 (F.k i), .bool false, .bool false, .bool false, .int .u8 (F.k i), .bool true, .bool true, J1 27, J1 28, J1 29, J1 30, J1 31, J1 32, J1 33, J1 34, J1 35, J1 36, J1 37, J1 38, J1 39, J1 40, J1 41, J1 42, J1 43, J1 44, J1 45, J1 46, J1 47, J1 48, J1 49, J1 50, J1 51], []⟩) (by kernel_rfl) ?_
              refine ret1 (.bool (okB F)) rfl ?_ rfl ?_
              · show (.bool false : Value) = (.bool (okB F))
                refine congrArg Value.bool ?_
                first | exact (okB_w (by omega)).symm | exact (okB_h (by omega)).symm | exact (okB_true.2 ⟨by omega, by omega, by omega, by omega, fun j hj => hall j (by omega)⟩).symm | skip
                all_goals (refine (okB_c i (by omega) ?_).symm)
                all_goals (first | (rw [celB_in (by assumption)]; exact decide_eq_false (by omega)) | (rw [celB_out (by assumption)]; exact decide_eq_false (by omega)) | (cases hq_ : isB F (i : Int) with | false => (rw [celB_out hq_]; exact decide_eq_false (by omega)) | true => (rw [celB_in hq_]; exact decide_eq_false (by omega))))
              exact ⟨rfl, H5⟩
            · skip
              have hk24 := h13
              try simp only [decide_eq_true_eq, decide_eq_false_iff_not, Bool.and_eq_true, Bool.or_eq_true, Bool.and_eq_false_iff, Bool.or_eq_false_iff, Bool.not_eq_true', Bool.not_eq_false', beq_iff_eq, beq_eq_false_iff_ne, bne_iff_ne, bne_eq_false_iff_eq, gt_iff_lt, ge_iff_le, ne_eq, Decidable.not_not, Int.not_lt, Int.not_le, inB] at h13
              refine wp_seq ?_
              refine wp_region_lit ?_
              refine wpl_val (.int .i64 (i : Int)) (.int .i64 (i : Int)) rfl (by kernel_rfl) (by kernel_rfl) rfl ?_
              refine wpl_frame (a' := ⟨#[.agg F.cells, .pointer (some ⟨g1, 0, none⟩), J1 0, .int .i64 (i : Int), .int .u8 (F.k i), .int .i64 (F.s i), .pointer (some ⟨g1, 0, none⟩), .int .i8 F.w, .int .i64 F.w, .bool true, .bool false, .bool false, .pointer (some ⟨g1, 1, none⟩), .int .i8 F.h, .int .i64 F.h, .bool true, .bool (!(inB F.h 1 10)), .bool (!(inB F.h 1 10)), .int .i64 (i : Int), .bool true, .int .i64 (i : Int), .int .i64 (i : Int), .pointer (some ⟨g1, 2, none⟩), .pointer (some ⟨g1, 2 + i, none⟩), .int .u8 (F.k i), .int .i64 (i : Int), .pointer (some ⟨g1, 102, none⟩), .pointer (some ⟨g1, 102 + i, none⟩), .int .i16 (F.s i), .int .i64 (F.s i), .bool (decide (F.k i > 3)), .int .i64 (i : Int), .bool false, .bool true, .bool true, .int .u8 (F.k i), .bool false, .bool false, .bool false, .int .u8 (F.k i), .bool (decide (F.k i > 3)), .bool (decide (F.k i > 3)), J1 27, .int .i64 (i : Int), J1 29, J1 30, J1 31, J1 32, J1 33, J1 34, J1 35, J1 36, J1 37, J1 38, J1 39, J1 40, J1 41, J1 42, J1 43, J1 44, J1 45, J1 46, J1 47, J1 48, J1 49, J1 50, J1 51], []⟩) (by kernel_rfl) ?_
              refine wpl_frame (a' := ⟨#[.agg F.cells, .pointer (some ⟨g1, 0, none⟩), J1 0, .int .i64 (i : Int), .int .u8 (F.k i), .int .i64 (F.s i), .pointer (some ⟨g1, 0, none⟩), .int .i8 F.w, .int .i64 F.w, .bool true, .bool false, .bool false, .pointer (some ⟨g1, 1, none⟩), .int .i8 F.h, .int .i64 F.h, .bool true, .bool (!(inB F.h 1 10)), .bool (!(inB F.h 1 10)), .int .i64 (i : Int), .bool true, .int .i64 (i : Int), .int .i64 (i : Int), .pointer (some ⟨g1, 2, none⟩), .pointer (some ⟨g1, 2 + i, none⟩), .int .u8 (F.k i), .int .i64 (i : Int), .pointer (some ⟨g1, 102, none⟩), .pointer (some ⟨g1, 102 + i, none⟩), .int .i16 (F.s i), .int .i64 (F.s i), .bool false, .int .i64 (i : Int), .bool false, .bool true, .bool true, .int .u8 (F.k i), .bool false, .bool false, .bool false, .int .u8 (F.k i), .bool false, .bool false, J1 27, .int .i64 (i : Int), J1 29, J1 30, J1 31, J1 32, J1 33, J1 34, J1 35, J1 36, J1 37, J1 38, J1 39, J1 40, J1 41, J1 42, J1 43, J1 44, J1 45, J1 46, J1 47, J1 48, J1 49, J1 50, J1 51], []⟩) (by simp only [hk24, Bool.not_true, Bool.not_false]) ?_
              refine wpl_call (54) #[.pointer (some ⟨g1, 0, none⟩), .int .i64 (i : Int)] rfl (by kernel_rfl) (by kernel_rfl) (has_any F hF g1 _ _ _ B1) ?_
              intro w10 E10
              replace B1 := B1.ext E10
              have H10 := (H5).trans E10
              clear E10
              refine wpl_frame (a' := ⟨#[.agg F.cells, .pointer (some ⟨g1, 0, none⟩), J1 0, .int .i64 (i : Int), .int .u8 (F.k i), .int .i64 (F.s i), .pointer (some ⟨g1, 0, none⟩), .int .i8 F.w, .int .i64 F.w, .bool true, .bool false, .bool false, .pointer (some ⟨g1, 1, none⟩), .int .i8 F.h, .int .i64 F.h, .bool true, .bool (!(inB F.h 1 10)), .bool (!(inB F.h 1 10)), .int .i64 (i : Int), .bool true, .int .i64 (i : Int), .int .i64 (i : Int), .pointer (some ⟨g1, 2, none⟩), .pointer (some ⟨g1, 2 + i, none⟩), .int .u8 (F.k i), .int .i64 (i : Int), .pointer (some ⟨g1, 102, none⟩), .pointer (some ⟨g1, 102 + i, none⟩), .int .i16 (F.s i), .int .i64 (F.s i), .bool false, .int .i64 (i : Int), .bool false, .bool true, .bool true, .int .u8 (F.k i), .bool false, .bool false, .bool false, .int .u8 (F.k i), .bool false, .bool false, J1 27, .int .i64 (i : Int), .bool (isB F (i : Int)), J1 30, J1 31, J1 32, J1 33, J1 34, J1 35, J1 36, J1 37, J1 38, J1 39, J1 40, J1 41, J1 42, J1 43, J1 44, J1 45, J1 46, J1 47, J1 48, J1 49, J1 50, J1 51], []⟩) (by kernel_rfl) ?_
              refine wpl_frame (a' := ⟨#[.agg F.cells, .pointer (some ⟨g1, 0, none⟩), J1 0, .int .i64 (i : Int), .int .u8 (F.k i), .int .i64 (F.s i), .pointer (some ⟨g1, 0, none⟩), .int .i8 F.w, .int .i64 F.w, .bool true, .bool false, .bool false, .pointer (some ⟨g1, 1, none⟩), .int .i8 F.h, .int .i64 F.h, .bool true, .bool (!(inB F.h 1 10)), .bool (!(inB F.h 1 10)), .int .i64 (i : Int), .bool true, .int .i64 (i : Int), .int .i64 (i : Int), .pointer (some ⟨g1, 2, none⟩), .pointer (some ⟨g1, 2 + i, none⟩), .int .u8 (F.k i), .int .i64 (i : Int), .pointer (some ⟨g1, 102, none⟩), .pointer (some ⟨g1, 102 + i, none⟩), .int .i16 (F.s i), .int .i64 (F.s i), .bool false, .int .i64 (i : Int), .bool false, .bool true, .bool true, .int .u8 (F.k i), .bool false, .bool false, .bool false, .int .u8 (F.k i), .bool false, .bool false, J1 27, .int .i64 (i : Int), .bool false, J1 30, J1 31, J1 32, J1 33, J1 34, J1 35, J1 36, J1 37, J1 38, J1 39, J1 40, J1 41, J1 42, J1 43, J1 44, J1 45, J1 46, J1 47, J1 48, J1 49, J1 50, J1 51], []⟩) (by simp only [hk20, Bool.not_true, Bool.not_false]) ?_
              refine wpl_val (.bool false) (.bool false) rfl (by kernel_rfl) (by kernel_rfl) rfl ?_
              refine wpl_skip rfl (by kernel_rfl) ?_
              refine wpl_skip rfl (by kernel_rfl) ?_
              refine wpl_val (.bool false) (.bool false) rfl (by kernel_rfl) (by kernel_rfl) rfl ?_
              refine wpl_val (.bool false) (.bool false) rfl (by kernel_rfl) (by kernel_rfl) rfl ?_
              refine wpl_skip rfl (by kernel_rfl) ?_
              refine wpl_skip rfl (by kernel_rfl) ?_
              refine wpl_skip rfl (by kernel_rfl) ?_
              refine wpl_val (.bool false) (.bool false) rfl (by kernel_rfl) (by kernel_rfl) rfl ?_
              refine wpl_val (.bool false) (.bool false) rfl (by kernel_rfl) (by kernel_rfl) rfl ?_
              refine wpList_nil ?_
              refine then_normal ?_
              refine wp_frame (a' := ⟨#[.agg F.cells, .pointer (some ⟨g1, 0, none⟩), J1 0, .int .i64 (i : Int), .int .u8 (F.k i), .int .i64 (F.s i), .pointer (some ⟨g1, 0, none⟩), .int .i8 F.w, .int .i64 F.w, .bool true, .bool false, .bool false, .pointer (some ⟨g1, 1, none⟩), .int .i8 F.h, .int .i64 F.h, .bool true, .bool (!(inB F.h 1 10)), .bool (!(inB F.h 1 10)), .int .i64 (i : Int), .bool true, .int .i64 (i : Int), .int .i64 (i : Int), .pointer (some ⟨g1, 2, none⟩), .pointer (some ⟨g1, 2 + i, none⟩), .int .u8 (F.k i), .int .i64 (i : Int), .pointer (some ⟨g1, 102, none⟩), .pointer (some ⟨g1, 102 + i, none⟩), .int .i16 (F.s i), .int .i64 (F.s i), .bool false, .int .i64 (i : Int), .bool false, .bool true, .bool true, .int .u8 (F.k i), .bool false, .bool false, .bool false, .int .u8 (F.k i), .bool false, .bool false, .bool false, .int .i64 (i : Int), .bool false, .bool false, undef, undef, .bool false, .bool false, undef, undef, undef, .bool false, J1 39, J1 40, J1 41, J1 42, J1 43, J1 44, J1 45, J1 46, J1 47, J1 48, J1 49, J1 50, J1 51], []⟩) (by kernel_rfl) ?_
              refine wp_cond_false rfl ?_
              refine wp_seq ?_
              refine wp_region_lit ?_
              refine wpl_val (.int .i64 (i : Int)) (.int .i64 (i : Int)) rfl (by kernel_rfl) (by kernel_rfl) rfl ?_
              refine wpl_call (54) #[.pointer (some ⟨g1, 0, none⟩), .int .i64 (i : Int)] rfl (by kernel_rfl) (by kernel_rfl) (has_any F hF g1 _ _ _ B1) ?_
              intro w11 E11
              replace B1 := B1.ext E11
              have H11 := (H10).trans E11
              clear E11
              refine wpl_frame (a' := ⟨#[.agg F.cells, .pointer (some ⟨g1, 0, none⟩), J1 0, .int .i64 (i : Int), .int .u8 (F.k i), .int .i64 (F.s i), .pointer (some ⟨g1, 0, none⟩), .int .i8 F.w, .int .i64 F.w, .bool true, .bool false, .bool false, .pointer (some ⟨g1, 1, none⟩), .int .i8 F.h, .int .i64 F.h, .bool true, .bool (!(inB F.h 1 10)), .bool (!(inB F.h 1 10)), .int .i64 (i : Int), .bool true, .int .i64 (i : Int), .int .i64 (i : Int), .pointer (some ⟨g1, 2, none⟩), .pointer (some ⟨g1, 2 + i, none⟩), .int .u8 (F.k i), .int .i64 (i : Int), .pointer (some ⟨g1, 102, none⟩), .pointer (some ⟨g1, 102 + i, none⟩), .int .i16 (F.s i), .int .i64 (F.s i), .bool false, .int .i64 (i : Int), .bool false, .bool true, .bool true, .int .u8 (F.k i), .bool false, .bool false, .bool false, .int .u8 (F.k i), .bool false, .bool false, .bool false, .int .i64 (i : Int), .bool false, .bool false, undef, undef, .bool false, .bool false, undef, undef, undef, .bool false, J1 39, .int .i64 (i : Int), .bool (isB F (i : Int)), J1 42, J1 43, J1 44, J1 45, J1 46, J1 47, J1 48, J1 49, J1 50, J1 51], []⟩) (by kernel_rfl) ?_
              refine wpl_frame (a' := ⟨#[.agg F.cells, .pointer (some ⟨g1, 0, none⟩), J1 0, .int .i64 (i : Int), .int .u8 (F.k i), .int .i64 (F.s i), .pointer (some ⟨g1, 0, none⟩), .int .i8 F.w, .int .i64 F.w, .bool true, .bool false, .bool false, .pointer (some ⟨g1, 1, none⟩), .int .i8 F.h, .int .i64 F.h, .bool true, .bool (!(inB F.h 1 10)), .bool (!(inB F.h 1 10)), .int .i64 (i : Int), .bool true, .int .i64 (i : Int), .int .i64 (i : Int), .pointer (some ⟨g1, 2, none⟩), .pointer (some ⟨g1, 2 + i, none⟩), .int .u8 (F.k i), .int .i64 (i : Int), .pointer (some ⟨g1, 102, none⟩), .pointer (some ⟨g1, 102 + i, none⟩), .int .i16 (F.s i), .int .i64 (F.s i), .bool false, .int .i64 (i : Int), .bool false, .bool true, .bool true, .int .u8 (F.k i), .bool false, .bool false, .bool false, .int .u8 (F.k i), .bool false, .bool false, .bool false, .int .i64 (i : Int), .bool false, .bool false, undef, undef, .bool false, .bool false, undef, undef, undef, .bool false, J1 39, .int .i64 (i : Int), .bool false, J1 42, J1 43, J1 44, J1 45, J1 46, J1 47, J1 48, J1 49, J1 50, J1 51], []⟩) (by simp only [hk20, Bool.not_true, Bool.not_false]) ?_
              refine wpl_val (.bool true) (.bool true) rfl (by kernel_rfl) (by kernel_rfl) rfl ?_
              refine wpl_val (.bool true) (.bool true) rfl (by kernel_rfl) (by kernel_rfl) rfl ?_
              refine wpl_skip rfl (by kernel_rfl) ?_
              refine wpl_skip rfl (by kernel_rfl) ?_
              refine wpl_val (.bool true) (.bool true) rfl (by kernel_rfl) (by kernel_rfl) rfl ?_
              refine wpl_val (.bool true) (.bool true) rfl (by kernel_rfl) (by kernel_rfl) rfl ?_
              refine wpl_val (.int .i64 (F.s i)) (.int .i64 (F.s i)) rfl (by kernel_rfl) (by kernel_rfl) rfl ?_
              refine wpl_val (.bool ((F.s i) != 0)) (.bool ((F.s i) != 0)) rfl (by kernel_rfl) (by kernel_rfl) rfl ?_
              refine wpl_val (.bool ((F.s i) != 0)) (.bool ((F.s i) != 0)) rfl (by kernel_rfl) (by kernel_rfl) rfl ?_
              refine wpl_val (.bool ((F.s i) != 0)) (.bool ((F.s i) != 0)) rfl (by kernel_rfl) (by kernel_rfl) rfl ?_
              refine wpList_nil ?_
              refine then_normal ?_
              refine wp_frame (a' := ⟨#[.agg F.cells, .pointer (some ⟨g1, 0, none⟩), J1 0, .int .i64 (i : Int), .int .u8 (F.k i), .int .i64 (F.s i), .pointer (some ⟨g1, 0, none⟩), .int .i8 F.w, .int .i64 F.w, .bool true, .bool false, .bool false, .pointer (some ⟨g1, 1, none⟩), .int .i8 F.h, .int .i64 F.h, .bool true, .bool (!(inB F.h 1 10)), .bool (!(inB F.h 1 10)), .int .i64 (i : Int), .bool true, .int .i64 (i : Int), .int .i64 (i : Int), .pointer (some ⟨g1, 2, none⟩), .pointer (some ⟨g1, 2 + i, none⟩), .int .u8 (F.k i), .int .i64 (i : Int), .pointer (some ⟨g1, 102, none⟩), .pointer (some ⟨g1, 102 + i, none⟩), .int .i16 (F.s i), .int .i64 (F.s i), .bool false, .int .i64 (i : Int), .bool false, .bool true, .bool true, .int .u8 (F.k i), .bool false, .bool false, .bool false, .int .u8 (F.k i), .bool false, .bool false, .bool false, .int .i64 (i : Int), .bool false, .bool false, undef, undef, .bool false, .bool false, undef, undef, undef, .bool false, .bool ((F.s i) != 0), .int .i64 (i : Int), .bool false, .bool true, .bool true, undef, undef, .bool true, .bool true, .int .i64 (F.s i), .bool ((F.s i) != 0), .bool ((F.s i) != 0), J1 51], []⟩) (by kernel_rfl) ?_
              refine wp_cond_split (t := (F.s i) != 0) rfl (fun h14 => ?_) (fun h14 => ?_)
              · skip
                have hk25 := h14
                try simp only [decide_eq_true_eq, decide_eq_false_iff_not, Bool.and_eq_true, Bool.or_eq_true, Bool.and_eq_false_iff, Bool.or_eq_false_iff, Bool.not_eq_true', Bool.not_eq_false', beq_iff_eq, beq_eq_false_iff_ne, bne_iff_ne, bne_eq_false_iff_eq, gt_iff_lt, ge_iff_le, ne_eq, Decidable.not_not, Int.not_lt, Int.not_le, inB] at h14
                refine wp_seq ?_
                refine wp_region_lit ?_
                refine wpl_val (.bool false) (.bool false) rfl (by kernel_rfl) (by kernel_rfl) rfl ?_
                refine wpl_frame (a' := ⟨#[.agg F.cells, .pointer (some ⟨g1, 0, none⟩), .bool false, .int .i64 (i : Int), .int .u8 (F.k i), .int .i64 (F.s i), .pointer (some ⟨g1, 0, none⟩), .int .i8 F.w, .int .i64 F.w, .bool true, .bool false, .bool false, .pointer (some ⟨g1, 1, none⟩), .int .i8 F.h, .int .i64 F.h, .bool true, .bool (!(inB F.h 1 10)), .bool (!(inB F.h 1 10)), .int .i64 (i : Int), .bool true, .int .i64 (i : Int), .int .i64 (i : Int), .pointer (some ⟨g1, 2, none⟩), .pointer (some ⟨g1, 2 + i, none⟩), .int .u8 (F.k i), .int .i64 (i : Int), .pointer (some ⟨g1, 102, none⟩), .pointer (some ⟨g1, 102 + i, none⟩), .int .i16 (F.s i), .int .i64 (F.s i), .bool false, .int .i64 (i : Int), .bool false, .bool true, .bool true, .int .u8 (F.k i), .bool false, .bool false, .bool false, .int .u8 (F.k i), .bool false, .bool false, .bool false, .int .i64 (i : Int), .bool false, .bool false, undef, undef, .bool false, .bool false, undef, undef, undef, .bool false, .bool ((F.s i) != 0), .int .i64 (i : Int), .bool false, .bool true, .bool true, undef, undef, .bool true, .bool true, .int .i64 (F.s i), .bool ((F.s i) != 0), .bool ((F.s i) != 0), J1 51], []⟩) (by kernel_rfl) ?_
                refine wpl_frame (a' := ⟨#[.agg F.cells, .pointer (some ⟨g1, 0, none⟩), .bool false, .int .i64 (i : Int), .int .u8 (F.k i), .int .i64 (F.s i), .pointer (some ⟨g1, 0, none⟩), .int .i8 F.w, .int .i64 F.w, .bool true, .bool false, .bool false, .pointer (some ⟨g1, 1, none⟩), .int .i8 F.h, .int .i64 F.h, .bool true, .bool (!(inB F.h 1 10)), .bool (!(inB F.h 1 10)), .int .i64 (i : Int), .bool true, .int .i64 (i : Int), .int .i64 (i : Int), .pointer (some ⟨g1, 2, none⟩), .pointer (some ⟨g1, 2 + i, none⟩), .int .u8 (F.k i), .int .i64 (i : Int), .pointer (some ⟨g1, 102, none⟩), .pointer (some ⟨g1, 102 + i, none⟩), .int .i16 (F.s i), .int .i64 (F.s i), .bool false, .int .i64 (i : Int), .bool false, .bool true, .bool true, .int .u8 (F.k i), .bool false, .bool false, .bool false, .int .u8 (F.k i), .bool false, .bool false, .bool false, .int .i64 (i : Int), .bool false, .bool false, undef, undef, .bool false, .bool false, undef, undef, undef, .bool false, .bool true, .int .i64 (i : Int), .bool false, .bool true, .bool true, undef, undef, .bool true, .bool true, .int .i64 (F.s i), .bool true, .bool true, J1 51], []⟩) (by simp only [hk25, Bool.not_true, Bool.not_false]) ?_
                refine wpList_nil ?_
                refine then_normal ?_
                refine wp_frame (a' := ⟨#[.agg F.cells, .pointer (some ⟨g1, 0, none⟩), .bool false, .int .i64 (i : Int), .int .u8 (F.k i), .int .i64 (F.s i), .pointer (some ⟨g1, 0, none⟩), .int .i8 F.w, .int .i64 F.w, .bool true, .bool false, .bool false, .pointer (some ⟨g1, 1, none⟩), .int .i8 F.h, .int .i64 F.h, .bool true, .bool (!(inB F.h 1 10)), .bool (!(inB F.h 1 10)), .int .i64 (i : Int), .bool true, .int .i64 (i : Int), .int .i64 (i : Int), .pointer (some ⟨g1, 2, none⟩), .pointer (some ⟨g1, 2 + i, none⟩), .int .u8 (F.k i), .int .i64 (i : Int), .pointer (some ⟨g1, 102, none⟩), .pointer (some ⟨g1, 102 + i, none⟩), .int .i16 (F.s i), .int .i64 (F.s i), .bool false, .int .i64 (i : Int), .bool false, .bool true, .bool true, .int .u8 (F.k i), .bool false, .bool false, .bool false, .int .u8 (F.k i), .bool false, .bool false, .bool false, .int .i64 (i : Int), .bool false, .bool false, undef, undef, .bool false, .bool false, undef, undef, undef, .bool false, .bool true, .int .i64 (i : Int), .bool false, .bool true, .bool true, undef, undef, .bool true, .bool true, .int .i64 (F.s i), .bool true, .bool true, J1 51], []⟩) (by kernel_rfl) ?_
                refine wp_ret ?_
                refine block_ret ?_
                refine block_ret ?_
                refine then_ret ?_
                refine then_ret ?_
                refine block_ret ?_
                refine then_ret ?_
                refine body_frame (a' := ⟨#[.agg F.cells, .pointer (some ⟨g1, 0, none⟩), .bool false, .int .i64 (i : Int), .int .u8 (F.k i), .int .i64 (F.s i), .pointer (some ⟨g1, 0, none⟩), .int .i8 F.w, .int .i64 F.w, .bool true, .bool false, .bool false, .pointer (some ⟨g1, 1, none⟩), .int .i8 F.h, .int .i64 F.h, .bool true, .bool (!(inB F.h 1 10)), .bool (!(inB F.h 1 10)), .int .i64 (i : Int), .bool true, .int .i64 (i : Int), .int .i64 (i : Int), .pointer (some ⟨g1, 2, none⟩), .pointer (some ⟨g1, 2 + i, none⟩), .int .u8 (F.k i), .int .i64 (i : Int), .pointer (some ⟨g1, 102, none⟩), .pointer (some ⟨g1, 102 + i, none⟩), .int .i16 (F.s i), .int .i64 (F.s i), .bool false, .int .i64 (i : Int), .bool false, .bool true, .bool true, .int .u8 (F.k i), .bool false, .bool false, .bool false, .int .u8 (F.k i), .bool false, .bool false, .bool false, .int .i64 (i : Int), .bool false, .bool false, undef, undef, .bool false, .bool false, undef, undef, undef, .bool false, .bool true, .int .i64 (i : Int), .bool false, .bool true, .bool true, undef, undef, .bool true, .bool true, .int .i64 (F.s i), .bool true, .bool true, J1 51], []⟩) (by kernel_rfl) ?_
                refine ret1 (.bool (okB F)) rfl ?_ rfl ?_
                · show (.bool false : Value) = (.bool (okB F))
                  refine congrArg Value.bool ?_
                  first | exact (okB_w (by omega)).symm | exact (okB_h (by omega)).symm | exact (okB_true.2 ⟨by omega, by omega, by omega, by omega, fun j hj => hall j (by omega)⟩).symm | skip
                  all_goals (refine (okB_c i (by omega) ?_).symm)
                  all_goals (first | (rw [celB_in (by assumption)]; exact decide_eq_false (by omega)) | (rw [celB_out (by assumption)]; exact decide_eq_false (by omega)) | (cases hq_ : isB F (i : Int) with | false => (rw [celB_out hq_]; exact decide_eq_false (by omega)) | true => (rw [celB_in hq_]; exact decide_eq_false (by omega))))
                exact ⟨rfl, H11⟩
              · skip
                have hk26 := h14
                try simp only [decide_eq_true_eq, decide_eq_false_iff_not, Bool.and_eq_true, Bool.or_eq_true, Bool.and_eq_false_iff, Bool.or_eq_false_iff, Bool.not_eq_true', Bool.not_eq_false', beq_iff_eq, beq_eq_false_iff_ne, bne_iff_ne, bne_eq_false_iff_eq, gt_iff_lt, ge_iff_le, ne_eq, Decidable.not_not, Int.not_lt, Int.not_le, inB] at h14
                refine wp_skip ?_
                refine block_normal ?_
                refine block_normal ?_
                refine then_normal ?_
                refine wp_frame (a' := ⟨#[.agg F.cells, .pointer (some ⟨g1, 0, none⟩), J1 0, .int .i64 (i : Int), .int .u8 (F.k i), .int .i64 (F.s i), .pointer (some ⟨g1, 0, none⟩), .int .i8 F.w, .int .i64 F.w, .bool true, .bool false, .bool false, .pointer (some ⟨g1, 1, none⟩), .int .i8 F.h, .int .i64 F.h, .bool true, .bool (!(inB F.h 1 10)), .bool (!(inB F.h 1 10)), .int .i64 (i : Int), .bool true, .int .i64 (i : Int), .int .i64 (i : Int), .pointer (some ⟨g1, 2, none⟩), .pointer (some ⟨g1, 2 + i, none⟩), .int .u8 (F.k i), .int .i64 (i : Int), .pointer (some ⟨g1, 102, none⟩), .pointer (some ⟨g1, 102 + i, none⟩), .int .i16 (F.s i), .int .i64 (F.s i), .bool false, .int .i64 (i : Int), .bool false, .bool true, .bool true, .int .u8 (F.k i), .bool false, .bool false, .bool false, .int .u8 (F.k i), .bool false, .bool false, .bool false, .int .i64 (i : Int), .bool false, .bool false, undef, undef, .bool false, .bool false, undef, undef, undef, .bool false, .bool ((F.s i) != 0), .int .i64 (i : Int), .bool false, .bool true, .bool true, undef, undef, .bool true, .bool true, .int .i64 (F.s i), .bool ((F.s i) != 0), .bool ((F.s i) != 0), J1 51], []⟩) (by kernel_rfl) ?_
                refine wp_region_lit ?_
                refine wpl_val (.int .i64 (IntKind.i64.wrap ((i : Int) + 1))) (.int .i64 ((i : Int) + 1)) rfl (by kernel_rfl) (by kernel_rfl) (by exact congrArg _ (IntWalk.i64_in _ (by omega))) ?_
                refine wpl_frame (a' := ⟨#[.agg F.cells, .pointer (some ⟨g1, 0, none⟩), J1 0, .int .i64 (i : Int), .int .u8 (F.k i), .int .i64 (F.s i), .pointer (some ⟨g1, 0, none⟩), .int .i8 F.w, .int .i64 F.w, .bool true, .bool false, .bool false, .pointer (some ⟨g1, 1, none⟩), .int .i8 F.h, .int .i64 F.h, .bool true, .bool (!(inB F.h 1 10)), .bool (!(inB F.h 1 10)), .int .i64 (i : Int), .bool true, .int .i64 (i : Int), .int .i64 (i : Int), .pointer (some ⟨g1, 2, none⟩), .pointer (some ⟨g1, 2 + i, none⟩), .int .u8 (F.k i), .int .i64 (i : Int), .pointer (some ⟨g1, 102, none⟩), .pointer (some ⟨g1, 102 + i, none⟩), .int .i16 (F.s i), .int .i64 (F.s i), .bool false, .int .i64 (i : Int), .bool false, .bool true, .bool true, .int .u8 (F.k i), .bool false, .bool false, .bool false, .int .u8 (F.k i), .bool false, .bool false, .bool false, .int .i64 (i : Int), .bool false, .bool false, undef, undef, .bool false, .bool false, undef, undef, undef, .bool false, .bool ((F.s i) != 0), .int .i64 (i : Int), .bool false, .bool true, .bool true, undef, undef, .bool true, .bool true, .int .i64 (F.s i), .bool ((F.s i) != 0), .bool ((F.s i) != 0), .int .i64 ((i : Int) + 1)], []⟩) (by kernel_rfl) ?_
                refine wpl_frame (a' := ⟨#[.agg F.cells, .pointer (some ⟨g1, 0, none⟩), J1 0, .int .i64 (i : Int), .int .u8 (F.k i), .int .i64 (F.s i), .pointer (some ⟨g1, 0, none⟩), .int .i8 F.w, .int .i64 F.w, .bool true, .bool false, .bool false, .pointer (some ⟨g1, 1, none⟩), .int .i8 F.h, .int .i64 F.h, .bool true, .bool (!(inB F.h 1 10)), .bool (!(inB F.h 1 10)), .int .i64 (i : Int), .bool true, .int .i64 (i : Int), .int .i64 (i : Int), .pointer (some ⟨g1, 2, none⟩), .pointer (some ⟨g1, 2 + i, none⟩), .int .u8 (F.k i), .int .i64 (i : Int), .pointer (some ⟨g1, 102, none⟩), .pointer (some ⟨g1, 102 + i, none⟩), .int .i16 (F.s i), .int .i64 (F.s i), .bool false, .int .i64 (i : Int), .bool false, .bool true, .bool true, .int .u8 (F.k i), .bool false, .bool false, .bool false, .int .u8 (F.k i), .bool false, .bool false, .bool false, .int .i64 (i : Int), .bool false, .bool false, undef, undef, .bool false, .bool false, undef, undef, undef, .bool false, .bool false, .int .i64 (i : Int), .bool false, .bool true, .bool true, undef, undef, .bool true, .bool true, .int .i64 (F.s i), .bool false, .bool false, .int .i64 ((i : Int) + 1)], []⟩) (by simp only [hk26, Bool.not_true, Bool.not_false]) ?_
                refine wpl_val (.int .i64 ((i : Int) + 1)) (.int .i64 ((i : Int) + 1)) rfl (by kernel_rfl) (by kernel_rfl) rfl ?_
                refine wpList_nil ?_
                refine then_normal ?_
                refine ⟨_, ?_, i + 1, fun i_ => ([J1 0, .int .i64 (i : Int), .int .u8 (F.k i), .int .i64 (F.s i), .bool true, .int .i64 (i : Int), .int .i64 (i : Int), .pointer (some ⟨g1, 2, none⟩), .pointer (some ⟨g1, 2 + i, none⟩), .int .u8 (F.k i), .int .i64 (i : Int), .pointer (some ⟨g1, 102, none⟩), .pointer (some ⟨g1, 102 + i, none⟩), .int .i16 (F.s i), .int .i64 (F.s i), .bool false, .int .i64 (i : Int), .bool false, .bool true, .bool true, .int .u8 (F.k i), .bool false, .bool false, .bool false, .int .u8 (F.k i), .bool false, .bool false, .bool false, .int .i64 (i : Int), .bool false, .bool false, undef, undef, .bool false, .bool false, undef, undef, undef, .bool false, .bool false, .int .i64 (i : Int), .bool false, .bool true, .bool true, undef, undef, .bool true, .bool true, .int .i64 (F.s i), .bool false, .bool false, .int .i64 ((i : Int) + 1)] : List Value).getD i_ undef, rfl, ?_, ?_, H11, ?_, by kernel_rfl⟩
                · omega
                · omega
                · refine all_step hall ?_
                  first | (rw [celB_in (by assumption)]; exact decide_eq_true (by omega)) | (rw [celB_out (by assumption)]; exact decide_eq_true (by omega))
                · exact B1
      · skip
        have hk27 := h3
        try simp only [decide_eq_true_eq, decide_eq_false_iff_not, Bool.and_eq_true, Bool.or_eq_true, Bool.and_eq_false_iff, Bool.or_eq_false_iff, Bool.not_eq_true', Bool.not_eq_false', beq_iff_eq, beq_eq_false_iff_ne, bne_iff_ne, bne_eq_false_iff_eq, gt_iff_lt, ge_iff_le, ne_eq, Decidable.not_not, Int.not_lt, Int.not_le, inB] at h3
        refine wp_exit ?_
        refine then_exit ?_
        refine then_exit ?_
        refine block_exit ?_
        refine then_normal ?_
        refine wp_frame (a' := ⟨#[.agg F.cells, .pointer (some ⟨g1, 0, none⟩), J1 0, J1 1, J1 2, J1 3, .pointer (some ⟨g1, 0, none⟩), .int .i8 F.w, .int .i64 F.w, .bool true, .bool false, .bool false, .pointer (some ⟨g1, 1, none⟩), .int .i8 F.h, .int .i64 F.h, .bool true, .bool (!(inB F.h 1 10)), .bool (!(inB F.h 1 10)), .int .i64 (i : Int), .bool (decide ((i : Int) < 100)), J1 5, J1 6, J1 7, J1 8, J1 9, J1 10, J1 11, J1 12, J1 13, J1 14, J1 15, J1 16, J1 17, J1 18, J1 19, J1 20, J1 21, J1 22, J1 23, J1 24, J1 25, J1 26, J1 27, J1 28, J1 29, J1 30, J1 31, J1 32, J1 33, J1 34, J1 35, J1 36, J1 37, J1 38, J1 39, J1 40, J1 41, J1 42, J1 43, J1 44, J1 45, J1 46, J1 47, J1 48, J1 49, J1 50, J1 51], []⟩) (by kernel_rfl) ?_
        refine wp_seq ?_
        refine wp_region_lit ?_
        refine wpl_val (.bool true) (.bool true) rfl (by kernel_rfl) (by kernel_rfl) rfl ?_
        refine wpl_frame (a' := ⟨#[.agg F.cells, .pointer (some ⟨g1, 0, none⟩), .bool true, J1 1, J1 2, J1 3, .pointer (some ⟨g1, 0, none⟩), .int .i8 F.w, .int .i64 F.w, .bool true, .bool false, .bool false, .pointer (some ⟨g1, 1, none⟩), .int .i8 F.h, .int .i64 F.h, .bool true, .bool (!(inB F.h 1 10)), .bool (!(inB F.h 1 10)), .int .i64 (i : Int), .bool (decide ((i : Int) < 100)), J1 5, J1 6, J1 7, J1 8, J1 9, J1 10, J1 11, J1 12, J1 13, J1 14, J1 15, J1 16, J1 17, J1 18, J1 19, J1 20, J1 21, J1 22, J1 23, J1 24, J1 25, J1 26, J1 27, J1 28, J1 29, J1 30, J1 31, J1 32, J1 33, J1 34, J1 35, J1 36, J1 37, J1 38, J1 39, J1 40, J1 41, J1 42, J1 43, J1 44, J1 45, J1 46, J1 47, J1 48, J1 49, J1 50, J1 51], []⟩) (by kernel_rfl) ?_
        refine wpl_frame (a' := ⟨#[.agg F.cells, .pointer (some ⟨g1, 0, none⟩), .bool true, J1 1, J1 2, J1 3, .pointer (some ⟨g1, 0, none⟩), .int .i8 F.w, .int .i64 F.w, .bool true, .bool false, .bool false, .pointer (some ⟨g1, 1, none⟩), .int .i8 F.h, .int .i64 F.h, .bool true, .bool (!(inB F.h 1 10)), .bool (!(inB F.h 1 10)), .int .i64 (i : Int), .bool false, J1 5, J1 6, J1 7, J1 8, J1 9, J1 10, J1 11, J1 12, J1 13, J1 14, J1 15, J1 16, J1 17, J1 18, J1 19, J1 20, J1 21, J1 22, J1 23, J1 24, J1 25, J1 26, J1 27, J1 28, J1 29, J1 30, J1 31, J1 32, J1 33, J1 34, J1 35, J1 36, J1 37, J1 38, J1 39, J1 40, J1 41, J1 42, J1 43, J1 44, J1 45, J1 46, J1 47, J1 48, J1 49, J1 50, J1 51], []⟩) (by simp only [hk27, Bool.not_true, Bool.not_false]) ?_
        refine wpList_nil ?_
        refine then_normal ?_
        refine wp_frame (a' := ⟨#[.agg F.cells, .pointer (some ⟨g1, 0, none⟩), .bool true, J1 1, J1 2, J1 3, .pointer (some ⟨g1, 0, none⟩), .int .i8 F.w, .int .i64 F.w, .bool true, .bool false, .bool false, .pointer (some ⟨g1, 1, none⟩), .int .i8 F.h, .int .i64 F.h, .bool true, .bool (!(inB F.h 1 10)), .bool (!(inB F.h 1 10)), .int .i64 (i : Int), .bool false, J1 5, J1 6, J1 7, J1 8, J1 9, J1 10, J1 11, J1 12, J1 13, J1 14, J1 15, J1 16, J1 17, J1 18, J1 19, J1 20, J1 21, J1 22, J1 23, J1 24, J1 25, J1 26, J1 27, J1 28, J1 29, J1 30, J1 31, J1 32, J1 33, J1 34, J1 35, J1 36, J1 37, J1 38, J1 39, J1 40, J1 41, J1 42, J1 43, J1 44, J1 45, J1 46, J1 47, J1 48, J1 49, J1 50, J1 51], []⟩) (by kernel_rfl) ?_
        refine wp_ret ?_
        refine body_frame (a' := ⟨#[.agg F.cells, .pointer (some ⟨g1, 0, none⟩), .bool true, J1 1, J1 2, J1 3, .pointer (some ⟨g1, 0, none⟩), .int .i8 F.w, .int .i64 F.w, .bool true, .bool false, .bool false, .pointer (some ⟨g1, 1, none⟩), .int .i8 F.h, .int .i64 F.h, .bool true, .bool (!(inB F.h 1 10)), .bool (!(inB F.h 1 10)), .int .i64 (i : Int), .bool false, J1 5, J1 6, J1 7, J1 8, J1 9, J1 10, J1 11, J1 12, J1 13, J1 14, J1 15, J1 16, J1 17, J1 18, J1 19, J1 20, J1 21, J1 22, J1 23, J1 24, J1 25, J1 26, J1 27, J1 28, J1 29, J1 30, J1 31, J1 32, J1 33, J1 34, J1 35, J1 36, J1 37, J1 38, J1 39, J1 40, J1 41, J1 42, J1 43, J1 44, J1 45, J1 46, J1 47, J1 48, J1 49, J1 50, J1 51], []⟩) (by kernel_rfl) ?_
        refine ret1 (.bool (okB F)) rfl ?_ rfl ?_
        · show (.bool true : Value) = (.bool (okB F))
          refine congrArg Value.bool ?_
          first | exact (okB_w (by omega)).symm | exact (okB_h (by omega)).symm | exact (okB_true.2 ⟨by omega, by omega, by omega, by omega, fun j hj => hall j (by omega)⟩).symm | skip
          all_goals (refine (okB_c i (by omega) ?_).symm)
          all_goals (first | (rw [celB_in (by assumption)]; exact decide_eq_false (by omega)) | (rw [celB_out (by assumption)]; exact decide_eq_false (by omega)) | (cases hq_ : isB F (i : Int) with | false => (rw [celB_out hq_]; exact decide_eq_false (by omega)) | true => (rw [celB_in hq_]; exact decide_eq_false (by omega))))
        exact ⟨rfl, HL1⟩
  · skip
    refine wpl_frame (a' := ⟨#[.agg F.cells, .pointer (some ⟨g1, 0, none⟩), .bool false, undef, undef, undef, .pointer (some ⟨g1, 0, none⟩), .int .i8 F.w, .int .i64 F.w, .bool false, .bool true, .bool true, undef, undef, undef, undef, undef, undef, undef, undef, undef, undef, undef, undef, undef, undef, undef, undef, undef, undef, undef, undef, undef, undef, undef, undef, undef, undef, undef, undef, undef, undef, undef, undef, undef, undef, undef, undef, undef, undef, undef, undef, undef, undef, undef, undef, undef, undef, undef, undef, undef, undef, undef, undef, undef, undef, undef], []⟩) (by simp only [h1, Bool.not_true, Bool.not_false]) ?_
    have hk28 := h1
    try simp only [decide_eq_true_eq, decide_eq_false_iff_not, Bool.and_eq_true, Bool.or_eq_true, Bool.and_eq_false_iff, Bool.or_eq_false_iff, Bool.not_eq_true', Bool.not_eq_false', beq_iff_eq, beq_eq_false_iff_ne, bne_iff_ne, bne_eq_false_iff_eq, gt_iff_lt, ge_iff_le, ne_eq, Decidable.not_not, Int.not_lt, Int.not_le, inB] at h1
    refine wpl_skip rfl (by kernel_rfl) ?_
    refine wpl_skip rfl (by kernel_rfl) ?_
    refine wpl_skip rfl (by kernel_rfl) ?_
    refine wpl_skip rfl (by kernel_rfl) ?_
    refine wpl_skip rfl (by kernel_rfl) ?_
    refine wpl_val (.bool true) (.bool true) rfl (by kernel_rfl) (by kernel_rfl) rfl ?_
    refine wpList_nil ?_
    refine then_normal ?_
    refine wp_frame (a' := ⟨#[.agg F.cells, .pointer (some ⟨g1, 0, none⟩), .bool false, undef, undef, undef, .pointer (some ⟨g1, 0, none⟩), .int .i8 F.w, .int .i64 F.w, .bool false, .bool true, .bool true, undef, undef, undef, undef, undef, .bool true, undef, undef, undef, undef, undef, undef, undef, undef, undef, undef, undef, undef, undef, undef, undef, undef, undef, undef, undef, undef, undef, undef, undef, undef, undef, undef, undef, undef, undef, undef, undef, undef, undef, undef, undef, undef, undef, undef, undef, undef, undef, undef, undef, undef, undef, undef, undef, undef, undef], []⟩) (by kernel_rfl) ?_
    refine wp_cond_true rfl ?_
    refine wp_seq ?_
    refine wp_region_lit ?_
    refine wpl_val (.bool false) (.bool false) rfl (by kernel_rfl) (by kernel_rfl) rfl ?_
    refine wpList_nil ?_
    refine then_normal ?_
    refine wp_frame (a' := ⟨#[.agg F.cells, .pointer (some ⟨g1, 0, none⟩), .bool false, undef, undef, undef, .pointer (some ⟨g1, 0, none⟩), .int .i8 F.w, .int .i64 F.w, .bool false, .bool true, .bool true, undef, undef, undef, undef, undef, .bool true, undef, undef, undef, undef, undef, undef, undef, undef, undef, undef, undef, undef, undef, undef, undef, undef, undef, undef, undef, undef, undef, undef, undef, undef, undef, undef, undef, undef, undef, undef, undef, undef, undef, undef, undef, undef, undef, undef, undef, undef, undef, undef, undef, undef, undef, undef, undef, undef, undef], []⟩) (by kernel_rfl) ?_
    refine wp_ret ?_
    refine then_ret ?_
    refine body_frame (a' := ⟨#[.agg F.cells, .pointer (some ⟨g1, 0, none⟩), .bool false, undef, undef, undef, .pointer (some ⟨g1, 0, none⟩), .int .i8 F.w, .int .i64 F.w, .bool false, .bool true, .bool true, undef, undef, undef, undef, undef, .bool true, undef, undef, undef, undef, undef, undef, undef, undef, undef, undef, undef, undef, undef, undef, undef, undef, undef, undef, undef, undef, undef, undef, undef, undef, undef, undef, undef, undef, undef, undef, undef, undef, undef, undef, undef, undef, undef, undef, undef, undef, undef, undef, undef, undef, undef, undef, undef, undef, undef], []⟩) (by kernel_rfl) ?_
    refine ret1 (.bool (okB F)) rfl ?_ rfl ?_
    · show (.bool false : Value) = (.bool (okB F))
      refine congrArg Value.bool ?_
      first | exact (okB_w (by omega)).symm | exact (okB_h (by omega)).symm | exact (okB_true.2 ⟨by omega, by omega, by omega, by omega, fun j hj => hall j (by omega)⟩).symm | skip
      all_goals (refine (okB_c i (by omega) ?_).symm)
      all_goals (first | (rw [celB_in (by assumption)]; exact decide_eq_false (by omega)) | (rw [celB_out (by assumption)]; exact decide_eq_false (by omega)) | (cases hq_ : isB F (i : Int) with | false => (rw [celB_out hq_]; exact decide_eq_false (by omega)) | true => (rw [celB_in hq_]; exact decide_eq_false (by omega))))
    exact ⟨rfl, H2⟩


--# sValidField_any
theorem sValidField_any (F : Fld) (hF : F.wf) (w : World) :
 Calls Try.prog 23 #[.agg F.cells] w fun e w' => e = .returned (.bool (okB F)) ∧ Ext w w' := by
  refine calls_of_wp Try.func23 rfl ?_
  refine wp_frame (a' := ⟨#[.agg F.cells, undef, undef, undef], []⟩) (by kernel_rfl) ?_
  refine wp_seq ?_
  refine wp_region_lit ?_
  refine wpl_box (v := .agg F.cells) F.cells rfl (by kernel_rfl) rfl (by kernel_rfl) rfl ?_
  intro g1 w1 B1 E1 hg_
  have lo_g1 : w.heap.size ≤ g1 := Nat.le_trans ((Ext.refl w)).size hg_
  clear hg_
  have H1 := ((Ext.refl w)).trans E1
  clear E1
  refine wpl_val (.bool false) (.bool false) rfl (by kernel_rfl) (by kernel_rfl) rfl ?_
  refine wpList_nil ?_
  refine then_normal ?_
  refine wp_frame (a' := ⟨#[.agg F.cells, .pointer (some ⟨g1, 0, none⟩), .bool false, undef], []⟩) (by kernel_rfl) ?_
  refine wp_seq ?_
  refine wp_region_lit ?_
  refine wpl_call (50) #[.pointer (some ⟨g1, 0, none⟩)] rfl (by kernel_rfl) (by kernel_rfl) (l01Ok_any F hF g1 _ _ B1) ?_
  intro w2 E2
  replace B1 := B1.ext E2
  have H2 := (H1).trans E2
  clear E2
  refine wpl_val (.bool (okB F)) (.bool (okB F)) rfl (by kernel_rfl) (by kernel_rfl) rfl ?_
  refine wpList_nil ?_
  refine then_normal ?_
  refine wp_frame (a' := ⟨#[.agg F.cells, .pointer (some ⟨g1, 0, none⟩), .bool (okB F), .bool (okB F)], []⟩) (by kernel_rfl) ?_
  refine wp_ret ?_
  refine body_frame (a' := ⟨#[.agg F.cells, .pointer (some ⟨g1, 0, none⟩), .bool (okB F), .bool (okB F)], []⟩) (by kernel_rfl) ?_
  refine ret1 (.bool (okB F)) rfl ?_ rfl ?_
  · show (.bool (okB F) : Value) = (.bool (okB F))
    rfl
  exact ⟨rfl, H2⟩


--# l01Asked_any
theorem l01Asked_any (F : Fld) (hF : F.wf) (b : Nat) (t : TypeId) (c : Int) (x : Bool) (B : Bool) (hB : (isB F c && x) = B) (w : World) (hb : Blk w b t F.cells) :
 Calls Try.prog 63 #[.pointer (some ⟨b, 0, none⟩), .int .i64 c, .bool x] w fun e w' => e = .returned (.int .i64 (code F B)) ∧ Ext w w' := by
  have lt_b := hb.lt
  refine calls_of_wp Try.func63 rfl ?_
  refine wp_frame (a' := ⟨#[.pointer (some ⟨b, 0, none⟩), .int .i64 c, .bool x, undef, undef, undef, undef, undef, undef, undef, undef, undef, undef, undef, undef, undef, undef, undef], []⟩) (by kernel_rfl) ?_
  refine wp_seq ?_
  refine wp_region_lit ?_
  refine wpl_val (.int .i64 0) (.int .i64 0) rfl (by kernel_rfl) (by kernel_rfl) rfl ?_
  refine wpList_nil ?_
  refine then_normal ?_
  refine wp_frame (a' := ⟨#[.pointer (some ⟨b, 0, none⟩), .int .i64 c, .bool x, undef, undef, undef, .int .i64 0, undef, undef, undef, undef, undef, undef, undef, undef, undef, undef, undef], []⟩) (by kernel_rfl) ?_
  refine wp_seq ?_
  refine wp_seq ?_
  refine wp_region_lit ?_
  refine wpl_val (.pointer (some ⟨b, 0, none⟩)) (.pointer (some ⟨b, 0, none⟩)) rfl (by kernel_rfl) (by kernel_rfl) rfl ?_
  refine wpl_call (50) #[.pointer (some ⟨b, 0, none⟩)] rfl (by kernel_rfl) (by kernel_rfl) (l01Ok_any F hF b _ _ hb) ?_
  intro w1 E1
  replace hb := hb.ext E1
  have H1 := ((Ext.refl w)).trans E1
  clear E1
  refine wpl_val (.bool (!(okB F))) (.bool (!(okB F))) rfl (by kernel_rfl) (by kernel_rfl) rfl ?_
  refine wpList_nil ?_
  refine then_normal ?_
  refine wp_frame (a' := ⟨#[.pointer (some ⟨b, 0, none⟩), .int .i64 c, .bool x, undef, undef, undef, .int .i64 0, .pointer (some ⟨b, 0, none⟩), .bool (okB F), .bool (!(okB F)), undef, undef, undef, undef, undef, undef, undef, undef], []⟩) (by kernel_rfl) ?_
  refine wp_cond_split (t := !(okB F)) rfl (fun h1 => ?_) (fun h1 => ?_)
  · skip
    simp only [Bool.not_eq_true', Bool.not_eq_false'] at h1
    have hk1 := h1
    try simp only [decide_eq_true_eq, decide_eq_false_iff_not, Bool.and_eq_true, Bool.or_eq_true, Bool.and_eq_false_iff, Bool.or_eq_false_iff, Bool.not_eq_true', Bool.not_eq_false', beq_iff_eq, beq_eq_false_iff_ne, bne_iff_ne, bne_eq_false_iff_eq, gt_iff_lt, ge_iff_le, ne_eq, Decidable.not_not, Int.not_lt, Int.not_le] at h1
    refine wp_seq ?_
    refine wp_region_lit ?_
    refine wpl_val (.int .i64 1) (.int .i64 1) rfl (by kernel_rfl) (by kernel_rfl) rfl ?_
    refine wpl_frame (a' := ⟨#[.pointer (some ⟨b, 0, none⟩), .int .i64 c, .bool x, undef, undef, undef, .int .i64 1, .pointer (some ⟨b, 0, none⟩), .bool (okB F), .bool (!(okB F)), undef, undef, undef, undef, undef, undef, undef, undef], []⟩) (by kernel_rfl) ?_
    refine wpl_frame (a' := ⟨#[.pointer (some ⟨b, 0, none⟩), .int .i64 c, .bool x, undef, undef, undef, .int .i64 1, .pointer (some ⟨b, 0, none⟩), .bool false, .bool (!(okB F)), undef, undef, undef, undef, undef, undef, undef, undef], []⟩) (by simp only [hk1, Bool.not_true, Bool.not_false]) ?_
    refine wpList_nil ?_
    refine then_normal ?_
    refine wp_frame (a' := ⟨#[.pointer (some ⟨b, 0, none⟩), .int .i64 c, .bool x, undef, undef, undef, .int .i64 1, .pointer (some ⟨b, 0, none⟩), .bool false, .bool (!(okB F)), undef, undef, undef, undef, undef, undef, undef, undef], []⟩) (by kernel_rfl) ?_
    refine wp_ret ?_
    refine then_ret ?_
    refine body_frame (a' := ⟨#[.pointer (some ⟨b, 0, none⟩), .int .i64 c, .bool x, undef, undef, undef, .int .i64 1, .pointer (some ⟨b, 0, none⟩), .bool false, .bool (!(okB F)), undef, undef, undef, undef, undef, undef, undef, undef], []⟩) (by kernel_rfl) ?_
    refine ret1 (.int .i64 (code F B)) rfl ?_ rfl ?_
    · show (.int .i64 1 : Value) = (.int .i64 (code F B))
      refine congrArg (Value.int _) ?_
      first | exact (code_1 (by assumption)).symm | exact (code_2 (by assumption) (by simp [← hB, *])).symm | exact (code_0 (by assumption) (by simp [← hB, *])).symm
    exact ⟨rfl, H1⟩
  · skip
    simp only [Bool.not_eq_true', Bool.not_eq_false'] at h1
    have hk2 := h1
    try simp only [decide_eq_true_eq, decide_eq_false_iff_not, Bool.and_eq_true, Bool.or_eq_true, Bool.and_eq_false_iff, Bool.or_eq_false_iff, Bool.not_eq_true', Bool.not_eq_false', beq_iff_eq, beq_eq_false_iff_ne, bne_iff_ne, bne_eq_false_iff_eq, gt_iff_lt, ge_iff_le, ne_eq, Decidable.not_not, Int.not_lt, Int.not_le] at h1
    refine wp_skip ?_
    refine then_normal ?_
    refine wp_frame (a' := ⟨#[.pointer (some ⟨b, 0, none⟩), .int .i64 c, .bool x, undef, undef, undef, .int .i64 0, .pointer (some ⟨b, 0, none⟩), .bool (okB F), .bool (!(okB F)), undef, undef, undef, undef, undef, undef, undef, undef], []⟩) (by kernel_rfl) ?_
    refine wp_seq ?_
    refine wp_seq ?_
    refine wp_region_lit ?_
    refine wpl_val (.pointer (some ⟨b, 0, none⟩)) (.pointer (some ⟨b, 0, none⟩)) rfl (by kernel_rfl) (by kernel_rfl) rfl ?_
    refine wpl_frame (a' := ⟨#[.pointer (some ⟨b, 0, none⟩), .int .i64 c, .bool x, undef, undef, undef, .int .i64 0, .pointer (some ⟨b, 0, none⟩), .bool (okB F), .bool (!(okB F)), .pointer (some ⟨b, 0, none⟩), undef, undef, undef, undef, undef, undef, undef], []⟩) (by kernel_rfl) ?_
    refine wpl_frame (a' := ⟨#[.pointer (some ⟨b, 0, none⟩), .int .i64 c, .bool x, undef, undef, undef, .int .i64 0, .pointer (some ⟨b, 0, none⟩), .bool true, .bool (!(okB F)), .pointer (some ⟨b, 0, none⟩), undef, undef, undef, undef, undef, undef, undef], []⟩) (by simp only [hk2, Bool.not_true, Bool.not_false]) ?_
    refine wpl_val (.int .i64 c) (.int .i64 c) rfl (by kernel_rfl) (by kernel_rfl) rfl ?_
    refine wpl_call (57) #[.pointer (some ⟨b, 0, none⟩), .int .i64 c] rfl (by kernel_rfl) (by kernel_rfl) (l01Is_any F hF b _ _ _ hb) ?_
    intro w2 E2
    replace hb := hb.ext E2
    have H2 := (H1).trans E2
    clear E2
    refine wpl_val (.bool (!(isB F c))) (.bool (!(isB F c))) rfl (by kernel_rfl) (by kernel_rfl) rfl ?_
    refine wpl_val (.bool (!(isB F c))) (.bool (!(isB F c))) rfl (by kernel_rfl) (by kernel_rfl) rfl ?_
    refine wpl_frame (a' := ⟨#[.pointer (some ⟨b, 0, none⟩), .int .i64 c, .bool x, undef, undef, undef, .int .i64 0, .pointer (some ⟨b, 0, none⟩), .bool true, .bool (!(okB F)), .pointer (some ⟨b, 0, none⟩), .int .i64 c, .bool (isB F c), .bool (!(isB F c)), .bool (!(isB F c)), undef, undef, undef], []⟩) (by kernel_rfl) ?_
    refine split_bool (isB F c) (fun h2 => ?_) (fun h2 => ?_)
    · skip
      refine wpl_frame (a' := ⟨#[.pointer (some ⟨b, 0, none⟩), .int .i64 c, .bool x, undef, undef, undef, .int .i64 0, .pointer (some ⟨b, 0, none⟩), .bool true, .bool (!(okB F)), .pointer (some ⟨b, 0, none⟩), .int .i64 c, .bool true, .bool false, .bool false, undef, undef, undef], []⟩) (by simp only [h2, Bool.not_true, Bool.not_false]) ?_
      have hk3 := h2
      try simp only [decide_eq_true_eq, decide_eq_false_iff_not, Bool.and_eq_true, Bool.or_eq_true, Bool.and_eq_false_iff, Bool.or_eq_false_iff, Bool.not_eq_true', Bool.not_eq_false', beq_iff_eq, beq_eq_false_iff_ne, bne_iff_ne, bne_eq_false_iff_eq, gt_iff_lt, ge_iff_le, ne_eq, Decidable.not_not, Int.not_lt, Int.not_le] at h2
      refine wpl_val (.bool x) (.bool x) rfl (by kernel_rfl) (by kernel_rfl) rfl ?_
      refine wpl_val (.bool (!x)) (.bool (!x)) rfl (by kernel_rfl) (by kernel_rfl) rfl ?_
      refine wpl_val (.bool (!x)) (.bool (!x)) rfl (by kernel_rfl) (by kernel_rfl) rfl ?_
      refine wpList_nil ?_
      refine then_normal ?_
      refine wp_frame (a' := ⟨#[.pointer (some ⟨b, 0, none⟩), .int .i64 c, .bool x, undef, undef, undef, .int .i64 0, .pointer (some ⟨b, 0, none⟩), .bool true, .bool (!(okB F)), .pointer (some ⟨b, 0, none⟩), .int .i64 c, .bool true, .bool false, .bool false, .bool x, .bool (!x), .bool (!x)], []⟩) (by kernel_rfl) ?_
      refine wp_cond_split (t := !x) rfl (fun h3 => ?_) (fun h3 => ?_)
      · skip
        simp only [Bool.not_eq_true', Bool.not_eq_false'] at h3
        have hk4 := h3
        try simp only [decide_eq_true_eq, decide_eq_false_iff_not, Bool.and_eq_true, Bool.or_eq_true, Bool.and_eq_false_iff, Bool.or_eq_false_iff, Bool.not_eq_true', Bool.not_eq_false', beq_iff_eq, beq_eq_false_iff_ne, bne_iff_ne, bne_eq_false_iff_eq, gt_iff_lt, ge_iff_le, ne_eq, Decidable.not_not, Int.not_lt, Int.not_le] at h3
        refine wp_seq ?_
        refine wp_region_lit ?_
        refine wpl_val (.int .i64 2) (.int .i64 2) rfl (by kernel_rfl) (by kernel_rfl) rfl ?_
        refine wpl_frame (a' := ⟨#[.pointer (some ⟨b, 0, none⟩), .int .i64 c, .bool x, undef, undef, undef, .int .i64 2, .pointer (some ⟨b, 0, none⟩), .bool true, .bool (!(okB F)), .pointer (some ⟨b, 0, none⟩), .int .i64 c, .bool true, .bool false, .bool false, .bool x, .bool (!x), .bool (!x)], []⟩) (by kernel_rfl) ?_
        refine wpl_frame (a' := ⟨#[.pointer (some ⟨b, 0, none⟩), .int .i64 c, .bool false, undef, undef, undef, .int .i64 2, .pointer (some ⟨b, 0, none⟩), .bool true, .bool (!(okB F)), .pointer (some ⟨b, 0, none⟩), .int .i64 c, .bool true, .bool false, .bool false, .bool false, .bool (!x), .bool (!x)], []⟩) (by simp only [hk4, Bool.not_true, Bool.not_false]) ?_
        refine wpList_nil ?_
        refine then_normal ?_
        refine wp_frame (a' := ⟨#[.pointer (some ⟨b, 0, none⟩), .int .i64 c, .bool false, undef, undef, undef, .int .i64 2, .pointer (some ⟨b, 0, none⟩), .bool true, .bool (!(okB F)), .pointer (some ⟨b, 0, none⟩), .int .i64 c, .bool true, .bool false, .bool false, .bool false, .bool (!x), .bool (!x)], []⟩) (by kernel_rfl) ?_
        refine wp_ret ?_
        refine then_ret ?_
        refine body_frame (a' := ⟨#[.pointer (some ⟨b, 0, none⟩), .int .i64 c, .bool false, undef, undef, undef, .int .i64 2, .pointer (some ⟨b, 0, none⟩), .bool true, .bool (!(okB F)), .pointer (some ⟨b, 0, none⟩), .int .i64 c, .bool true, .bool false, .bool false, .bool false, .bool (!x), .bool (!x)], []⟩) (by kernel_rfl) ?_
        refine ret1 (.int .i64 (code F B)) rfl ?_ rfl ?_
        · show (.int .i64 2 : Value) = (.int .i64 (code F B))
          refine congrArg (Value.int _) ?_
          first | exact (code_1 (by assumption)).symm | exact (code_2 (by assumption) (by simp [← hB, *])).symm | exact (code_0 (by assumption) (by simp [← hB, *])).symm
        exact ⟨rfl, H2⟩
      · skip
        simp only [Bool.not_eq_true', Bool.not_eq_false'] at h3
        have hk5 := h3
        try simp only [decide_eq_true_eq, decide_eq_false_iff_not, Bool.and_eq_true, Bool.or_eq_true, Bool.and_eq_false_iff, Bool.or_eq_false_iff, Bool.not_eq_true', Bool.not_eq_false', beq_iff_eq, beq_eq_false_iff_ne, bne_iff_ne, bne_eq_false_iff_eq, gt_iff_lt, ge_iff_le, ne_eq, Decidable.not_not, Int.not_lt, Int.not_le] at h3
        refine wp_skip ?_
        refine then_normal ?_
        refine wp_frame (a' := ⟨#[.pointer (some ⟨b, 0, none⟩), .int .i64 c, .bool x, undef, undef, undef, .int .i64 0, .pointer (some ⟨b, 0, none⟩), .bool true, .bool (!(okB F)), .pointer (some ⟨b, 0, none⟩), .int .i64 c, .bool true, .bool false, .bool false, .bool x, .bool (!x), .bool (!x)], []⟩) (by kernel_rfl) ?_
        refine wp_seq ?_
        refine wp_region_lit ?_
        refine wpl_val (.int .i64 0) (.int .i64 0) rfl (by kernel_rfl) (by kernel_rfl) rfl ?_
        refine wpl_frame (a' := ⟨#[.pointer (some ⟨b, 0, none⟩), .int .i64 c, .bool x, undef, undef, undef, .int .i64 0, .pointer (some ⟨b, 0, none⟩), .bool true, .bool (!(okB F)), .pointer (some ⟨b, 0, none⟩), .int .i64 c, .bool true, .bool false, .bool false, .bool x, .bool (!x), .bool (!x)], []⟩) (by kernel_rfl) ?_
        refine wpl_frame (a' := ⟨#[.pointer (some ⟨b, 0, none⟩), .int .i64 c, .bool true, undef, undef, undef, .int .i64 0, .pointer (some ⟨b, 0, none⟩), .bool true, .bool (!(okB F)), .pointer (some ⟨b, 0, none⟩), .int .i64 c, .bool true, .bool false, .bool false, .bool true, .bool (!x), .bool (!x)], []⟩) (by simp only [hk5, Bool.not_true, Bool.not_false]) ?_
        refine wpList_nil ?_
        refine then_normal ?_
        refine wp_frame (a' := ⟨#[.pointer (some ⟨b, 0, none⟩), .int .i64 c, .bool true, undef, undef, undef, .int .i64 0, .pointer (some ⟨b, 0, none⟩), .bool true, .bool (!(okB F)), .pointer (some ⟨b, 0, none⟩), .int .i64 c, .bool true, .bool false, .bool false, .bool true, .bool (!x), .bool (!x)], []⟩) (by kernel_rfl) ?_
        refine wp_ret ?_
        refine body_frame (a' := ⟨#[.pointer (some ⟨b, 0, none⟩), .int .i64 c, .bool true, undef, undef, undef, .int .i64 0, .pointer (some ⟨b, 0, none⟩), .bool true, .bool (!(okB F)), .pointer (some ⟨b, 0, none⟩), .int .i64 c, .bool true, .bool false, .bool false, .bool true, .bool (!x), .bool (!x)], []⟩) (by kernel_rfl) ?_
        refine ret1 (.int .i64 (code F B)) rfl ?_ rfl ?_
        · show (.int .i64 0 : Value) = (.int .i64 (code F B))
          refine congrArg (Value.int _) ?_
          first | exact (code_1 (by assumption)).symm | exact (code_2 (by assumption) (by simp [← hB, *])).symm | exact (code_0 (by assumption) (by simp [← hB, *])).symm
        exact ⟨rfl, H2⟩
    · skip
      refine wpl_frame (a' := ⟨#[.pointer (some ⟨b, 0, none⟩), .int .i64 c, .bool x, undef, undef, undef, .int .i64 0, .pointer (some ⟨b, 0, none⟩), .bool true, .bool (!(okB F)), .pointer (some ⟨b, 0, none⟩), .int .i64 c, .bool false, .bool true, .bool true, undef, undef, undef], []⟩) (by simp only [h2, Bool.not_true, Bool.not_false]) ?_
      have hk6 := h2
      try simp only [decide_eq_true_eq, decide_eq_false_iff_not, Bool.and_eq_true, Bool.or_eq_true, Bool.and_eq_false_iff, Bool.or_eq_false_iff, Bool.not_eq_true', Bool.not_eq_false', beq_iff_eq, beq_eq_false_iff_ne, bne_iff_ne, bne_eq_false_iff_eq, gt_iff_lt, ge_iff_le, ne_eq, Decidable.not_not, Int.not_lt, Int.not_le] at h2
      refine wpl_skip rfl (by kernel_rfl) ?_
      refine wpl_skip rfl (by kernel_rfl) ?_
      refine wpl_val (.bool true) (.bool true) rfl (by kernel_rfl) (by kernel_rfl) rfl ?_
      refine wpList_nil ?_
      refine then_normal ?_
      refine wp_frame (a' := ⟨#[.pointer (some ⟨b, 0, none⟩), .int .i64 c, .bool x, undef, undef, undef, .int .i64 0, .pointer (some ⟨b, 0, none⟩), .bool true, .bool (!(okB F)), .pointer (some ⟨b, 0, none⟩), .int .i64 c, .bool false, .bool true, .bool true, undef, undef, .bool true], []⟩) (by kernel_rfl) ?_
      refine wp_cond_true rfl ?_
      refine wp_seq ?_
      refine wp_region_lit ?_
      refine wpl_val (.int .i64 2) (.int .i64 2) rfl (by kernel_rfl) (by kernel_rfl) rfl ?_
      refine wpList_nil ?_
      refine then_normal ?_
      refine wp_frame (a' := ⟨#[.pointer (some ⟨b, 0, none⟩), .int .i64 c, .bool x, undef, undef, undef, .int .i64 2, .pointer (some ⟨b, 0, none⟩), .bool true, .bool (!(okB F)), .pointer (some ⟨b, 0, none⟩), .int .i64 c, .bool false, .bool true, .bool true, undef, undef, .bool true], []⟩) (by kernel_rfl) ?_
      refine wp_ret ?_
      refine then_ret ?_
      refine body_frame (a' := ⟨#[.pointer (some ⟨b, 0, none⟩), .int .i64 c, .bool x, undef, undef, undef, .int .i64 2, .pointer (some ⟨b, 0, none⟩), .bool true, .bool (!(okB F)), .pointer (some ⟨b, 0, none⟩), .int .i64 c, .bool false, .bool true, .bool true, undef, undef, .bool true], []⟩) (by kernel_rfl) ?_
      refine ret1 (.int .i64 (code F B)) rfl ?_ rfl ?_
      · show (.int .i64 2 : Value) = (.int .i64 (code F B))
        refine congrArg (Value.int _) ?_
        first | exact (code_1 (by assumption)).symm | exact (code_2 (by assumption) (by simp [← hB, *])).symm | exact (code_0 (by assumption) (by simp [← hB, *])).symm
      exact ⟨rfl, H2⟩

end Go.Proofs.Ytjnlbincgakmpaa
