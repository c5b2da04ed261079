/-
  Contracts: conversions, comparisons, codes. No conditions.
-/
import Derived.Test.YtjnlbincgakmpaaTy
import Derived.Test.YtjnlbincgakmpaaMth
import Derived.Test.YtjnlbincgakmpaaFn1b
namespace Go.Proofs.Ytjnlbincgakmpaa
open Go.RowKit
set_option linter.unusedSimpArgs false
set_option linter.unusedVariables false
set_option maxHeartbeats 4000000
attribute [local irreducible] wpList Code.wp
--# toByteA100_any
theorem toByteA100_any (f : Nat → Int) (w : World) :
 Calls Try.prog 51 #[.agg (arr 100 .u8 f)] w fun e w' => e = .returned (.agg (arr 100 .u8 f)) ∧ Ext w w' := by
  refine calls_of_wp Try.func51 rfl ?_
  refine wp_frame (a' := ⟨#[.agg (arr 100 .u8 f), undef, undef, undef, undef, undef, undef, undef, undef, undef, undef, undef, undef, undef, undef], []⟩) (by kernel_rfl) ?_
  refine wp_seq ?_
  refine wp_region_lit ?_
  refine wpl_box (v := .agg (arr 100 .u8 f)) (arr 100 .u8 f) rfl (by kernel_rfl) rfl (by kernel_rfl) rfl ?_
  intro g1 w1 B1 E1 hg_
  have lo_g1 : w.heap.size ≤ g1 := Nat.le_trans ((Ext.refl w)).size hg_
  clear hg_
  have H1 := ((Ext.refl w)).trans E1
  clear E1
  refine wpl_alloc (arr 100 .u8 (fun _ => 0)) rfl (by kernel_rfl) rfl Try.zeroValue33 zero__100_uint8 ?_
  intro g2 w2 B2 E2 hg_
  have q_g1_g2 : g1 < g2 := Nat.lt_of_lt_of_le B1.lt hg_
  have lo_g2 : w.heap.size ≤ g2 := Nat.le_trans (H1).size hg_
  clear hg_
  replace B1 := B1.ext E2
  have H2 := (H1).trans E2
  clear E2
  refine wpList_nil ?_
  refine then_normal ?_
  refine wp_frame (a' := ⟨#[.agg (arr 100 .u8 f), .pointer (some ⟨g1, 0, none⟩), .pointer (some ⟨g2, 0, none⟩), undef, undef, undef, undef, undef, undef, undef, undef, undef, undef, undef, undef], []⟩) (by kernel_rfl) ?_
  refine wp_seq ?_
  refine wp_region_lit ?_
  refine wpl_alloc (arr 100 .u8 (fun _ => 0)) rfl (by kernel_rfl) rfl Try.zeroValue33 zero__100_uint8 ?_
  intro g3 w3 B3 E3 hg_
  have q_g1_g3 : g1 < g3 := Nat.lt_of_lt_of_le B1.lt hg_
  have q_g2_g3 : g2 < g3 := Nat.lt_of_lt_of_le B2.lt hg_
  have lo_g3 : w.heap.size ≤ g3 := Nat.le_trans (H2).size hg_
  clear hg_
  replace B1 := B1.ext E3
  replace B2 := B2.ext E3
  have H3 := (H2).trans E3
  clear E3
  refine wpList_nil ?_
  refine then_normal ?_
  refine wp_frame (a' := ⟨#[.agg (arr 100 .u8 f), .pointer (some ⟨g1, 0, none⟩), .pointer (some ⟨g2, 0, none⟩), .pointer (some ⟨g3, 0, none⟩), undef, undef, undef, undef, undef, undef, undef, undef, undef, undef, undef], []⟩) (by kernel_rfl) ?_
  refine wp_seq ?_
  refine wp_seq ?_
  refine wp_region_lit ?_
  refine wpl_val (.int .i64 0) (.int .i64 0) rfl (by kernel_rfl) (by kernel_rfl) rfl ?_
  refine wpList_nil ?_
  refine then_normal ?_
  refine wp_frame (a' := ⟨#[.agg (arr 100 .u8 f), .pointer (some ⟨g1, 0, none⟩), .pointer (some ⟨g2, 0, none⟩), .pointer (some ⟨g3, 0, none⟩), .int .i64 0, undef, undef, undef, undef, undef, undef, undef, undef, undef, undef], []⟩) (by kernel_rfl) ?_
  refine wp_block ?_
  refine wp_loop_k (fun m1 a wl1 => ∃ (i : Nat) (J1 : Nat → Value), m1 = 100 - i ∧ i ≤ 100 ∧ Ext w wl1 ∧ Blk wl1 g1 33 (arr 100 .u8 f) ∧ Blk wl1 g2 33 (arr 100 .u8 (fun _ => 0)) ∧ Blk wl1 g3 33 (arr 100 .u8 (cpy f i)) ∧ a = ⟨#[.agg (arr 100 .u8 f), .pointer (some ⟨g1, 0, none⟩), .pointer (some ⟨g2, 0, none⟩), .pointer (some ⟨g3, 0, none⟩), .int .i64 (i : Int), J1 0, J1 1, J1 2, J1 3, J1 4, J1 5, J1 6, J1 7, J1 8, undef], []⟩) (100) ?_ ?_
  · refine ⟨0, fun i_ => ([undef, undef, undef, undef, undef, undef, undef, undef, undef] : List Value).getD i_ undef, rfl, ?_, H3, ?_, ?_, ?_, by kernel_rfl⟩
    · omega
    · exact B1
    · exact B2
    · rw [cpy_zero]; exact B3
  intro m1 a wl1 hI
  obtain ⟨i, J1, rfl, hi_, HL1, B1, B2, B3, rfl⟩ := hI
  refine wp_seq ?_
  refine wp_seq ?_
  refine wp_region_lit ?_
  refine wpl_val (.int .i64 (i : Int)) (.int .i64 (i : Int)) rfl (by kernel_rfl) (by kernel_rfl) rfl ?_
  refine wpl_val (.bool (decide ((i : Int) < 100))) (.bool (decide ((i : Int) < 100))) rfl (by kernel_rfl) (by kernel_rfl) rfl ?_
  refine wpList_nil ?_
  refine then_normal ?_
  refine wp_frame (a' := ⟨#[.agg (arr 100 .u8 f), .pointer (some ⟨g1, 0, none⟩), .pointer (some ⟨g2, 0, none⟩), .pointer (some ⟨g3, 0, none⟩), .int .i64 (i : Int), .int .i64 (i : Int), .bool (decide ((i : Int) < 100)), J1 2, J1 3, J1 4, J1 5, J1 6, J1 7, J1 8, undef], []⟩) (by kernel_rfl) ?_
  refine wp_cond_split (t := decide ((i : Int) < 100)) rfl (fun h1 => ?_) (fun h1 => ?_)
  · skip
    have hk1 := h1
    try simp only [decide_eq_true_eq, decide_eq_false_iff_not, Bool.and_eq_true, Bool.or_eq_true, Bool.and_eq_false_iff, Bool.or_eq_false_iff, Bool.not_eq_true', Bool.not_eq_false', beq_iff_eq, beq_eq_false_iff_ne, bne_iff_ne, bne_eq_false_iff_eq, gt_iff_lt, ge_iff_le, ne_eq, Decidable.not_not, Int.not_lt, Int.not_le] at h1
    refine wp_skip ?_
    refine then_normal ?_
    refine wp_frame (a' := ⟨#[.agg (arr 100 .u8 f), .pointer (some ⟨g1, 0, none⟩), .pointer (some ⟨g2, 0, none⟩), .pointer (some ⟨g3, 0, none⟩), .int .i64 (i : Int), .int .i64 (i : Int), .bool (decide ((i : Int) < 100)), J1 2, J1 3, J1 4, J1 5, J1 6, J1 7, J1 8, undef], []⟩) (by kernel_rfl) ?_
    refine wp_seq ?_
    refine wp_block ?_
    refine wp_region_lit ?_
    refine wpl_val (.int .i64 (i : Int)) (.int .i64 (i : Int)) rfl (by kernel_rfl) (by kernel_rfl) rfl ?_
    refine wpl_frame (a' := ⟨#[.agg (arr 100 .u8 f), .pointer (some ⟨g1, 0, none⟩), .pointer (some ⟨g2, 0, none⟩), .pointer (some ⟨g3, 0, none⟩), .int .i64 (i : Int), .int .i64 (i : Int), .bool (decide ((i : Int) < 100)), J1 2, J1 3, .int .i64 (i : Int), J1 5, J1 6, J1 7, J1 8, undef], []⟩) (by kernel_rfl) ?_
    refine wpl_frame (a' := ⟨#[.agg (arr 100 .u8 f), .pointer (some ⟨g1, 0, none⟩), .pointer (some ⟨g2, 0, none⟩), .pointer (some ⟨g3, 0, none⟩), .int .i64 (i : Int), .int .i64 (i : Int), .bool true, J1 2, J1 3, .int .i64 (i : Int), J1 5, J1 6, J1 7, J1 8, undef], []⟩) (by simp only [hk1, Bool.not_true, Bool.not_false]) ?_
    refine wpl_val (.int .i64 (i : Int)) (.int .i64 (i : Int)) rfl (by kernel_rfl) (by kernel_rfl) rfl ?_
    refine wpl_ixan (i := i) (k := .i64) (g := g1) (off := 0) rfl (by kernel_rfl) arrt__100_uint8 rfl (by kernel_rfl) (by kernel_rfl) (by omega) ?_
    refine wpl_cell (g := g1) (off := 0 + i) (.int .u8 (f i)) rfl (by kernel_rfl) scal_uint8 rfl (by kernel_rfl) (by rw [B1.cell, Nat.zero_add]; exact get_arr (by omega)) ?_
    refine wpl_ixan (i := i) (k := .i64) (g := g3) (off := 0) rfl (by kernel_rfl) arrt__100_uint8 rfl (by kernel_rfl) (by kernel_rfl) (by omega) ?_
    refine wpl_set (g := g3) (off := 0 + i) (.int .u8 (f i)) rfl (by kernel_rfl) scal_uint8 rfl (by kernel_rfl) (by kernel_rfl) rfl B3 (by rw [size_arr]; omega) ?_
    intro w4 B3n X1
    rw [show (arr 100 .u8 (cpy f i)).setIfInBounds (0 + i) (.int .u8 (f i)) = (arr 100 .u8 (upd (cpy f i) i (f i))) from by rw [Nat.zero_add]; exact set_arr] at B3n
    replace B1 := X1.blk B1 (Nat.ne_of_lt q_g1_g3)
    replace B2 := X1.blk B2 (Nat.ne_of_lt q_g2_g3)
    clear B3
    have B3 := B3n
    clear B3n
    have H4 := X1.ext w lo_g3 HL1
    clear X1
    refine wpList_nil ?_
    refine block_normal ?_
    refine then_normal ?_
    refine wp_frame (a' := ⟨#[.agg (arr 100 .u8 f), .pointer (some ⟨g1, 0, none⟩), .pointer (some ⟨g2, 0, none⟩), .pointer (some ⟨g3, 0, none⟩), .int .i64 (i : Int), .int .i64 (i : Int), .bool true, J1 2, J1 3, .int .i64 (i : Int), .int .i64 (i : Int), .pointer (some ⟨g1, 0 + i, none⟩), .int .u8 (f i), .pointer (some ⟨g3, 0 + i, none⟩), undef], []⟩) (by kernel_rfl) ?_
    refine wp_region_lit ?_
    refine wpl_val (.int .i64 (i : Int)) (.int .i64 (i : Int)) rfl (by kernel_rfl) (by kernel_rfl) rfl ?_
    refine wpl_val (.int .i64 (IntKind.i64.wrap ((i : Int) + 1))) (.int .i64 ((i : Int) + 1)) rfl (by kernel_rfl) (by kernel_rfl) (by exact congrArg _ (IntWalk.i64_in _ (by omega))) ?_
    refine wpl_val (.int .i64 ((i : Int) + 1)) (.int .i64 ((i : Int) + 1)) rfl (by kernel_rfl) (by kernel_rfl) rfl ?_
    refine wpList_nil ?_
    refine then_normal ?_
    refine ⟨_, ?_, i + 1, fun i_ => ([.int .i64 (i : Int), .bool true, .int .i64 (i : Int), .int .i64 ((i : Int) + 1), .int .i64 (i : Int), .int .i64 (i : Int), .pointer (some ⟨g1, 0 + i, none⟩), .int .u8 (f i), .pointer (some ⟨g3, 0 + i, none⟩)] : List Value).getD i_ undef, rfl, ?_, H4, ?_, ?_, ?_, by kernel_rfl⟩
    · omega
    · omega
    · exact B1
    · exact B2
    · rw [← cpy_upd]; exact B3
  · skip
    have hk2 := h1
    try simp only [decide_eq_true_eq, decide_eq_false_iff_not, Bool.and_eq_true, Bool.or_eq_true, Bool.and_eq_false_iff, Bool.or_eq_false_iff, Bool.not_eq_true', Bool.not_eq_false', beq_iff_eq, beq_eq_false_iff_ne, bne_iff_ne, bne_eq_false_iff_eq, gt_iff_lt, ge_iff_le, ne_eq, Decidable.not_not, Int.not_lt, Int.not_le] at h1
    refine wp_exit ?_
    refine then_exit ?_
    refine then_exit ?_
    refine block_exit ?_
    refine then_normal ?_
    refine wp_frame (a' := ⟨#[.agg (arr 100 .u8 f), .pointer (some ⟨g1, 0, none⟩), .pointer (some ⟨g2, 0, none⟩), .pointer (some ⟨g3, 0, none⟩), .int .i64 (i : Int), .int .i64 (i : Int), .bool (decide ((i : Int) < 100)), J1 2, J1 3, J1 4, J1 5, J1 6, J1 7, J1 8, undef], []⟩) (by kernel_rfl) ?_
    refine wp_seq ?_
    refine wp_region_lit ?_
    refine wpl_row (arr 100 .u8 (cpy f i)) rfl (by kernel_rfl) row__100_uint8 B3 (by exact size_arr _ _ _) rfl (by kernel_rfl) ?_
    refine wpl_frame (a' := ⟨#[.agg (arr 100 .u8 f), .pointer (some ⟨g1, 0, none⟩), .pointer (some ⟨g2, 0, none⟩), .pointer (some ⟨g3, 0, none⟩), .int .i64 (i : Int), .int .i64 (i : Int), .bool (decide ((i : Int) < 100)), J1 2, J1 3, J1 4, J1 5, J1 6, J1 7, J1 8, .agg (arr 100 .u8 (cpy f i))], []⟩) (by kernel_rfl) ?_
    refine wpl_frame (a' := ⟨#[.agg (arr 100 .u8 f), .pointer (some ⟨g1, 0, none⟩), .pointer (some ⟨g2, 0, none⟩), .pointer (some ⟨g3, 0, none⟩), .int .i64 (i : Int), .int .i64 (i : Int), .bool false, J1 2, J1 3, J1 4, J1 5, J1 6, J1 7, J1 8, .agg (arr 100 .u8 (cpy f i))], []⟩) (by simp only [hk2, Bool.not_true, Bool.not_false]) ?_
    refine wpl_put (arr 100 .u8 (cpy f i)) rfl (by kernel_rfl) row__100_uint8 rfl (by kernel_rfl) (by kernel_rfl) B2 (by exact size_arr _ _ _) (by exact size_arr _ _ _) (by exact one_arr _ _ _) ?_
    intro w5 B2n X2
    replace B1 := X2.blk B1 (Nat.ne_of_lt q_g1_g2)
    replace B3 := X2.blk B3 (Nat.ne_of_gt q_g2_g3)
    clear B2
    have B2 := B2n
    clear B2n
    have H5 := X2.ext w lo_g2 HL1
    clear X2
    refine wpList_nil ?_
    refine then_normal ?_
    refine wp_frame (a' := ⟨#[.agg (arr 100 .u8 f), .pointer (some ⟨g1, 0, none⟩), .pointer (some ⟨g2, 0, none⟩), .pointer (some ⟨g3, 0, none⟩), .int .i64 (i : Int), .int .i64 (i : Int), .bool false, J1 2, J1 3, J1 4, J1 5, J1 6, J1 7, J1 8, .agg (arr 100 .u8 (cpy f i))], []⟩) (by kernel_rfl) ?_
    refine wp_ret ?_
    refine body_frame (a' := ⟨#[.agg (arr 100 .u8 f), .pointer (some ⟨g1, 0, none⟩), .pointer (some ⟨g2, 0, none⟩), .pointer (some ⟨g3, 0, none⟩), .int .i64 (i : Int), .int .i64 (i : Int), .bool false, J1 2, J1 3, J1 4, J1 5, J1 6, J1 7, J1 8, .agg (arr 100 .u8 (cpy f i))], []⟩) (by kernel_rfl) ?_
    refine ret1 (.agg (arr 100 .u8 f)) rfl ?_ rfl ?_
    · refine ⟨g2, 33, (arr 100 .u8 (cpy f i)), _, rfl, B2, row__100_uint8, ?_, ?_⟩
      · exact size_arr _ _ _
      · show (.agg (arr 100 .u8 f) : Value) = (.agg (arr 100 .u8 (cpy f i)))
        refine congrArg Value.agg ?_
        exact (arr_cpy 100 .u8 f (i := i) (by omega)).symm
    exact ⟨rfl, H5⟩


--# toInt16A100_any
theorem toInt16A100_any (f : Nat → Int) (w : World) :
 Calls Try.prog 52 #[.agg (arr 100 .i16 f)] w fun e w' => e = .returned (.agg (arr 100 .i16 f)) ∧ Ext w w' := by
  refine calls_of_wp Try.func52 rfl ?_
  refine wp_frame (a' := ⟨#[.agg (arr 100 .i16 f), undef, undef, undef, undef, undef, undef, undef, undef, undef, undef, undef, undef, undef, undef], []⟩) (by kernel_rfl) ?_
  refine wp_seq ?_
  refine wp_region_lit ?_
  refine wpl_box (v := .agg (arr 100 .i16 f)) (arr 100 .i16 f) rfl (by kernel_rfl) rfl (by kernel_rfl) rfl ?_
  intro g1 w1 B1 E1 hg_
  have lo_g1 : w.heap.size ≤ g1 := Nat.le_trans ((Ext.refl w)).size hg_
  clear hg_
  have H1 := ((Ext.refl w)).trans E1
  clear E1
  refine wpl_alloc (arr 100 .i16 (fun _ => 0)) rfl (by kernel_rfl) rfl Try.zeroValue35 zero__100_int16 ?_
  intro g2 w2 B2 E2 hg_
  have q_g1_g2 : g1 < g2 := Nat.lt_of_lt_of_le B1.lt hg_
  have lo_g2 : w.heap.size ≤ g2 := Nat.le_trans (H1).size hg_
  clear hg_
  replace B1 := B1.ext E2
  have H2 := (H1).trans E2
  clear E2
  refine wpList_nil ?_
  refine then_normal ?_
  refine wp_frame (a' := ⟨#[.agg (arr 100 .i16 f), .pointer (some ⟨g1, 0, none⟩), .pointer (some ⟨g2, 0, none⟩), undef, undef, undef, undef, undef, undef, undef, undef, undef, undef, undef, undef], []⟩) (by kernel_rfl) ?_
  refine wp_seq ?_
  refine wp_region_lit ?_
  refine wpl_alloc (arr 100 .i16 (fun _ => 0)) rfl (by kernel_rfl) rfl Try.zeroValue35 zero__100_int16 ?_
  intro g3 w3 B3 E3 hg_
  have q_g1_g3 : g1 < g3 := Nat.lt_of_lt_of_le B1.lt hg_
  have q_g2_g3 : g2 < g3 := Nat.lt_of_lt_of_le B2.lt hg_
  have lo_g3 : w.heap.size ≤ g3 := Nat.le_trans (H2).size hg_
  clear hg_
  replace B1 := B1.ext E3
  replace B2 := B2.ext E3
  have H3 := (H2).trans E3
  clear E3
  refine wpList_nil ?_
  refine then_normal ?_
  refine wp_frame (a' := ⟨#[.agg (arr 100 .i16 f), .pointer (some ⟨g1, 0, none⟩), .pointer (some ⟨g2, 0, none⟩), .pointer (some ⟨g3, 0, none⟩), undef, undef, undef, undef, undef, undef, undef, undef, undef, undef, undef], []⟩) (by kernel_rfl) ?_
  refine wp_seq ?_
  refine wp_seq ?_
  refine wp_region_lit ?_
  refine wpl_val (.int .i64 0) (.int .i64 0) rfl (by kernel_rfl) (by kernel_rfl) rfl ?_
  refine wpList_nil ?_
  refine then_normal ?_
  refine wp_frame (a' := ⟨#[.agg (arr 100 .i16 f), .pointer (some ⟨g1, 0, none⟩), .pointer (some ⟨g2, 0, none⟩), .pointer (some ⟨g3, 0, none⟩), .int .i64 0, undef, undef, undef, undef, undef, undef, undef, undef, undef, undef], []⟩) (by kernel_rfl) ?_
  refine wp_block ?_
  refine wp_loop_k (fun m1 a wl1 => ∃ (i : Nat) (J1 : Nat → Value), m1 = 100 - i ∧ i ≤ 100 ∧ Ext w wl1 ∧ Blk wl1 g1 35 (arr 100 .i16 f) ∧ Blk wl1 g2 35 (arr 100 .i16 (fun _ => 0)) ∧ Blk wl1 g3 35 (arr 100 .i16 (cpy f i)) ∧ a = ⟨#[.agg (arr 100 .i16 f), .pointer (some ⟨g1, 0, none⟩), .pointer (some ⟨g2, 0, none⟩), .pointer (some ⟨g3, 0, none⟩), .int .i64 (i : Int), J1 0, J1 1, J1 2, J1 3, J1 4, J1 5, J1 6, J1 7, J1 8, undef], []⟩) (100) ?_ ?_
  · refine ⟨0, fun i_ => ([undef, undef, undef, undef, undef, undef, undef, undef, undef] : List Value).getD i_ undef, rfl, ?_, H3, ?_, ?_, ?_, by kernel_rfl⟩
    · omega
    · exact B1
    · exact B2
    · rw [cpy_zero]; exact B3
  intro m1 a wl1 hI
  obtain ⟨i, J1, rfl, hi_, HL1, B1, B2, B3, rfl⟩ := hI
  refine wp_seq ?_
  refine wp_seq ?_
  refine wp_region_lit ?_
  refine wpl_val (.int .i64 (i : Int)) (.int .i64 (i : Int)) rfl (by kernel_rfl) (by kernel_rfl) rfl ?_
  refine wpl_val (.bool (decide ((i : Int) < 100))) (.bool (decide ((i : Int) < 100))) rfl (by kernel_rfl) (by kernel_rfl) rfl ?_
  refine wpList_nil ?_
  refine then_normal ?_
  refine wp_frame (a' := ⟨#[.agg (arr 100 .i16 f), .pointer (some ⟨g1, 0, none⟩), .pointer (some ⟨g2, 0, none⟩), .pointer (some ⟨g3, 0, none⟩), .int .i64 (i : Int), .int .i64 (i : Int), .bool (decide ((i : Int) < 100)), J1 2, J1 3, J1 4, J1 5, J1 6, J1 7, J1 8, undef], []⟩) (by kernel_rfl) ?_
  refine wp_cond_split (t := decide ((i : Int) < 100)) rfl (fun h1 => ?_) (fun h1 => ?_)
  · skip
    have hk1 := h1
    try simp only [decide_eq_true_eq, decide_eq_false_iff_not, Bool.and_eq_true, Bool.or_eq_true, Bool.and_eq_false_iff, Bool.or_eq_false_iff, Bool.not_eq_true', Bool.not_eq_false', beq_iff_eq, beq_eq_false_iff_ne, bne_iff_ne, bne_eq_false_iff_eq, gt_iff_lt, ge_iff_le, ne_eq, Decidable.not_not, Int.not_lt, Int.not_le] at h1
    refine wp_skip ?_
    refine then_normal ?_
    refine wp_frame (a' := ⟨#[.agg (arr 100 .i16 f), .pointer (some ⟨g1, 0, none⟩), .pointer (some ⟨g2, 0, none⟩), .pointer (some ⟨g3, 0, none⟩), .int .i64 (i : Int), .int .i64 (i : Int), .bool (decide ((i : Int) < 100)), J1 2, J1 3, J1 4, J1 5, J1 6, J1 7, J1 8, undef], []⟩) (by kernel_rfl) ?_
    refine wp_seq ?_
    refine wp_block ?_
    refine wp_region_lit ?_
    refine wpl_val (.int .i64 (i : Int)) (.int .i64 (i : Int)) rfl (by kernel_rfl) (by kernel_rfl) rfl ?_
    refine wpl_frame (a' := ⟨#[.agg (arr 100 .i16 f), .pointer (some ⟨g1, 0, none⟩), .pointer (some ⟨g2, 0, none⟩), .pointer (some ⟨g3, 0, none⟩), .int .i64 (i : Int), .int .i64 (i : Int), .bool (decide ((i : Int) < 100)), J1 2, J1 3, .int .i64 (i : Int), J1 5, J1 6, J1 7, J1 8, undef], []⟩) (by kernel_rfl) ?_
    refine wpl_frame (a' := ⟨#[.agg (arr 100 .i16 f), .pointer (some ⟨g1, 0, none⟩), .pointer (some ⟨g2, 0, none⟩), .pointer (some ⟨g3, 0, none⟩), .int .i64 (i : Int), .int .i64 (i : Int), .bool true, J1 2, J1 3, .int .i64 (i : Int), J1 5, J1 6, J1 7, J1 8, undef], []⟩) (by simp only [hk1, Bool.not_true, Bool.not_false]) ?_
    refine wpl_val (.int .i64 (i : Int)) (.int .i64 (i : Int)) rfl (by kernel_rfl) (by kernel_rfl) rfl ?_
    refine wpl_ixan (i := i) (k := .i64) (g := g1) (off := 0) rfl (by kernel_rfl) arrt__100_int16 rfl (by kernel_rfl) (by kernel_rfl) (by omega) ?_
    refine wpl_cell (g := g1) (off := 0 + i) (.int .i16 (f i)) rfl (by kernel_rfl) scal_int16 rfl (by kernel_rfl) (by rw [B1.cell, Nat.zero_add]; exact get_arr (by omega)) ?_
    refine wpl_ixan (i := i) (k := .i64) (g := g3) (off := 0) rfl (by kernel_rfl) arrt__100_int16 rfl (by kernel_rfl) (by kernel_rfl) (by omega) ?_
    refine wpl_set (g := g3) (off := 0 + i) (.int .i16 (f i)) rfl (by kernel_rfl) scal_int16 rfl (by kernel_rfl) (by kernel_rfl) rfl B3 (by rw [size_arr]; omega) ?_
    intro w4 B3n X1
    rw [show (arr 100 .i16 (cpy f i)).setIfInBounds (0 + i) (.int .i16 (f i)) = (arr 100 .i16 (upd (cpy f i) i (f i))) from by rw [Nat.zero_add]; exact set_arr] at B3n
    replace B1 := X1.blk B1 (Nat.ne_of_lt q_g1_g3)
    replace B2 := X1.blk B2 (Nat.ne_of_lt q_g2_g3)
    clear B3
    have B3 := B3n
    clear B3n
    have H4 := X1.ext w lo_g3 HL1
    clear X1
    refine wpList_nil ?_
    refine block_normal ?_
    refine then_normal ?_
    refine wp_frame (a' := ⟨#[.agg (arr 100 .i16 f), .pointer (some ⟨g1, 0, none⟩), .pointer (some ⟨g2, 0, none⟩), .pointer (some ⟨g3, 0, none⟩), .int .i64 (i : Int), .int .i64 (i : Int), .bool true, J1 2, J1 3, .int .i64 (i : Int), .int .i64 (i : Int), .pointer (some ⟨g1, 0 + i, none⟩), .int .i16 (f i), .pointer (some ⟨g3, 0 + i, none⟩), undef], []⟩) (by kernel_rfl) ?_
    refine wp_region_lit ?_
    refine wpl_val (.int .i64 (i : Int)) (.int .i64 (i : Int)) rfl (by kernel_rfl) (by kernel_rfl) rfl ?_
    refine wpl_val (.int .i64 (IntKind.i64.wrap ((i : Int) + 1))) (.int .i64 ((i : Int) + 1)) rfl (by kernel_rfl) (by kernel_rfl) (by exact congrArg _ (IntWalk.i64_in _ (by omega))) ?_
    refine wpl_val (.int .i64 ((i : Int) + 1)) (.int .i64 ((i : Int) + 1)) rfl (by kernel_rfl) (by kernel_rfl) rfl ?_
    refine wpList_nil ?_
    refine then_normal ?_
    refine ⟨_, ?_, i + 1, fun i_ => ([.int .i64 (i : Int), .bool true, .int .i64 (i : Int), .int .i64 ((i : Int) + 1), .int .i64 (i : Int), .int .i64 (i : Int), .pointer (some ⟨g1, 0 + i, none⟩), .int .i16 (f i), .pointer (some ⟨g3, 0 + i, none⟩)] : List Value).getD i_ undef, rfl, ?_, H4, ?_, ?_, ?_, by kernel_rfl⟩
    · omega
    · omega
    · exact B1
    · exact B2
    · rw [← cpy_upd]; exact B3
  · skip
    have hk2 := h1
    try simp only [decide_eq_true_eq, decide_eq_false_iff_not, Bool.and_eq_true, Bool.or_eq_true, Bool.and_eq_false_iff, Bool.or_eq_false_iff, Bool.not_eq_true', Bool.not_eq_false', beq_iff_eq, beq_eq_false_iff_ne, bne_iff_ne, bne_eq_false_iff_eq, gt_iff_lt, ge_iff_le, ne_eq, Decidable.not_not, Int.not_lt, Int.not_le] at h1
    refine wp_exit ?_
    refine then_exit ?_
    refine then_exit ?_
    refine block_exit ?_
    refine then_normal ?_
    refine wp_frame (a' := ⟨#[.agg (arr 100 .i16 f), .pointer (some ⟨g1, 0, none⟩), .pointer (some ⟨g2, 0, none⟩), .pointer (some ⟨g3, 0, none⟩), .int .i64 (i : Int), .int .i64 (i : Int), .bool (decide ((i : Int) < 100)), J1 2, J1 3, J1 4, J1 5, J1 6, J1 7, J1 8, undef], []⟩) (by kernel_rfl) ?_
    refine wp_seq ?_
    refine wp_region_lit ?_
    refine wpl_row (arr 100 .i16 (cpy f i)) rfl (by kernel_rfl) row__100_int16 B3 (by exact size_arr _ _ _) rfl (by kernel_rfl) ?_
    refine wpl_frame (a' := ⟨#[.agg (arr 100 .i16 f), .pointer (some ⟨g1, 0, none⟩), .pointer (some ⟨g2, 0, none⟩), .pointer (some ⟨g3, 0, none⟩), .int .i64 (i : Int), .int .i64 (i : Int), .bool (decide ((i : Int) < 100)), J1 2, J1 3, J1 4, J1 5, J1 6, J1 7, J1 8, .agg (arr 100 .i16 (cpy f i))], []⟩) (by kernel_rfl) ?_
    refine wpl_frame (a' := ⟨#[.agg (arr 100 .i16 f), .pointer (some ⟨g1, 0, none⟩), .pointer (some ⟨g2, 0, none⟩), .pointer (some ⟨g3, 0, none⟩), .int .i64 (i : Int), .int .i64 (i : Int), .bool false, J1 2, J1 3, J1 4, J1 5, J1 6, J1 7, J1 8, .agg (arr 100 .i16 (cpy f i))], []⟩) (by simp only [hk2, Bool.not_true, Bool.not_false]) ?_
    refine wpl_put (arr 100 .i16 (cpy f i)) rfl (by kernel_rfl) row__100_int16 rfl (by kernel_rfl) (by kernel_rfl) B2 (by exact size_arr _ _ _) (by exact size_arr _ _ _) (by exact one_arr _ _ _) ?_
    intro w5 B2n X2
    replace B1 := X2.blk B1 (Nat.ne_of_lt q_g1_g2)
    replace B3 := X2.blk B3 (Nat.ne_of_gt q_g2_g3)
    clear B2
    have B2 := B2n
    clear B2n
    have H5 := X2.ext w lo_g2 HL1
    clear X2
    refine wpList_nil ?_
    refine then_normal ?_
    refine wp_frame (a' := ⟨#[.agg (arr 100 .i16 f), .pointer (some ⟨g1, 0, none⟩), .pointer (some ⟨g2, 0, none⟩), .pointer (some ⟨g3, 0, none⟩), .int .i64 (i : Int), .int .i64 (i : Int), .bool false, J1 2, J1 3, J1 4, J1 5, J1 6, J1 7, J1 8, .agg (arr 100 .i16 (cpy f i))], []⟩) (by kernel_rfl) ?_
    refine wp_ret ?_
    refine body_frame (a' := ⟨#[.agg (arr 100 .i16 f), .pointer (some ⟨g1, 0, none⟩), .pointer (some ⟨g2, 0, none⟩), .pointer (some ⟨g3, 0, none⟩), .int .i64 (i : Int), .int .i64 (i : Int), .bool false, J1 2, J1 3, J1 4, J1 5, J1 6, J1 7, J1 8, .agg (arr 100 .i16 (cpy f i))], []⟩) (by kernel_rfl) ?_
    refine ret1 (.agg (arr 100 .i16 f)) rfl ?_ rfl ?_
    · refine ⟨g2, 35, (arr 100 .i16 (cpy f i)), _, rfl, B2, row__100_int16, ?_, ?_⟩
      · exact size_arr _ _ _
      · show (.agg (arr 100 .i16 f) : Value) = (.agg (arr 100 .i16 (cpy f i)))
        refine congrArg Value.agg ?_
        exact (arr_cpy 100 .i16 f (i := i) (by omega)).symm
    exact ⟨rfl, H5⟩


--# toField_any
theorem toField_any (F : Fld) (hF : F.wf) (w : World) :
 Calls Try.prog 24 #[.agg F.cells] w fun e w' => e = .returned (.agg F.cells) ∧ Ext w w' := by
  have w1_ := hF.w1
  have w2_ := hF.w2
  have h1_ := hF.h1
  have h2_ := hF.h2
  refine calls_of_wp Try.func24 rfl ?_
  refine wp_frame (a' := ⟨#[.agg F.cells, undef, undef, undef, undef, undef, undef, undef, undef, undef, undef, undef, undef, undef, undef, undef, undef, undef, undef], []⟩) (by kernel_rfl) ?_
  refine wp_seq ?_
  refine wp_region_lit ?_
  refine wpl_box (v := .agg F.cells) F.cells rfl (by kernel_rfl) rfl (by kernel_rfl) rfl ?_
  intro g1 w1 B1 E1 hg_
  have lo_g1 : w.heap.size ≤ g1 := Nat.le_trans ((Ext.refl w)).size hg_
  clear hg_
  have H1 := ((Ext.refl w)).trans E1
  clear E1
  refine wpl_alloc (Fld.cells Fld.zero) rfl (by kernel_rfl) rfl Try.zeroValue39 zero_impl_Field ?_
  intro g2 w2 B2 E2 hg_
  have q_g1_g2 : g1 < g2 := Nat.lt_of_lt_of_le B1.lt hg_
  have lo_g2 : w.heap.size ≤ g2 := Nat.le_trans (H1).size hg_
  clear hg_
  replace B1 := B1.ext E2
  have H2 := (H1).trans E2
  clear E2
  refine wpList_nil ?_
  refine then_normal ?_
  refine wp_frame (a' := ⟨#[.agg F.cells, .pointer (some ⟨g1, 0, none⟩), .pointer (some ⟨g2, 0, none⟩), undef, undef, undef, undef, undef, undef, undef, undef, undef, undef, undef, undef, undef, undef, undef, undef], []⟩) (by kernel_rfl) ?_
  refine wp_seq ?_
  refine wp_region_lit ?_
  refine wpl_alloc (Fld.cells Fld.zero) rfl (by kernel_rfl) rfl Try.zeroValue39 zero_impl_Field ?_
  intro g3 w3 B3 E3 hg_
  have q_g1_g3 : g1 < g3 := Nat.lt_of_lt_of_le B1.lt hg_
  have q_g2_g3 : g2 < g3 := Nat.lt_of_lt_of_le B2.lt hg_
  have lo_g3 : w.heap.size ≤ g3 := Nat.le_trans (H2).size hg_
  clear hg_
  replace B1 := B1.ext E3
  replace B2 := B2.ext E3
  have H3 := (H2).trans E3
  clear E3
  refine wpList_nil ?_
  refine then_normal ?_
  refine wp_frame (a' := ⟨#[.agg F.cells, .pointer (some ⟨g1, 0, none⟩), .pointer (some ⟨g2, 0, none⟩), .pointer (some ⟨g3, 0, none⟩), undef, undef, undef, undef, undef, undef, undef, undef, undef, undef, undef, undef, undef, undef, undef], []⟩) (by kernel_rfl) ?_
  refine wp_seq ?_
  refine wp_region_lit ?_
  refine wpl_val (.pointer (some ⟨g1, 0, none⟩)) (.pointer (some ⟨g1, 0, none⟩)) rfl (by kernel_rfl) (by kernel_rfl) rfl ?_
  refine wpl_cell (g := g1) (off := 0) (.int .i8 F.w) rfl (by kernel_rfl) scal_int8 rfl (by kernel_rfl) (by rw [B1.cell]; exact Fld.get0 _) ?_
  refine wpl_val (.pointer (some ⟨g3, 0, none⟩)) (.pointer (some ⟨g3, 0, none⟩)) rfl (by kernel_rfl) (by kernel_rfl) rfl ?_
  refine wpl_set (g := g3) (off := 0) (.int .i8 F.w) rfl (by kernel_rfl) scal_int8 rfl (by kernel_rfl) (by kernel_rfl) rfl B3 (by rw [Fld.size_cells]; omega) ?_
  intro w4 B3n X1
  rw [show (Fld.cells Fld.zero).setIfInBounds 0 (.int .i8 F.w) = (Fld.cells ({ Fld.zero with w := F.w })) from by exact Fld.setw _ _] at B3n
  replace B1 := X1.blk B1 (Nat.ne_of_lt q_g1_g3)
  replace B2 := X1.blk B2 (Nat.ne_of_lt q_g2_g3)
  clear B3
  have B3 := B3n
  clear B3n
  have H4 := X1.ext w lo_g3 H3
  clear X1
  refine wpList_nil ?_
  refine then_normal ?_
  refine wp_frame (a' := ⟨#[.agg F.cells, .pointer (some ⟨g1, 0, none⟩), .pointer (some ⟨g2, 0, none⟩), .pointer (some ⟨g3, 0, none⟩), .pointer (some ⟨g1, 0, none⟩), .int .i8 F.w, .pointer (some ⟨g3, 0, none⟩), undef, undef, undef, undef, undef, undef, undef, undef, undef, undef, undef, undef], []⟩) (by kernel_rfl) ?_
  refine wp_seq ?_
  refine wp_region_lit ?_
  refine wpl_val (.pointer (some ⟨g1, 1, none⟩)) (.pointer (some ⟨g1, 1, none⟩)) rfl (by kernel_rfl) (by kernel_rfl) rfl ?_
  refine wpl_cell (g := g1) (off := 1) (.int .i8 F.h) rfl (by kernel_rfl) scal_int8 rfl (by kernel_rfl) (by rw [B1.cell]; exact Fld.get1 _) ?_
  refine wpl_val (.pointer (some ⟨g3, 1, none⟩)) (.pointer (some ⟨g3, 1, none⟩)) rfl (by kernel_rfl) (by kernel_rfl) rfl ?_
  refine wpl_set (g := g3) (off := 1) (.int .i8 F.h) rfl (by kernel_rfl) scal_int8 rfl (by kernel_rfl) (by kernel_rfl) rfl B3 (by rw [Fld.size_cells]; omega) ?_
  intro w5 B3n X2
  rw [show (Fld.cells ({ Fld.zero with w := F.w })).setIfInBounds 1 (.int .i8 F.h) = (Fld.cells ({ { Fld.zero with w := F.w } with h := F.h })) from by exact Fld.seth _ _] at B3n
  replace B1 := X2.blk B1 (Nat.ne_of_lt q_g1_g3)
  replace B2 := X2.blk B2 (Nat.ne_of_lt q_g2_g3)
  clear B3
  have B3 := B3n
  clear B3n
  have H5 := X2.ext w lo_g3 H4
  clear X2
  refine wpList_nil ?_
  refine then_normal ?_
  refine wp_frame (a' := ⟨#[.agg F.cells, .pointer (some ⟨g1, 0, none⟩), .pointer (some ⟨g2, 0, none⟩), .pointer (some ⟨g3, 0, none⟩), .pointer (some ⟨g1, 0, none⟩), .int .i8 F.w, .pointer (some ⟨g3, 0, none⟩), .pointer (some ⟨g1, 1, none⟩), .int .i8 F.h, .pointer (some ⟨g3, 1, none⟩), undef, undef, undef, undef, undef, undef, undef, undef, undef], []⟩) (by kernel_rfl) ?_
  refine wp_seq ?_
  refine wp_region_lit ?_
  refine wpl_val (.pointer (some ⟨g1, 2, none⟩)) (.pointer (some ⟨g1, 2, none⟩)) rfl (by kernel_rfl) (by kernel_rfl) rfl ?_
  refine wpl_mid (arr 100 .u8 F.k) rfl (by kernel_rfl) row__100_uint8 (by exact size_arr _ _ _) (Fld.midk B1) rfl (by kernel_rfl) ?_
  refine wpl_call (51) #[.agg (arr 100 .u8 F.k)] rfl (by kernel_rfl) (by kernel_rfl) (toByteA100_any F.k _) ?_
  intro w6 E4
  replace B1 := B1.ext E4
  replace B2 := B2.ext E4
  replace B3 := B3.ext E4
  have H6 := (H5).trans E4
  clear E4
  refine wpl_val (.pointer (some ⟨g3, 2, none⟩)) (.pointer (some ⟨g3, 2, none⟩)) rfl (by kernel_rfl) (by kernel_rfl) rfl ?_
  refine wpl_putmid (off := 2) (n := 100) (arr 100 .u8 F.k) rfl (by kernel_rfl) row__100_uint8 rfl (by kernel_rfl) (by kernel_rfl) B3 (by exact size_arr _ _ _) (by rw [Fld.size_cells]; omega) (by exact one_arr _ _ _) ?_
  intro w7 B3n X3
  rw [Fld.putk] at B3n
  replace B1 := X3.blk B1 (Nat.ne_of_lt q_g1_g3)
  replace B2 := X3.blk B2 (Nat.ne_of_lt q_g2_g3)
  clear B3
  have B3 := B3n
  clear B3n
  have H7 := X3.ext w lo_g3 H6
  clear X3
  refine wpList_nil ?_
  refine then_normal ?_
  refine wp_frame (a' := ⟨#[.agg F.cells, .pointer (some ⟨g1, 0, none⟩), .pointer (some ⟨g2, 0, none⟩), .pointer (some ⟨g3, 0, none⟩), .pointer (some ⟨g1, 0, none⟩), .int .i8 F.w, .pointer (some ⟨g3, 0, none⟩), .pointer (some ⟨g1, 1, none⟩), .int .i8 F.h, .pointer (some ⟨g3, 1, none⟩), .pointer (some ⟨g1, 2, none⟩), .agg (arr 100 .u8 F.k), .agg (arr 100 .u8 F.k), .pointer (some ⟨g3, 2, none⟩), undef, undef, undef, undef, undef], []⟩) (by kernel_rfl) ?_
  refine wp_seq ?_
  refine wp_region_lit ?_
  refine wpl_val (.pointer (some ⟨g1, 102, none⟩)) (.pointer (some ⟨g1, 102, none⟩)) rfl (by kernel_rfl) (by kernel_rfl) rfl ?_
  refine wpl_mid (arr 100 .i16 F.s) rfl (by kernel_rfl) row__100_int16 (by exact size_arr _ _ _) (Fld.mids B1) rfl (by kernel_rfl) ?_
  refine wpl_call (52) #[.agg (arr 100 .i16 F.s)] rfl (by kernel_rfl) (by kernel_rfl) (toInt16A100_any F.s _) ?_
  intro w8 E5
  replace B1 := B1.ext E5
  replace B2 := B2.ext E5
  replace B3 := B3.ext E5
  have H8 := (H7).trans E5
  clear E5
  refine wpl_val (.pointer (some ⟨g3, 102, none⟩)) (.pointer (some ⟨g3, 102, none⟩)) rfl (by kernel_rfl) (by kernel_rfl) rfl ?_
  refine wpl_putmid (off := 102) (n := 100) (arr 100 .i16 F.s) rfl (by kernel_rfl) row__100_int16 rfl (by kernel_rfl) (by kernel_rfl) B3 (by exact size_arr _ _ _) (by rw [Fld.size_cells]; omega) (by exact one_arr _ _ _) ?_
  intro w9 B3n X4
  rw [Fld.puts] at B3n
  replace B1 := X4.blk B1 (Nat.ne_of_lt q_g1_g3)
  replace B2 := X4.blk B2 (Nat.ne_of_lt q_g2_g3)
  clear B3
  have B3 := B3n
  clear B3n
  have H9 := X4.ext w lo_g3 H8
  clear X4
  refine wpList_nil ?_
  refine then_normal ?_
  refine wp_frame (a' := ⟨#[.agg F.cells, .pointer (some ⟨g1, 0, none⟩), .pointer (some ⟨g2, 0, none⟩), .pointer (some ⟨g3, 0, none⟩), .pointer (some ⟨g1, 0, none⟩), .int .i8 F.w, .pointer (some ⟨g3, 0, none⟩), .pointer (some ⟨g1, 1, none⟩), .int .i8 F.h, .pointer (some ⟨g3, 1, none⟩), .pointer (some ⟨g1, 2, none⟩), .agg (arr 100 .u8 F.k), .agg (arr 100 .u8 F.k), .pointer (some ⟨g3, 2, none⟩), .pointer (some ⟨g1, 102, none⟩), .agg (arr 100 .i16 F.s), .agg (arr 100 .i16 F.s), .pointer (some ⟨g3, 102, none⟩), undef], []⟩) (by kernel_rfl) ?_
  refine wp_seq ?_
  refine wp_region_lit ?_
  refine wpl_row (Fld.cells ({ { { { Fld.zero with w := F.w } with h := F.h } with k := F.k } with s := F.s })) rfl (by kernel_rfl) row_impl_Field B3 (by exact Fld.size_cells _) rfl (by kernel_rfl) ?_
  refine wpl_put (Fld.cells ({ { { { Fld.zero with w := F.w } with h := F.h } with k := F.k } with s := F.s })) rfl (by kernel_rfl) row_impl_Field rfl (by kernel_rfl) (by kernel_rfl) B2 (by exact Fld.size_cells _) (by exact Fld.size_cells _) (by exact Fld.one_cells _) ?_
  intro w10 B2n X5
  replace B1 := X5.blk B1 (Nat.ne_of_lt q_g1_g2)
  replace B3 := X5.blk B3 (Nat.ne_of_gt q_g2_g3)
  clear B2
  have B2 := B2n
  clear B2n
  have H10 := X5.ext w lo_g2 H9
  clear X5
  refine wpList_nil ?_
  refine then_normal ?_
  refine wp_frame (a' := ⟨#[.agg F.cells, .pointer (some ⟨g1, 0, none⟩), .pointer (some ⟨g2, 0, none⟩), .pointer (some ⟨g3, 0, none⟩), .pointer (some ⟨g1, 0, none⟩), .int .i8 F.w, .pointer (some ⟨g3, 0, none⟩), .pointer (some ⟨g1, 1, none⟩), .int .i8 F.h, .pointer (some ⟨g3, 1, none⟩), .pointer (some ⟨g1, 2, none⟩), .agg (arr 100 .u8 F.k), .agg (arr 100 .u8 F.k), .pointer (some ⟨g3, 2, none⟩), .pointer (some ⟨g1, 102, none⟩), .agg (arr 100 .i16 F.s), .agg (arr 100 .i16 F.s), .pointer (some ⟨g3, 102, none⟩), .agg (Fld.cells ({ { { { Fld.zero with w := F.w } with h := F.h } with k := F.k } with s := F.s }))], []⟩) (by kernel_rfl) ?_
  refine wp_ret ?_
  refine body_frame (a' := ⟨#[.agg F.cells, .pointer (some ⟨g1, 0, none⟩), .pointer (some ⟨g2, 0, none⟩), .pointer (some ⟨g3, 0, none⟩), .pointer (some ⟨g1, 0, none⟩), .int .i8 F.w, .pointer (some ⟨g3, 0, none⟩), .pointer (some ⟨g1, 1, none⟩), .int .i8 F.h, .pointer (some ⟨g3, 1, none⟩), .pointer (some ⟨g1, 2, none⟩), .agg (arr 100 .u8 F.k), .agg (arr 100 .u8 F.k), .pointer (some ⟨g3, 2, none⟩), .pointer (some ⟨g1, 102, none⟩), .agg (arr 100 .i16 F.s), .agg (arr 100 .i16 F.s), .pointer (some ⟨g3, 102, none⟩), .agg (Fld.cells ({ { { { Fld.zero with w := F.w } with h := F.h } with k := F.k } with s := F.s }))], []⟩) (by kernel_rfl) ?_
  refine ret1 (.agg F.cells) rfl ?_ rfl ?_
  · refine ⟨g2, 39, (Fld.cells ({ { { { Fld.zero with w := F.w } with h := F.h } with k := F.k } with s := F.s })), _, rfl, B2, row_impl_Field, ?_, ?_⟩
    · exact Fld.size_cells _
    · show (.agg F.cells : Value) = (.agg (Fld.cells ({ { { { Fld.zero with w := F.w } with h := F.h } with k := F.k } with s := F.s })))
      refine congrArg Value.agg ?_
      exact Fld.ext' rfl rfl (fun _ _ => rfl) (fun _ _ => rfl)
  exact ⟨rfl, H10⟩


--# eqByteA100_same
theorem eqByteA100_same (f : Nat → Int) (w : World) :
 Calls Try.prog 59 #[.agg (arr 100 .u8 f), .agg (arr 100 .u8 f)] w fun e w' => e = .returned (.bool true) ∧ Ext w w' := by
  refine calls_of_wp Try.func59 rfl ?_
  refine wp_frame (a' := ⟨#[.agg (arr 100 .u8 f), .agg (arr 100 .u8 f), undef, undef, undef, undef, undef, undef, undef, undef, undef, undef, undef, undef, undef, undef, undef], []⟩) (by kernel_rfl) ?_
  refine wp_seq ?_
  refine wp_region_lit ?_
  refine wpl_box (v := .agg (arr 100 .u8 f)) (arr 100 .u8 f) rfl (by kernel_rfl) rfl (by kernel_rfl) rfl ?_
  intro g1 w1 B1 E1 hg_
  have lo_g1 : w.heap.size ≤ g1 := Nat.le_trans ((Ext.refl w)).size hg_
  clear hg_
  have H1 := ((Ext.refl w)).trans E1
  clear E1
  refine wpl_box (v := .agg (arr 100 .u8 f)) (arr 100 .u8 f) rfl (by kernel_rfl) rfl (by kernel_rfl) rfl ?_
  intro g2 w2 B2 E2 hg_
  have q_g1_g2 : g1 < g2 := Nat.lt_of_lt_of_le B1.lt hg_
  have lo_g2 : w.heap.size ≤ g2 := Nat.le_trans (H1).size hg_
  clear hg_
  replace B1 := B1.ext E2
  have H2 := (H1).trans E2
  clear E2
  refine wpl_val (.bool false) (.bool false) rfl (by kernel_rfl) (by kernel_rfl) rfl ?_
  refine wpList_nil ?_
  refine then_normal ?_
  refine wp_frame (a' := ⟨#[.agg (arr 100 .u8 f), .agg (arr 100 .u8 f), .pointer (some ⟨g1, 0, none⟩), .pointer (some ⟨g2, 0, none⟩), .bool false, undef, undef, undef, undef, undef, undef, undef, undef, undef, undef, undef, undef], []⟩) (by kernel_rfl) ?_
  refine wp_seq ?_
  refine wp_seq ?_
  refine wp_region_lit ?_
  refine wpl_val (.int .i64 0) (.int .i64 0) rfl (by kernel_rfl) (by kernel_rfl) rfl ?_
  refine wpList_nil ?_
  refine then_normal ?_
  refine wp_frame (a' := ⟨#[.agg (arr 100 .u8 f), .agg (arr 100 .u8 f), .pointer (some ⟨g1, 0, none⟩), .pointer (some ⟨g2, 0, none⟩), .bool false, .int .i64 0, undef, undef, undef, undef, undef, undef, undef, undef, undef, undef, undef], []⟩) (by kernel_rfl) ?_
  refine wp_block ?_
  refine wp_loop_k (fun m1 a wl1 => ∃ (i : Nat) (J1 : Nat → Value), m1 = 100 - i ∧ i ≤ 100 ∧ Ext w wl1 ∧ Blk wl1 g1 33 (arr 100 .u8 f) ∧ Blk wl1 g2 33 (arr 100 .u8 f) ∧ a = ⟨#[.agg (arr 100 .u8 f), .agg (arr 100 .u8 f), .pointer (some ⟨g1, 0, none⟩), .pointer (some ⟨g2, 0, none⟩), J1 0, .int .i64 (i : Int), J1 1, J1 2, J1 3, J1 4, J1 5, J1 6, J1 7, J1 8, J1 9, J1 10, J1 11], []⟩) (100) ?_ ?_
  · refine ⟨0, fun i_ => ([.bool false, undef, undef, undef, undef, undef, undef, undef, undef, undef, undef, undef] : List Value).getD i_ undef, rfl, ?_, H2, ?_, ?_, by kernel_rfl⟩
    · omega
    · exact B1
    · exact B2
  intro m1 a wl1 hI
  obtain ⟨i, J1, rfl, hi_, HL1, B1, B2, rfl⟩ := hI
  refine wp_seq ?_
  refine wp_seq ?_
  refine wp_region_lit ?_
  refine wpl_val (.int .i64 (i : Int)) (.int .i64 (i : Int)) rfl (by kernel_rfl) (by kernel_rfl) rfl ?_
  refine wpl_val (.bool (decide ((i : Int) < 100))) (.bool (decide ((i : Int) < 100))) rfl (by kernel_rfl) (by kernel_rfl) rfl ?_
  refine wpList_nil ?_
  refine then_normal ?_
  refine wp_frame (a' := ⟨#[.agg (arr 100 .u8 f), .agg (arr 100 .u8 f), .pointer (some ⟨g1, 0, none⟩), .pointer (some ⟨g2, 0, none⟩), J1 0, .int .i64 (i : Int), .int .i64 (i : Int), .bool (decide ((i : Int) < 100)), J1 3, J1 4, J1 5, J1 6, J1 7, J1 8, J1 9, J1 10, J1 11], []⟩) (by kernel_rfl) ?_
  refine wp_cond_split (t := decide ((i : Int) < 100)) rfl (fun h1 => ?_) (fun h1 => ?_)
  · skip
    have hk1 := h1
    try simp only [decide_eq_true_eq, decide_eq_false_iff_not, Bool.and_eq_true, Bool.or_eq_true, Bool.and_eq_false_iff, Bool.or_eq_false_iff, Bool.not_eq_true', Bool.not_eq_false', beq_iff_eq, beq_eq_false_iff_ne, bne_iff_ne, bne_eq_false_iff_eq, gt_iff_lt, ge_iff_le, ne_eq, Decidable.not_not, Int.not_lt, Int.not_le] at h1
    refine wp_skip ?_
    refine then_normal ?_
    refine wp_frame (a' := ⟨#[.agg (arr 100 .u8 f), .agg (arr 100 .u8 f), .pointer (some ⟨g1, 0, none⟩), .pointer (some ⟨g2, 0, none⟩), J1 0, .int .i64 (i : Int), .int .i64 (i : Int), .bool (decide ((i : Int) < 100)), J1 3, J1 4, J1 5, J1 6, J1 7, J1 8, J1 9, J1 10, J1 11], []⟩) (by kernel_rfl) ?_
    refine wp_seq ?_
    refine wp_block ?_
    refine wp_seq ?_
    refine region_go 7 [10, 11, 12, 13, 14, 15, 16] [[], [0], [1], [], [3], [4], [2, 5]]
      (fun i_ => ([.val (.int .i64 (i : Int)), .val (.pointer (some ⟨g1, 0 + i, none⟩)), .val (.int .u8 (f i)), .val (.int .i64 (i : Int)), .val (.pointer (some ⟨g2, 0 + i, none⟩)), .val (.int .u8 (f i)), .val (.bool false)] : List Fct).getD i_ .any)
      (by kernel_rfl) (by kernel_rfl) (by decide) (by simp) rfl (all_succ (all_succ (all_succ (all_succ (all_succ (all_succ (all_succ all_zero ?_) ?_) ?_) ?_) ?_) ?_) ?_) ?_
    · refine step0 rfl rfl rfl (fun wr hw => ?_)
      exact OpRun.val (.int .i64 (i : Int)) (.int .i64 (i : Int)) (by kernel_rfl) rfl ⟨Ext.refl _, rfl⟩
    · refine step1 rfl rfl rfl rfl (fun u0 wr hw h0 => ?_)
      cases h0
      exact OpRun.ixan (i := i) (k := .i64) (g := g1) (off := 0) arrt__100_uint8 rfl (by kernel_rfl) (by kernel_rfl) (by omega) ⟨Ext.refl _, rfl⟩
    · refine step1 rfl rfl rfl rfl (fun u0 wr hw h0 => ?_)
      cases h0
      have hb_ := (B1.ext hw)
      exact OpRun.cell (g := g1) (off := 0 + i) scal_uint8 rfl (by kernel_rfl) (by rw [hb_.cell, Nat.zero_add]; exact get_arr (by omega)) ⟨Ext.refl _, rfl⟩
    · refine step0 rfl rfl rfl (fun wr hw => ?_)
      exact OpRun.val (.int .i64 (i : Int)) (.int .i64 (i : Int)) (by kernel_rfl) rfl ⟨Ext.refl _, rfl⟩
    · refine step1 rfl rfl rfl rfl (fun u0 wr hw h0 => ?_)
      cases h0
      exact OpRun.ixan (i := i) (k := .i64) (g := g2) (off := 0) arrt__100_uint8 rfl (by kernel_rfl) (by kernel_rfl) (by omega) ⟨Ext.refl _, rfl⟩
    · refine step1 rfl rfl rfl rfl (fun u0 wr hw h0 => ?_)
      cases h0
      have hb_ := (B2.ext hw)
      exact OpRun.cell (g := g2) (off := 0 + i) scal_uint8 rfl (by kernel_rfl) (by rw [hb_.cell, Nat.zero_add]; exact get_arr (by omega)) ⟨Ext.refl _, rfl⟩
    · refine step2 rfl rfl rfl rfl rfl (fun u0 u1 wr hw h0 h1 => ?_)
      cases h0
      cases h1
      exact OpRun.val (.bool ((f i) != (f i))) (.bool false) (by kernel_rfl) (by simp) ⟨Ext.refl _, rfl⟩
    refine end7 (fun u0 u1 u2 u3 u4 u5 u6 w3 E3 f0 f1 f2 f3 f4 f5 f6 => ?_)
    cases f0
    cases f1
    cases f2
    cases f3
    cases f4
    cases f5
    cases f6
    replace B1 := B1.ext E3
    replace B2 := B2.ext E3
    have H3 := (HL1).trans E3
    clear E3
    refine wpList_nil ?_
    refine then_normal ?_
    refine wp_frame (a' := ⟨#[.agg (arr 100 .u8 f), .agg (arr 100 .u8 f), .pointer (some ⟨g1, 0, none⟩), .pointer (some ⟨g2, 0, none⟩), J1 0, .int .i64 (i : Int), .int .i64 (i : Int), .bool (decide ((i : Int) < 100)), J1 3, J1 4, .int .i64 (i : Int), .pointer (some ⟨g1, 0 + i, none⟩), .int .u8 (f i), .int .i64 (i : Int), .pointer (some ⟨g2, 0 + i, none⟩), .int .u8 (f i), .bool false], []⟩) (by kernel_rfl) ?_
    refine wp_cond_false rfl ?_
    refine wp_skip ?_
    refine block_normal ?_
    refine then_normal ?_
    refine wp_frame (a' := ⟨#[.agg (arr 100 .u8 f), .agg (arr 100 .u8 f), .pointer (some ⟨g1, 0, none⟩), .pointer (some ⟨g2, 0, none⟩), J1 0, .int .i64 (i : Int), .int .i64 (i : Int), .bool (decide ((i : Int) < 100)), J1 3, J1 4, .int .i64 (i : Int), .pointer (some ⟨g1, 0 + i, none⟩), .int .u8 (f i), .int .i64 (i : Int), .pointer (some ⟨g2, 0 + i, none⟩), .int .u8 (f i), .bool false], []⟩) (by kernel_rfl) ?_
    refine wp_region_lit ?_
    refine wpl_val (.int .i64 (i : Int)) (.int .i64 (i : Int)) rfl (by kernel_rfl) (by kernel_rfl) rfl ?_
    refine wpl_frame (a' := ⟨#[.agg (arr 100 .u8 f), .agg (arr 100 .u8 f), .pointer (some ⟨g1, 0, none⟩), .pointer (some ⟨g2, 0, none⟩), J1 0, .int .i64 (i : Int), .int .i64 (i : Int), .bool (decide ((i : Int) < 100)), .int .i64 (i : Int), J1 4, .int .i64 (i : Int), .pointer (some ⟨g1, 0 + i, none⟩), .int .u8 (f i), .int .i64 (i : Int), .pointer (some ⟨g2, 0 + i, none⟩), .int .u8 (f i), .bool false], []⟩) (by kernel_rfl) ?_
    refine wpl_frame (a' := ⟨#[.agg (arr 100 .u8 f), .agg (arr 100 .u8 f), .pointer (some ⟨g1, 0, none⟩), .pointer (some ⟨g2, 0, none⟩), J1 0, .int .i64 (i : Int), .int .i64 (i : Int), .bool true, .int .i64 (i : Int), J1 4, .int .i64 (i : Int), .pointer (some ⟨g1, 0 + i, none⟩), .int .u8 (f i), .int .i64 (i : Int), .pointer (some ⟨g2, 0 + i, none⟩), .int .u8 (f i), .bool false], []⟩) (by simp only [hk1, Bool.not_true, Bool.not_false]) ?_
    refine wpl_val (.int .i64 (IntKind.i64.wrap ((i : Int) + 1))) (.int .i64 ((i : Int) + 1)) rfl (by kernel_rfl) (by kernel_rfl) (by exact congrArg _ (IntWalk.i64_in _ (by omega))) ?_
    refine wpl_val (.int .i64 ((i : Int) + 1)) (.int .i64 ((i : Int) + 1)) rfl (by kernel_rfl) (by kernel_rfl) rfl ?_
    refine wpList_nil ?_
    refine then_normal ?_
    refine ⟨_, ?_, i + 1, fun i_ => ([J1 0, .int .i64 (i : Int), .bool true, .int .i64 (i : Int), .int .i64 ((i : Int) + 1), .int .i64 (i : Int), .pointer (some ⟨g1, 0 + i, none⟩), .int .u8 (f i), .int .i64 (i : Int), .pointer (some ⟨g2, 0 + i, none⟩), .int .u8 (f i), .bool false] : List Value).getD i_ undef, rfl, ?_, H3, ?_, ?_, by kernel_rfl⟩
    · omega
    · omega
    · exact B1
    · exact B2
  · skip
    have hk2 := h1
    try simp only [decide_eq_true_eq, decide_eq_false_iff_not, Bool.and_eq_true, Bool.or_eq_true, Bool.and_eq_false_iff, Bool.or_eq_false_iff, Bool.not_eq_true', Bool.not_eq_false', beq_iff_eq, beq_eq_false_iff_ne, bne_iff_ne, bne_eq_false_iff_eq, gt_iff_lt, ge_iff_le, ne_eq, Decidable.not_not, Int.not_lt, Int.not_le] at h1
    refine wp_exit ?_
    refine then_exit ?_
    refine then_exit ?_
    refine block_exit ?_
    refine then_normal ?_
    refine wp_frame (a' := ⟨#[.agg (arr 100 .u8 f), .agg (arr 100 .u8 f), .pointer (some ⟨g1, 0, none⟩), .pointer (some ⟨g2, 0, none⟩), J1 0, .int .i64 (i : Int), .int .i64 (i : Int), .bool (decide ((i : Int) < 100)), J1 3, J1 4, J1 5, J1 6, J1 7, J1 8, J1 9, J1 10, J1 11], []⟩) (by kernel_rfl) ?_
    refine wp_seq ?_
    refine wp_region_lit ?_
    refine wpl_val (.bool true) (.bool true) rfl (by kernel_rfl) (by kernel_rfl) rfl ?_
    refine wpl_frame (a' := ⟨#[.agg (arr 100 .u8 f), .agg (arr 100 .u8 f), .pointer (some ⟨g1, 0, none⟩), .pointer (some ⟨g2, 0, none⟩), .bool true, .int .i64 (i : Int), .int .i64 (i : Int), .bool (decide ((i : Int) < 100)), J1 3, J1 4, J1 5, J1 6, J1 7, J1 8, J1 9, J1 10, J1 11], []⟩) (by kernel_rfl) ?_
    refine wpl_frame (a' := ⟨#[.agg (arr 100 .u8 f), .agg (arr 100 .u8 f), .pointer (some ⟨g1, 0, none⟩), .pointer (some ⟨g2, 0, none⟩), .bool true, .int .i64 (i : Int), .int .i64 (i : Int), .bool false, J1 3, J1 4, J1 5, J1 6, J1 7, J1 8, J1 9, J1 10, J1 11], []⟩) (by simp only [hk2, Bool.not_true, Bool.not_false]) ?_
    refine wpList_nil ?_
    refine then_normal ?_
    refine wp_frame (a' := ⟨#[.agg (arr 100 .u8 f), .agg (arr 100 .u8 f), .pointer (some ⟨g1, 0, none⟩), .pointer (some ⟨g2, 0, none⟩), .bool true, .int .i64 (i : Int), .int .i64 (i : Int), .bool false, J1 3, J1 4, J1 5, J1 6, J1 7, J1 8, J1 9, J1 10, J1 11], []⟩) (by kernel_rfl) ?_
    refine wp_ret ?_
    refine body_frame (a' := ⟨#[.agg (arr 100 .u8 f), .agg (arr 100 .u8 f), .pointer (some ⟨g1, 0, none⟩), .pointer (some ⟨g2, 0, none⟩), .bool true, .int .i64 (i : Int), .int .i64 (i : Int), .bool false, J1 3, J1 4, J1 5, J1 6, J1 7, J1 8, J1 9, J1 10, J1 11], []⟩) (by kernel_rfl) ?_
    refine ret1 (.bool true) rfl ?_ rfl ?_
    · show (.bool true : Value) = (.bool true)
      rfl
    exact ⟨rfl, HL1⟩


--# eqInt16A100_same
theorem eqInt16A100_same (f : Nat → Int) (w : World) :
 Calls Try.prog 60 #[.agg (arr 100 .i16 f), .agg (arr 100 .i16 f)] w fun e w' => e = .returned (.bool true) ∧ Ext w w' := by
  refine calls_of_wp Try.func60 rfl ?_
  refine wp_frame (a' := ⟨#[.agg (arr 100 .i16 f), .agg (arr 100 .i16 f), undef, undef, undef, undef, undef, undef, undef, undef, undef, undef, undef, undef, undef, undef, undef], []⟩) (by kernel_rfl) ?_
  refine wp_seq ?_
  refine wp_region_lit ?_
  refine wpl_box (v := .agg (arr 100 .i16 f)) (arr 100 .i16 f) rfl (by kernel_rfl) rfl (by kernel_rfl) rfl ?_
  intro g1 w1 B1 E1 hg_
  have lo_g1 : w.heap.size ≤ g1 := Nat.le_trans ((Ext.refl w)).size hg_
  clear hg_
  have H1 := ((Ext.refl w)).trans E1
  clear E1
  refine wpl_box (v := .agg (arr 100 .i16 f)) (arr 100 .i16 f) rfl (by kernel_rfl) rfl (by kernel_rfl) rfl ?_
  intro g2 w2 B2 E2 hg_
  have q_g1_g2 : g1 < g2 := Nat.lt_of_lt_of_le B1.lt hg_
  have lo_g2 : w.heap.size ≤ g2 := Nat.le_trans (H1).size hg_
  clear hg_
  replace B1 := B1.ext E2
  have H2 := (H1).trans E2
  clear E2
  refine wpl_val (.bool false) (.bool false) rfl (by kernel_rfl) (by kernel_rfl) rfl ?_
  refine wpList_nil ?_
  refine then_normal ?_
  refine wp_frame (a' := ⟨#[.agg (arr 100 .i16 f), .agg (arr 100 .i16 f), .pointer (some ⟨g1, 0, none⟩), .pointer (some ⟨g2, 0, none⟩), .bool false, undef, undef, undef, undef, undef, undef, undef, undef, undef, undef, undef, undef], []⟩) (by kernel_rfl) ?_
  refine wp_seq ?_
  refine wp_seq ?_
  refine wp_region_lit ?_
  refine wpl_val (.int .i64 0) (.int .i64 0) rfl (by kernel_rfl) (by kernel_rfl) rfl ?_
  refine wpList_nil ?_
  refine then_normal ?_
  refine wp_frame (a' := ⟨#[.agg (arr 100 .i16 f), .agg (arr 100 .i16 f), .pointer (some ⟨g1, 0, none⟩), .pointer (some ⟨g2, 0, none⟩), .bool false, .int .i64 0, undef, undef, undef, undef, undef, undef, undef, undef, undef, undef, undef], []⟩) (by kernel_rfl) ?_
  refine wp_block ?_
  refine wp_loop_k (fun m1 a wl1 => ∃ (i : Nat) (J1 : Nat → Value), m1 = 100 - i ∧ i ≤ 100 ∧ Ext w wl1 ∧ Blk wl1 g1 35 (arr 100 .i16 f) ∧ Blk wl1 g2 35 (arr 100 .i16 f) ∧ a = ⟨#[.agg (arr 100 .i16 f), .agg (arr 100 .i16 f), .pointer (some ⟨g1, 0, none⟩), .pointer (some ⟨g2, 0, none⟩), J1 0, .int .i64 (i : Int), J1 1, J1 2, J1 3, J1 4, J1 5, J1 6, J1 7, J1 8, J1 9, J1 10, J1 11], []⟩) (100) ?_ ?_
  · refine ⟨0, fun i_ => ([.bool false, undef, undef, undef, undef, undef, undef, undef, undef, undef, undef, undef] : List Value).getD i_ undef, rfl, ?_, H2, ?_, ?_, by kernel_rfl⟩
    · omega
    · exact B1
    · exact B2
  intro m1 a wl1 hI
  obtain ⟨i, J1, rfl, hi_, HL1, B1, B2, rfl⟩ := hI
  refine wp_seq ?_
  refine wp_seq ?_
  refine wp_region_lit ?_
  refine wpl_val (.int .i64 (i : Int)) (.int .i64 (i : Int)) rfl (by kernel_rfl) (by kernel_rfl) rfl ?_
  refine wpl_val (.bool (decide ((i : Int) < 100))) (.bool (decide ((i : Int) < 100))) rfl (by kernel_rfl) (by kernel_rfl) rfl ?_
  refine wpList_nil ?_
  refine then_normal ?_
  refine wp_frame (a' := ⟨#[.agg (arr 100 .i16 f), .agg (arr 100 .i16 f), .pointer (some ⟨g1, 0, none⟩), .pointer (some ⟨g2, 0, none⟩), J1 0, .int .i64 (i : Int), .int .i64 (i : Int), .bool (decide ((i : Int) < 100)), J1 3, J1 4, J1 5, J1 6, J1 7, J1 8, J1 9, J1 10, J1 11], []⟩) (by kernel_rfl) ?_
  refine wp_cond_split (t := decide ((i : Int) < 100)) rfl (fun h1 => ?_) (fun h1 => ?_)
  · skip
    have hk1 := h1
    try simp only [decide_eq_true_eq, decide_eq_false_iff_not, Bool.and_eq_true, Bool.or_eq_true, Bool.and_eq_false_iff, Bool.or_eq_false_iff, Bool.not_eq_true', Bool.not_eq_false', beq_iff_eq, beq_eq_false_iff_ne, bne_iff_ne, bne_eq_false_iff_eq, gt_iff_lt, ge_iff_le, ne_eq, Decidable.not_not, Int.not_lt, Int.not_le] at h1
    refine wp_skip ?_
    refine then_normal ?_
    refine wp_frame (a' := ⟨#[.agg (arr 100 .i16 f), .agg (arr 100 .i16 f), .pointer (some ⟨g1, 0, none⟩), .pointer (some ⟨g2, 0, none⟩), J1 0, .int .i64 (i : Int), .int .i64 (i : Int), .bool (decide ((i : Int) < 100)), J1 3, J1 4, J1 5, J1 6, J1 7, J1 8, J1 9, J1 10, J1 11], []⟩) (by kernel_rfl) ?_
    refine wp_seq ?_
    refine wp_block ?_
    refine wp_seq ?_
    refine region_go 7 [10, 11, 12, 13, 14, 15, 16] [[], [0], [1], [], [3], [4], [2, 5]]
      (fun i_ => ([.val (.int .i64 (i : Int)), .val (.pointer (some ⟨g1, 0 + i, none⟩)), .val (.int .i16 (f i)), .val (.int .i64 (i : Int)), .val (.pointer (some ⟨g2, 0 + i, none⟩)), .val (.int .i16 (f i)), .val (.bool false)] : List Fct).getD i_ .any)
      (by kernel_rfl) (by kernel_rfl) (by decide) (by simp) rfl (all_succ (all_succ (all_succ (all_succ (all_succ (all_succ (all_succ all_zero ?_) ?_) ?_) ?_) ?_) ?_) ?_) ?_
    · refine step0 rfl rfl rfl (fun wr hw => ?_)
      exact OpRun.val (.int .i64 (i : Int)) (.int .i64 (i : Int)) (by kernel_rfl) rfl ⟨Ext.refl _, rfl⟩
    · refine step1 rfl rfl rfl rfl (fun u0 wr hw h0 => ?_)
      cases h0
      exact OpRun.ixan (i := i) (k := .i64) (g := g1) (off := 0) arrt__100_int16 rfl (by kernel_rfl) (by kernel_rfl) (by omega) ⟨Ext.refl _, rfl⟩
    · refine step1 rfl rfl rfl rfl (fun u0 wr hw h0 => ?_)
      cases h0
      have hb_ := (B1.ext hw)
      exact OpRun.cell (g := g1) (off := 0 + i) scal_int16 rfl (by kernel_rfl) (by rw [hb_.cell, Nat.zero_add]; exact get_arr (by omega)) ⟨Ext.refl _, rfl⟩
    · refine step0 rfl rfl rfl (fun wr hw => ?_)
      exact OpRun.val (.int .i64 (i : Int)) (.int .i64 (i : Int)) (by kernel_rfl) rfl ⟨Ext.refl _, rfl⟩
    · refine step1 rfl rfl rfl rfl (fun u0 wr hw h0 => ?_)
      cases h0
      exact OpRun.ixan (i := i) (k := .i64) (g := g2) (off := 0) arrt__100_int16 rfl (by kernel_rfl) (by kernel_rfl) (by omega) ⟨Ext.refl _, rfl⟩
    · refine step1 rfl rfl rfl rfl (fun u0 wr hw h0 => ?_)
      cases h0
      have hb_ := (B2.ext hw)
      exact OpRun.cell (g := g2) (off := 0 + i) scal_int16 rfl (by kernel_rfl) (by rw [hb_.cell, Nat.zero_add]; exact get_arr (by omega)) ⟨Ext.refl _, rfl⟩
    · refine step2 rfl rfl rfl rfl rfl (fun u0 u1 wr hw h0 h1 => ?_)
      cases h0
      cases h1
      exact OpRun.val (.bool ((f i) != (f i))) (.bool false) (by kernel_rfl) (by simp) ⟨Ext.refl _, rfl⟩
    refine end7 (fun u0 u1 u2 u3 u4 u5 u6 w3 E3 f0 f1 f2 f3 f4 f5 f6 => ?_)
    cases f0
    cases f1
    cases f2
    cases f3
    cases f4
    cases f5
    cases f6
    replace B1 := B1.ext E3
    replace B2 := B2.ext E3
    have H3 := (HL1).trans E3
    clear E3
    refine wpList_nil ?_
    refine then_normal ?_
    refine wp_frame (a' := ⟨#[.agg (arr 100 .i16 f), .agg (arr 100 .i16 f), .pointer (some ⟨g1, 0, none⟩), .pointer (some ⟨g2, 0, none⟩), J1 0, .int .i64 (i : Int), .int .i64 (i : Int), .bool (decide ((i : Int) < 100)), J1 3, J1 4, .int .i64 (i : Int), .pointer (some ⟨g1, 0 + i, none⟩), .int .i16 (f i), .int .i64 (i : Int), .pointer (some ⟨g2, 0 + i, none⟩), .int .i16 (f i), .bool false], []⟩) (by kernel_rfl) ?_
    refine wp_cond_false rfl ?_
    refine wp_skip ?_
    refine block_normal ?_
    refine then_normal ?_
    refine wp_frame (a' := ⟨#[.agg (arr 100 .i16 f), .agg (arr 100 .i16 f), .pointer (some ⟨g1, 0, none⟩), .pointer (some ⟨g2, 0, none⟩), J1 0, .int .i64 (i : Int), .int .i64 (i : Int), .bool (decide ((i : Int) < 100)), J1 3, J1 4, .int .i64 (i : Int), .pointer (some ⟨g1, 0 + i, none⟩), .int .i16 (f i), .int .i64 (i : Int), .pointer (some ⟨g2, 0 + i, none⟩), .int .i16 (f i), .bool false], []⟩) (by kernel_rfl) ?_
    refine wp_region_lit ?_
    refine wpl_val (.int .i64 (i : Int)) (.int .i64 (i : Int)) rfl (by kernel_rfl) (by kernel_rfl) rfl ?_
    refine wpl_frame (a' := ⟨#[.agg (arr 100 .i16 f), .agg (arr 100 .i16 f), .pointer (some ⟨g1, 0, none⟩), .pointer (some ⟨g2, 0, none⟩), J1 0, .int .i64 (i : Int), .int .i64 (i : Int), .bool (decide ((i : Int) < 100)), .int .i64 (i : Int), J1 4, .int .i64 (i : Int), .pointer (some ⟨g1, 0 + i, none⟩), .int .i16 (f i), .int .i64 (i : Int), .pointer (some ⟨g2, 0 + i, none⟩), .int .i16 (f i), .bool false], []⟩) (by kernel_rfl) ?_
    refine wpl_frame (a' := ⟨#[.agg (arr 100 .i16 f), .agg (arr 100 .i16 f), .pointer (some ⟨g1, 0, none⟩), .pointer (some ⟨g2, 0, none⟩), J1 0, .int .i64 (i : Int), .int .i64 (i : Int), .bool true, .int .i64 (i : Int), J1 4, .int .i64 (i : Int), .pointer (some ⟨g1, 0 + i, none⟩), .int .i16 (f i), .int .i64 (i : Int), .pointer (some ⟨g2, 0 + i, none⟩), .int .i16 (f i), .bool false], []⟩) (by simp only [hk1, Bool.not_true, Bool.not_false]) ?_
    refine wpl_val (.int .i64 (IntKind.i64.wrap ((i : Int) + 1))) (.int .i64 ((i : Int) + 1)) rfl (by kernel_rfl) (by kernel_rfl) (by exact congrArg _ (IntWalk.i64_in _ (by omega))) ?_
    refine wpl_val (.int .i64 ((i : Int) + 1)) (.int .i64 ((i : Int) + 1)) rfl (by kernel_rfl) (by kernel_rfl) rfl ?_
    refine wpList_nil ?_
    refine then_normal ?_
    refine ⟨_, ?_, i + 1, fun i_ => ([J1 0, .int .i64 (i : Int), .bool true, .int .i64 (i : Int), .int .i64 ((i : Int) + 1), .int .i64 (i : Int), .pointer (some ⟨g1, 0 + i, none⟩), .int .i16 (f i), .int .i64 (i : Int), .pointer (some ⟨g2, 0 + i, none⟩), .int .i16 (f i), .bool false] : List Value).getD i_ undef, rfl, ?_, H3, ?_, ?_, by kernel_rfl⟩
    · omega
    · omega
    · exact B1
    · exact B2
  · skip
    have hk2 := h1
    try simp only [decide_eq_true_eq, decide_eq_false_iff_not, Bool.and_eq_true, Bool.or_eq_true, Bool.and_eq_false_iff, Bool.or_eq_false_iff, Bool.not_eq_true', Bool.not_eq_false', beq_iff_eq, beq_eq_false_iff_ne, bne_iff_ne, bne_eq_false_iff_eq, gt_iff_lt, ge_iff_le, ne_eq, Decidable.not_not, Int.not_lt, Int.not_le] at h1
    refine wp_exit ?_
    refine then_exit ?_
    refine then_exit ?_
    refine block_exit ?_
    refine then_normal ?_
    refine wp_frame (a' := ⟨#[.agg (arr 100 .i16 f), .agg (arr 100 .i16 f), .pointer (some ⟨g1, 0, none⟩), .pointer (some ⟨g2, 0, none⟩), J1 0, .int .i64 (i : Int), .int .i64 (i : Int), .bool (decide ((i : Int) < 100)), J1 3, J1 4, J1 5, J1 6, J1 7, J1 8, J1 9, J1 10, J1 11], []⟩) (by kernel_rfl) ?_
    refine wp_seq ?_
    refine wp_region_lit ?_
    refine wpl_val (.bool true) (.bool true) rfl (by kernel_rfl) (by kernel_rfl) rfl ?_
    refine wpl_frame (a' := ⟨#[.agg (arr 100 .i16 f), .agg (arr 100 .i16 f), .pointer (some ⟨g1, 0, none⟩), .pointer (some ⟨g2, 0, none⟩), .bool true, .int .i64 (i : Int), .int .i64 (i : Int), .bool (decide ((i : Int) < 100)), J1 3, J1 4, J1 5, J1 6, J1 7, J1 8, J1 9, J1 10, J1 11], []⟩) (by kernel_rfl) ?_
    refine wpl_frame (a' := ⟨#[.agg (arr 100 .i16 f), .agg (arr 100 .i16 f), .pointer (some ⟨g1, 0, none⟩), .pointer (some ⟨g2, 0, none⟩), .bool true, .int .i64 (i : Int), .int .i64 (i : Int), .bool false, J1 3, J1 4, J1 5, J1 6, J1 7, J1 8, J1 9, J1 10, J1 11], []⟩) (by simp only [hk2, Bool.not_true, Bool.not_false]) ?_
    refine wpList_nil ?_
    refine then_normal ?_
    refine wp_frame (a' := ⟨#[.agg (arr 100 .i16 f), .agg (arr 100 .i16 f), .pointer (some ⟨g1, 0, none⟩), .pointer (some ⟨g2, 0, none⟩), .bool true, .int .i64 (i : Int), .int .i64 (i : Int), .bool false, J1 3, J1 4, J1 5, J1 6, J1 7, J1 8, J1 9, J1 10, J1 11], []⟩) (by kernel_rfl) ?_
    refine wp_ret ?_
    refine body_frame (a' := ⟨#[.agg (arr 100 .i16 f), .agg (arr 100 .i16 f), .pointer (some ⟨g1, 0, none⟩), .pointer (some ⟨g2, 0, none⟩), .bool true, .int .i64 (i : Int), .int .i64 (i : Int), .bool false, J1 3, J1 4, J1 5, J1 6, J1 7, J1 8, J1 9, J1 10, J1 11], []⟩) (by kernel_rfl) ?_
    refine ret1 (.bool true) rfl ?_ rfl ?_
    · show (.bool true : Value) = (.bool true)
      rfl
    exact ⟨rfl, HL1⟩


--# eqField_same
theorem eqField_same (F : Fld) (w : World) :
 Calls Try.prog 28 #[.agg F.cells, .agg F.cells] w fun e w' => e = .returned (.bool true) ∧ Ext w w' := by
  refine calls_of_wp Try.func28 rfl ?_
  refine wp_frame (a' := ⟨#[.agg F.cells, .agg F.cells, undef, undef, undef, undef, undef, undef, undef, undef, undef, undef, undef, undef, undef, undef, undef, undef, undef, undef, undef, undef, undef, undef, undef, undef, undef], []⟩) (by kernel_rfl) ?_
  refine wp_seq ?_
  refine wp_region_lit ?_
  refine wpl_box (v := .agg F.cells) F.cells rfl (by kernel_rfl) rfl (by kernel_rfl) rfl ?_
  intro g1 w1 B1 E1 hg_
  have lo_g1 : w.heap.size ≤ g1 := Nat.le_trans ((Ext.refl w)).size hg_
  clear hg_
  have H1 := ((Ext.refl w)).trans E1
  clear E1
  refine wpl_box (v := .agg F.cells) F.cells rfl (by kernel_rfl) rfl (by kernel_rfl) rfl ?_
  intro g2 w2 B2 E2 hg_
  have q_g1_g2 : g1 < g2 := Nat.lt_of_lt_of_le B1.lt hg_
  have lo_g2 : w.heap.size ≤ g2 := Nat.le_trans (H1).size hg_
  clear hg_
  replace B1 := B1.ext E2
  have H2 := (H1).trans E2
  clear E2
  refine wpl_val (.bool false) (.bool false) rfl (by kernel_rfl) (by kernel_rfl) rfl ?_
  refine wpList_nil ?_
  refine then_normal ?_
  refine wp_frame (a' := ⟨#[.agg F.cells, .agg F.cells, .pointer (some ⟨g1, 0, none⟩), .pointer (some ⟨g2, 0, none⟩), .bool false, undef, undef, undef, undef, undef, undef, undef, undef, undef, undef, undef, undef, undef, undef, undef, undef, undef, undef, undef, undef, undef, undef], []⟩) (by kernel_rfl) ?_
  refine wp_seq ?_
  refine wp_seq ?_
  refine wp_region_lit ?_
  refine wpl_val (.pointer (some ⟨g1, 0, none⟩)) (.pointer (some ⟨g1, 0, none⟩)) rfl (by kernel_rfl) (by kernel_rfl) rfl ?_
  refine wpl_cell (g := g1) (off := 0) (.int .i8 F.w) rfl (by kernel_rfl) scal_int8 rfl (by kernel_rfl) (by rw [B1.cell]; exact Fld.get0 _) ?_
  refine wpl_val (.pointer (some ⟨g2, 0, none⟩)) (.pointer (some ⟨g2, 0, none⟩)) rfl (by kernel_rfl) (by kernel_rfl) rfl ?_
  refine wpl_cell (g := g2) (off := 0) (.int .i8 F.w) rfl (by kernel_rfl) scal_int8 rfl (by kernel_rfl) (by rw [B2.cell]; exact Fld.get0 _) ?_
  refine wpl_val (.bool (F.w != F.w)) (.bool false) rfl (by kernel_rfl) (by kernel_rfl) (by simp) ?_
  refine wpList_nil ?_
  refine then_normal ?_
  refine wp_frame (a' := ⟨#[.agg F.cells, .agg F.cells, .pointer (some ⟨g1, 0, none⟩), .pointer (some ⟨g2, 0, none⟩), .bool false, .pointer (some ⟨g1, 0, none⟩), .int .i8 F.w, .pointer (some ⟨g2, 0, none⟩), .int .i8 F.w, .bool false, undef, undef, undef, undef, undef, undef, undef, undef, undef, undef, undef, undef, undef, undef, undef, undef, undef], []⟩) (by kernel_rfl) ?_
  refine wp_cond_false rfl ?_
  refine wp_skip ?_
  refine then_normal ?_
  refine wp_frame (a' := ⟨#[.agg F.cells, .agg F.cells, .pointer (some ⟨g1, 0, none⟩), .pointer (some ⟨g2, 0, none⟩), .bool false, .pointer (some ⟨g1, 0, none⟩), .int .i8 F.w, .pointer (some ⟨g2, 0, none⟩), .int .i8 F.w, .bool false, undef, undef, undef, undef, undef, undef, undef, undef, undef, undef, undef, undef, undef, undef, undef, undef, undef], []⟩) (by kernel_rfl) ?_
  refine wp_seq ?_
  refine wp_seq ?_
  refine wp_region_lit ?_
  refine wpl_val (.pointer (some ⟨g1, 1, none⟩)) (.pointer (some ⟨g1, 1, none⟩)) rfl (by kernel_rfl) (by kernel_rfl) rfl ?_
  refine wpl_cell (g := g1) (off := 1) (.int .i8 F.h) rfl (by kernel_rfl) scal_int8 rfl (by kernel_rfl) (by rw [B1.cell]; exact Fld.get1 _) ?_
  refine wpl_val (.pointer (some ⟨g2, 1, none⟩)) (.pointer (some ⟨g2, 1, none⟩)) rfl (by kernel_rfl) (by kernel_rfl) rfl ?_
  refine wpl_cell (g := g2) (off := 1) (.int .i8 F.h) rfl (by kernel_rfl) scal_int8 rfl (by kernel_rfl) (by rw [B2.cell]; exact Fld.get1 _) ?_
  refine wpl_val (.bool (F.h != F.h)) (.bool false) rfl (by kernel_rfl) (by kernel_rfl) (by simp) ?_
  refine wpList_nil ?_
  refine then_normal ?_
  refine wp_frame (a' := ⟨#[.agg F.cells, .agg F.cells, .pointer (some ⟨g1, 0, none⟩), .pointer (some ⟨g2, 0, none⟩), .bool false, .pointer (some ⟨g1, 0, none⟩), .int .i8 F.w, .pointer (some ⟨g2, 0, none⟩), .int .i8 F.w, .bool false, .pointer (some ⟨g1, 1, none⟩), .int .i8 F.h, .pointer (some ⟨g2, 1, none⟩), .int .i8 F.h, .bool false, undef, undef, undef, undef, undef, undef, undef, undef, undef, undef, undef, undef], []⟩) (by kernel_rfl) ?_
  refine wp_cond_false rfl ?_
  refine wp_skip ?_
  refine then_normal ?_
  refine wp_frame (a' := ⟨#[.agg F.cells, .agg F.cells, .pointer (some ⟨g1, 0, none⟩), .pointer (some ⟨g2, 0, none⟩), .bool false, .pointer (some ⟨g1, 0, none⟩), .int .i8 F.w, .pointer (some ⟨g2, 0, none⟩), .int .i8 F.w, .bool false, .pointer (some ⟨g1, 1, none⟩), .int .i8 F.h, .pointer (some ⟨g2, 1, none⟩), .int .i8 F.h, .bool false, undef, undef, undef, undef, undef, undef, undef, undef, undef, undef, undef, undef], []⟩) (by kernel_rfl) ?_
  refine wp_seq ?_
  refine wp_seq ?_
  refine wp_region_lit ?_
  refine wpl_val (.pointer (some ⟨g1, 2, none⟩)) (.pointer (some ⟨g1, 2, none⟩)) rfl (by kernel_rfl) (by kernel_rfl) rfl ?_
  refine wpl_mid (arr 100 .u8 F.k) rfl (by kernel_rfl) row__100_uint8 (by exact size_arr _ _ _) (Fld.midk B1) rfl (by kernel_rfl) ?_
  refine wpl_val (.pointer (some ⟨g2, 2, none⟩)) (.pointer (some ⟨g2, 2, none⟩)) rfl (by kernel_rfl) (by kernel_rfl) rfl ?_
  refine wpl_mid (arr 100 .u8 F.k) rfl (by kernel_rfl) row__100_uint8 (by exact size_arr _ _ _) (Fld.midk B2) rfl (by kernel_rfl) ?_
  refine wpl_call (59) #[.agg (arr 100 .u8 F.k), .agg (arr 100 .u8 F.k)] rfl (by kernel_rfl) (by kernel_rfl) (eqByteA100_same F.k _) ?_
  intro w3 E3
  replace B1 := B1.ext E3
  replace B2 := B2.ext E3
  have H3 := (H2).trans E3
  clear E3
  refine wpl_val (.bool false) (.bool false) rfl (by kernel_rfl) (by kernel_rfl) rfl ?_
  refine wpList_nil ?_
  refine then_normal ?_
  refine wp_frame (a' := ⟨#[.agg F.cells, .agg F.cells, .pointer (some ⟨g1, 0, none⟩), .pointer (some ⟨g2, 0, none⟩), .bool false, .pointer (some ⟨g1, 0, none⟩), .int .i8 F.w, .pointer (some ⟨g2, 0, none⟩), .int .i8 F.w, .bool false, .pointer (some ⟨g1, 1, none⟩), .int .i8 F.h, .pointer (some ⟨g2, 1, none⟩), .int .i8 F.h, .bool false, .pointer (some ⟨g1, 2, none⟩), .agg (arr 100 .u8 F.k), .pointer (some ⟨g2, 2, none⟩), .agg (arr 100 .u8 F.k), .bool true, .bool false, undef, undef, undef, undef, undef, undef], []⟩) (by kernel_rfl) ?_
  refine wp_cond_false rfl ?_
  refine wp_skip ?_
  refine then_normal ?_
  refine wp_frame (a' := ⟨#[.agg F.cells, .agg F.cells, .pointer (some ⟨g1, 0, none⟩), .pointer (some ⟨g2, 0, none⟩), .bool false, .pointer (some ⟨g1, 0, none⟩), .int .i8 F.w, .pointer (some ⟨g2, 0, none⟩), .int .i8 F.w, .bool false, .pointer (some ⟨g1, 1, none⟩), .int .i8 F.h, .pointer (some ⟨g2, 1, none⟩), .int .i8 F.h, .bool false, .pointer (some ⟨g1, 2, none⟩), .agg (arr 100 .u8 F.k), .pointer (some ⟨g2, 2, none⟩), .agg (arr 100 .u8 F.k), .bool true, .bool false, undef, undef, undef, undef, undef, undef], []⟩) (by kernel_rfl) ?_
  refine wp_seq ?_
  refine wp_seq ?_
  refine wp_region_lit ?_
  refine wpl_val (.pointer (some ⟨g1, 102, none⟩)) (.pointer (some ⟨g1, 102, none⟩)) rfl (by kernel_rfl) (by kernel_rfl) rfl ?_
  refine wpl_mid (arr 100 .i16 F.s) rfl (by kernel_rfl) row__100_int16 (by exact size_arr _ _ _) (Fld.mids B1) rfl (by kernel_rfl) ?_
  refine wpl_val (.pointer (some ⟨g2, 102, none⟩)) (.pointer (some ⟨g2, 102, none⟩)) rfl (by kernel_rfl) (by kernel_rfl) rfl ?_
  refine wpl_mid (arr 100 .i16 F.s) rfl (by kernel_rfl) row__100_int16 (by exact size_arr _ _ _) (Fld.mids B2) rfl (by kernel_rfl) ?_
  refine wpl_call (60) #[.agg (arr 100 .i16 F.s), .agg (arr 100 .i16 F.s)] rfl (by kernel_rfl) (by kernel_rfl) (eqInt16A100_same F.s _) ?_
  intro w4 E4
  replace B1 := B1.ext E4
  replace B2 := B2.ext E4
  have H4 := (H3).trans E4
  clear E4
  refine wpl_val (.bool false) (.bool false) rfl (by kernel_rfl) (by kernel_rfl) rfl ?_
  refine wpList_nil ?_
  refine then_normal ?_
  refine wp_frame (a' := ⟨#[.agg F.cells, .agg F.cells, .pointer (some ⟨g1, 0, none⟩), .pointer (some ⟨g2, 0, none⟩), .bool false, .pointer (some ⟨g1, 0, none⟩), .int .i8 F.w, .pointer (some ⟨g2, 0, none⟩), .int .i8 F.w, .bool false, .pointer (some ⟨g1, 1, none⟩), .int .i8 F.h, .pointer (some ⟨g2, 1, none⟩), .int .i8 F.h, .bool false, .pointer (some ⟨g1, 2, none⟩), .agg (arr 100 .u8 F.k), .pointer (some ⟨g2, 2, none⟩), .agg (arr 100 .u8 F.k), .bool true, .bool false, .pointer (some ⟨g1, 102, none⟩), .agg (arr 100 .i16 F.s), .pointer (some ⟨g2, 102, none⟩), .agg (arr 100 .i16 F.s), .bool true, .bool false], []⟩) (by kernel_rfl) ?_
  refine wp_cond_false rfl ?_
  refine wp_skip ?_
  refine then_normal ?_
  refine wp_frame (a' := ⟨#[.agg F.cells, .agg F.cells, .pointer (some ⟨g1, 0, none⟩), .pointer (some ⟨g2, 0, none⟩), .bool false, .pointer (some ⟨g1, 0, none⟩), .int .i8 F.w, .pointer (some ⟨g2, 0, none⟩), .int .i8 F.w, .bool false, .pointer (some ⟨g1, 1, none⟩), .int .i8 F.h, .pointer (some ⟨g2, 1, none⟩), .int .i8 F.h, .bool false, .pointer (some ⟨g1, 2, none⟩), .agg (arr 100 .u8 F.k), .pointer (some ⟨g2, 2, none⟩), .agg (arr 100 .u8 F.k), .bool true, .bool false, .pointer (some ⟨g1, 102, none⟩), .agg (arr 100 .i16 F.s), .pointer (some ⟨g2, 102, none⟩), .agg (arr 100 .i16 F.s), .bool true, .bool false], []⟩) (by kernel_rfl) ?_
  refine wp_seq ?_
  refine wp_region_lit ?_
  refine wpl_val (.bool true) (.bool true) rfl (by kernel_rfl) (by kernel_rfl) rfl ?_
  refine wpList_nil ?_
  refine then_normal ?_
  refine wp_frame (a' := ⟨#[.agg F.cells, .agg F.cells, .pointer (some ⟨g1, 0, none⟩), .pointer (some ⟨g2, 0, none⟩), .bool true, .pointer (some ⟨g1, 0, none⟩), .int .i8 F.w, .pointer (some ⟨g2, 0, none⟩), .int .i8 F.w, .bool false, .pointer (some ⟨g1, 1, none⟩), .int .i8 F.h, .pointer (some ⟨g2, 1, none⟩), .int .i8 F.h, .bool false, .pointer (some ⟨g1, 2, none⟩), .agg (arr 100 .u8 F.k), .pointer (some ⟨g2, 2, none⟩), .agg (arr 100 .u8 F.k), .bool true, .bool false, .pointer (some ⟨g1, 102, none⟩), .agg (arr 100 .i16 F.s), .pointer (some ⟨g2, 102, none⟩), .agg (arr 100 .i16 F.s), .bool true, .bool false], []⟩) (by kernel_rfl) ?_
  refine wp_ret ?_
  refine body_frame (a' := ⟨#[.agg F.cells, .agg F.cells, .pointer (some ⟨g1, 0, none⟩), .pointer (some ⟨g2, 0, none⟩), .bool true, .pointer (some ⟨g1, 0, none⟩), .int .i8 F.w, .pointer (some ⟨g2, 0, none⟩), .int .i8 F.w, .bool false, .pointer (some ⟨g1, 1, none⟩), .int .i8 F.h, .pointer (some ⟨g2, 1, none⟩), .int .i8 F.h, .bool false, .pointer (some ⟨g1, 2, none⟩), .agg (arr 100 .u8 F.k), .pointer (some ⟨g2, 2, none⟩), .agg (arr 100 .u8 F.k), .bool true, .bool false, .pointer (some ⟨g1, 102, none⟩), .agg (arr 100 .i16 F.s), .pointer (some ⟨g2, 102, none⟩), .agg (arr 100 .i16 F.s), .bool true, .bool false], []⟩) (by kernel_rfl) ?_
  refine ret1 (.bool true) rfl ?_ rfl ?_
  · show (.bool true : Value) = (.bool true)
    rfl
  exact ⟨rfl, H4⟩


--# fieldCode_any
theorem fieldCode_any (F : Fld) (hF : F.wf) (b : Nat) (t : TypeId) (V : Value) (fn : FuncId) (full : Array Value) (hV : Clo Try.prog V #[] fn full) (B : Bool) (w : World) (hb : Blk w b t F.cells) (hc : ∀ w', Ext w w' → Calls Try.prog fn full w' fun e w'' => e = .returned (.bool B) ∧ Ext w' w'') :
 Calls Try.prog 64 #[.pointer (some ⟨b, 0, none⟩), V] w fun e w' => e = .returned (.int .i64 (code F B)) ∧ Ext w w' := by
  have lt_b := hb.lt
  refine calls_of_wp Try.func64 rfl ?_
  refine wp_frame (a' := ⟨#[.pointer (some ⟨b, 0, none⟩), V, undef, undef, undef, undef, undef, undef, undef, undef, undef, undef, undef, undef, undef], []⟩) (by kernel_rfl) ?_
  refine wp_seq ?_
  refine wp_region_lit ?_
  refine wpl_val (.int .i64 0) (.int .i64 0) rfl (by kernel_rfl) (by kernel_rfl) rfl ?_
  refine wpList_nil ?_
  refine then_normal ?_
  refine wp_frame (a' := ⟨#[.pointer (some ⟨b, 0, none⟩), V, undef, undef, .int .i64 0, undef, undef, undef, undef, undef, undef, undef, undef, undef, undef], []⟩) (by kernel_rfl) ?_
  refine wp_seq ?_
  refine wp_block ?_
  refine wp_seq ?_
  refine wp_region_lit ?_
  refine wpl_val (.pointer (some ⟨b, 0, none⟩)) (.pointer (some ⟨b, 0, none⟩)) rfl (by kernel_rfl) (by kernel_rfl) rfl ?_
  refine wpl_val (.pointer (some ⟨b, 0, none⟩)) (.pointer (some ⟨b, 0, none⟩)) rfl (by kernel_rfl) (by kernel_rfl) rfl ?_
  refine wpl_row F.cells rfl (by kernel_rfl) row_impl_Field hb (by exact Fld.size_cells _) rfl (by kernel_rfl) ?_
  refine wpl_call (25) #[.agg F.cells] rfl (by kernel_rfl) (by kernel_rfl) (iValidField_any F hF _) ?_
  intro w1 E1
  replace hb := hb.ext E1
  have H1 := ((Ext.refl w)).trans E1
  clear E1
  refine wpl_val (.bool (!(okB F))) (.bool (!(okB F))) rfl (by kernel_rfl) (by kernel_rfl) rfl ?_
  refine wpl_val (.bool (!(okB F))) (.bool (!(okB F))) rfl (by kernel_rfl) (by kernel_rfl) rfl ?_
  refine wpList_nil ?_
  refine then_normal ?_
  refine wp_frame (a' := ⟨#[.pointer (some ⟨b, 0, none⟩), V, undef, undef, .int .i64 0, .bool (!(okB F)), .pointer (some ⟨b, 0, none⟩), .pointer (some ⟨b, 0, none⟩), .agg F.cells, .bool (okB F), .bool (!(okB F)), undef, undef, undef, undef], []⟩) (by kernel_rfl) ?_
  refine wp_cond_split (t := !(okB F)) rfl (fun h1 => ?_) (fun h1 => ?_)
  · skip
    simp only [Bool.not_eq_true', Bool.not_eq_false'] at h1
    have hk1 := h1
    try simp only [decide_eq_true_eq, decide_eq_false_iff_not, Bool.and_eq_true, Bool.or_eq_true, Bool.and_eq_false_iff, Bool.or_eq_false_iff, Bool.not_eq_true', Bool.not_eq_false', beq_iff_eq, beq_eq_false_iff_ne, bne_iff_ne, bne_eq_false_iff_eq, gt_iff_lt, ge_iff_le, ne_eq, Decidable.not_not, Int.not_lt, Int.not_le] at h1
    refine wp_seq ?_
    refine wp_region_lit ?_
    refine wpl_val (.int .i64 1) (.int .i64 1) rfl (by kernel_rfl) (by kernel_rfl) rfl ?_
    refine wpl_frame (a' := ⟨#[.pointer (some ⟨b, 0, none⟩), V, undef, undef, .int .i64 1, .bool (!(okB F)), .pointer (some ⟨b, 0, none⟩), .pointer (some ⟨b, 0, none⟩), .agg F.cells, .bool (okB F), .bool (!(okB F)), undef, undef, undef, undef], []⟩) (by kernel_rfl) ?_
    refine wpl_frame (a' := ⟨#[.pointer (some ⟨b, 0, none⟩), V, undef, undef, .int .i64 1, .bool (!(okB F)), .pointer (some ⟨b, 0, none⟩), .pointer (some ⟨b, 0, none⟩), .agg F.cells, .bool false, .bool (!(okB F)), undef, undef, undef, undef], []⟩) (by simp only [hk1, Bool.not_true, Bool.not_false]) ?_
    refine wpList_nil ?_
    refine then_normal ?_
    refine wp_frame (a' := ⟨#[.pointer (some ⟨b, 0, none⟩), V, undef, undef, .int .i64 1, .bool (!(okB F)), .pointer (some ⟨b, 0, none⟩), .pointer (some ⟨b, 0, none⟩), .agg F.cells, .bool false, .bool (!(okB F)), undef, undef, undef, undef], []⟩) (by kernel_rfl) ?_
    refine wp_ret ?_
    refine block_ret ?_
    refine then_ret ?_
    refine body_frame (a' := ⟨#[.pointer (some ⟨b, 0, none⟩), V, undef, undef, .int .i64 1, .bool (!(okB F)), .pointer (some ⟨b, 0, none⟩), .pointer (some ⟨b, 0, none⟩), .agg F.cells, .bool false, .bool (!(okB F)), undef, undef, undef, undef], []⟩) (by kernel_rfl) ?_
    refine ret1 (.int .i64 (code F B)) rfl ?_ rfl ?_
    · show (.int .i64 1 : Value) = (.int .i64 (code F B))
      refine congrArg (Value.int _) ?_
      first | exact (code_1 (by assumption)).symm | exact (code_2 (by assumption) (by assumption)).symm | exact (code_0 (by assumption) (by assumption)).symm
    exact ⟨rfl, H1⟩
  · skip
    simp only [Bool.not_eq_true', Bool.not_eq_false'] at h1
    have hk2 := h1
    try simp only [decide_eq_true_eq, decide_eq_false_iff_not, Bool.and_eq_true, Bool.or_eq_true, Bool.and_eq_false_iff, Bool.or_eq_false_iff, Bool.not_eq_true', Bool.not_eq_false', beq_iff_eq, beq_eq_false_iff_ne, bne_iff_ne, bne_eq_false_iff_eq, gt_iff_lt, ge_iff_le, ne_eq, Decidable.not_not, Int.not_lt, Int.not_le] at h1
    refine wp_seq ?_
    refine wp_region_lit ?_
    refine wpl_val V V rfl (by kernel_rfl) (by kernel_rfl) rfl ?_
    refine wpl_frame (a' := ⟨#[.pointer (some ⟨b, 0, none⟩), V, undef, undef, .int .i64 0, .bool (!(okB F)), .pointer (some ⟨b, 0, none⟩), .pointer (some ⟨b, 0, none⟩), .agg F.cells, .bool (okB F), .bool (!(okB F)), undef, V, undef, undef], []⟩) (by kernel_rfl) ?_
    refine wpl_frame (a' := ⟨#[.pointer (some ⟨b, 0, none⟩), V, undef, undef, .int .i64 0, .bool (!(okB F)), .pointer (some ⟨b, 0, none⟩), .pointer (some ⟨b, 0, none⟩), .agg F.cells, .bool true, .bool (!(okB F)), undef, V, undef, undef], []⟩) (by simp only [hk2, Bool.not_true, Bool.not_false]) ?_
    refine wpl_call fn full rfl (by kernel_rfl) (Eq.trans (b := (callV V #[]).run Try.prog _) (by kernel_rfl) (hV _)) (hc _ H1) ?_
    intro w2 E2
    replace hb := hb.ext E2
    have H2 := (H1).trans E2
    clear E2
    refine wpl_val (.bool (!B)) (.bool (!B)) rfl (by kernel_rfl) (by kernel_rfl) rfl ?_
    refine wpl_val (.bool (!B)) (.bool (!B)) rfl (by kernel_rfl) (by kernel_rfl) rfl ?_
    refine wpList_nil ?_
    refine then_normal ?_
    refine wp_frame (a' := ⟨#[.pointer (some ⟨b, 0, none⟩), V, undef, undef, .int .i64 0, .bool (!(okB F)), .pointer (some ⟨b, 0, none⟩), .pointer (some ⟨b, 0, none⟩), .agg F.cells, .bool true, .bool (!(okB F)), .bool (!B), V, .bool B, .bool (!B)], []⟩) (by kernel_rfl) ?_
    refine wp_cond_split (t := !B) rfl (fun h2 => ?_) (fun h2 => ?_)
    · skip
      simp only [Bool.not_eq_true', Bool.not_eq_false'] at h2
      have hk3 := h2
      try simp only [decide_eq_true_eq, decide_eq_false_iff_not, Bool.and_eq_true, Bool.or_eq_true, Bool.and_eq_false_iff, Bool.or_eq_false_iff, Bool.not_eq_true', Bool.not_eq_false', beq_iff_eq, beq_eq_false_iff_ne, bne_iff_ne, bne_eq_false_iff_eq, gt_iff_lt, ge_iff_le, ne_eq, Decidable.not_not, Int.not_lt, Int.not_le] at h2
      refine wp_seq ?_
      refine wp_region_lit ?_
      refine wpl_val (.int .i64 2) (.int .i64 2) rfl (by kernel_rfl) (by kernel_rfl) rfl ?_
      refine wpl_frame (a' := ⟨#[.pointer (some ⟨b, 0, none⟩), V, undef, undef, .int .i64 2, .bool (!(okB F)), .pointer (some ⟨b, 0, none⟩), .pointer (some ⟨b, 0, none⟩), .agg F.cells, .bool true, .bool (!(okB F)), .bool (!B), V, .bool B, .bool (!B)], []⟩) (by kernel_rfl) ?_
      refine wpl_frame (a' := ⟨#[.pointer (some ⟨b, 0, none⟩), V, undef, undef, .int .i64 2, .bool (!(okB F)), .pointer (some ⟨b, 0, none⟩), .pointer (some ⟨b, 0, none⟩), .agg F.cells, .bool true, .bool (!(okB F)), .bool (!B), V, .bool false, .bool (!B)], []⟩) (by simp only [hk3, Bool.not_true, Bool.not_false]) ?_
      refine wpList_nil ?_
      refine then_normal ?_
      refine wp_frame (a' := ⟨#[.pointer (some ⟨b, 0, none⟩), V, undef, undef, .int .i64 2, .bool (!(okB F)), .pointer (some ⟨b, 0, none⟩), .pointer (some ⟨b, 0, none⟩), .agg F.cells, .bool true, .bool (!(okB F)), .bool (!B), V, .bool false, .bool (!B)], []⟩) (by kernel_rfl) ?_
      refine wp_ret ?_
      refine block_ret ?_
      refine then_ret ?_
      refine body_frame (a' := ⟨#[.pointer (some ⟨b, 0, none⟩), V, undef, undef, .int .i64 2, .bool (!(okB F)), .pointer (some ⟨b, 0, none⟩), .pointer (some ⟨b, 0, none⟩), .agg F.cells, .bool true, .bool (!(okB F)), .bool (!B), V, .bool false, .bool (!B)], []⟩) (by kernel_rfl) ?_
      refine ret1 (.int .i64 (code F B)) rfl ?_ rfl ?_
      · show (.int .i64 2 : Value) = (.int .i64 (code F B))
        refine congrArg (Value.int _) ?_
        first | exact (code_1 (by assumption)).symm | exact (code_2 (by assumption) (by assumption)).symm | exact (code_0 (by assumption) (by assumption)).symm
      exact ⟨rfl, H2⟩
    · skip
      simp only [Bool.not_eq_true', Bool.not_eq_false'] at h2
      have hk4 := h2
      try simp only [decide_eq_true_eq, decide_eq_false_iff_not, Bool.and_eq_true, Bool.or_eq_true, Bool.and_eq_false_iff, Bool.or_eq_false_iff, Bool.not_eq_true', Bool.not_eq_false', beq_iff_eq, beq_eq_false_iff_ne, bne_iff_ne, bne_eq_false_iff_eq, gt_iff_lt, ge_iff_le, ne_eq, Decidable.not_not, Int.not_lt, Int.not_le] at h2
      refine wp_skip ?_
      refine block_normal ?_
      refine then_normal ?_
      refine wp_frame (a' := ⟨#[.pointer (some ⟨b, 0, none⟩), V, undef, undef, .int .i64 0, .bool (!(okB F)), .pointer (some ⟨b, 0, none⟩), .pointer (some ⟨b, 0, none⟩), .agg F.cells, .bool true, .bool (!(okB F)), .bool (!B), V, .bool B, .bool (!B)], []⟩) (by kernel_rfl) ?_
      refine wp_seq ?_
      refine wp_region_lit ?_
      refine wpl_val (.int .i64 0) (.int .i64 0) rfl (by kernel_rfl) (by kernel_rfl) rfl ?_
      refine wpl_frame (a' := ⟨#[.pointer (some ⟨b, 0, none⟩), V, undef, undef, .int .i64 0, .bool (!(okB F)), .pointer (some ⟨b, 0, none⟩), .pointer (some ⟨b, 0, none⟩), .agg F.cells, .bool true, .bool (!(okB F)), .bool (!B), V, .bool B, .bool (!B)], []⟩) (by kernel_rfl) ?_
      refine wpl_frame (a' := ⟨#[.pointer (some ⟨b, 0, none⟩), V, undef, undef, .int .i64 0, .bool (!(okB F)), .pointer (some ⟨b, 0, none⟩), .pointer (some ⟨b, 0, none⟩), .agg F.cells, .bool true, .bool (!(okB F)), .bool (!B), V, .bool true, .bool (!B)], []⟩) (by simp only [hk4, Bool.not_true, Bool.not_false]) ?_
      refine wpList_nil ?_
      refine then_normal ?_
      refine wp_frame (a' := ⟨#[.pointer (some ⟨b, 0, none⟩), V, undef, undef, .int .i64 0, .bool (!(okB F)), .pointer (some ⟨b, 0, none⟩), .pointer (some ⟨b, 0, none⟩), .agg F.cells, .bool true, .bool (!(okB F)), .bool (!B), V, .bool true, .bool (!B)], []⟩) (by kernel_rfl) ?_
      refine wp_ret ?_
      refine body_frame (a' := ⟨#[.pointer (some ⟨b, 0, none⟩), V, undef, undef, .int .i64 0, .bool (!(okB F)), .pointer (some ⟨b, 0, none⟩), .pointer (some ⟨b, 0, none⟩), .agg F.cells, .bool true, .bool (!(okB F)), .bool (!B), V, .bool true, .bool (!B)], []⟩) (by kernel_rfl) ?_
      refine ret1 (.int .i64 (code F B)) rfl ?_ rfl ?_
      · show (.int .i64 0 : Value) = (.int .i64 (code F B))
        refine congrArg (Value.int _) ?_
        first | exact (code_1 (by assumption)).symm | exact (code_2 (by assumption) (by assumption)).symm | exact (code_0 (by assumption) (by assumption)).symm
      exact ⟨rfl, H2⟩


--# KindAt1_any
theorem KindAt1_any (F : Fld) (hF : F.wf) (b0 : Nat) (t0 : TypeId) (c : Int) (b1 : Nat) (t1 : TypeId) (w : World) (hb0 : Blk w b0 t0 F.cells) (hb1 : Blk w b1 t1 #[.int .i64 c]) :
 Calls Try.prog 65 #[.pointer (some ⟨b0, 0, none⟩), .pointer (some ⟨b1, 0, none⟩)] w fun e w' => e = .returned (.bool (isB F c)) ∧ Ext w w' := by
  have w1_ := hF.w1
  have w2_ := hF.w2
  have h1_ := hF.h1
  have h2_ := hF.h2
  have lt_b0 := hb0.lt
  have lt_b1 := hb1.lt
  refine calls_of_wp Try.func65 rfl ?_
  refine wp_frame (a' := ⟨#[.pointer (some ⟨b0, 0, none⟩), .pointer (some ⟨b1, 0, none⟩), undef, undef, undef], []⟩) (by kernel_rfl) ?_
  refine wp_seq ?_
  refine wp_region_lit ?_
  refine wpl_val (.bool false) (.bool false) rfl (by kernel_rfl) (by kernel_rfl) rfl ?_
  refine wpList_nil ?_
  refine then_normal ?_
  refine wp_frame (a' := ⟨#[.pointer (some ⟨b0, 0, none⟩), .pointer (some ⟨b1, 0, none⟩), .bool false, undef, undef], []⟩) (by kernel_rfl) ?_
  refine wp_seq ?_
  refine wp_region_lit ?_
  refine wpl_cell (g := b1) (off := 0) (.int .i64 c) rfl (by kernel_rfl) scal_int64 rfl (by kernel_rfl) (by rw [hb1.cell]; rfl) ?_
  refine wpl_call (54) #[.pointer (some ⟨b0, 0, none⟩), .int .i64 c] rfl (by kernel_rfl) (by kernel_rfl) (has_any F hF b0 _ _ _ hb0) ?_
  intro w1 E1
  replace hb0 := hb0.ext E1
  replace hb1 := hb1.ext E1
  have H1 := ((Ext.refl w)).trans E1
  clear E1
  refine wpl_val (.bool (isB F c)) (.bool (isB F c)) rfl (by kernel_rfl) (by kernel_rfl) rfl ?_
  refine wpList_nil ?_
  refine then_normal ?_
  refine wp_frame (a' := ⟨#[.pointer (some ⟨b0, 0, none⟩), .pointer (some ⟨b1, 0, none⟩), .bool (isB F c), .int .i64 c, .bool (isB F c)], []⟩) (by kernel_rfl) ?_
  refine wp_ret ?_
  refine body_frame (a' := ⟨#[.pointer (some ⟨b0, 0, none⟩), .pointer (some ⟨b1, 0, none⟩), .bool (isB F c), .int .i64 c, .bool (isB F c)], []⟩) (by kernel_rfl) ?_
  refine ret1 (.bool (isB F c)) rfl ?_ rfl ?_
  · show (.bool (isB F c) : Value) = (.bool (isB F c))
    rfl
  exact ⟨rfl, H1⟩


--# SeedsAt1_any
theorem SeedsAt1_any (F : Fld) (hF : F.wf) (b0 : Nat) (t0 : TypeId) (c : Int) (b1 : Nat) (t1 : TypeId) (w : World) (hb0 : Blk w b0 t0 F.cells) (hb1 : Blk w b1 t1 #[.int .i64 c]) :
 Calls Try.prog 66 #[.pointer (some ⟨b0, 0, none⟩), .pointer (some ⟨b1, 0, none⟩)] w fun e w' => e = .returned (.bool (isB F c)) ∧ Ext w w' := by
  have w1_ := hF.w1
  have w2_ := hF.w2
  have h1_ := hF.h1
  have h2_ := hF.h2
  have lt_b0 := hb0.lt
  have lt_b1 := hb1.lt
  refine calls_of_wp Try.func66 rfl ?_
  refine wp_frame (a' := ⟨#[.pointer (some ⟨b0, 0, none⟩), .pointer (some ⟨b1, 0, none⟩), undef, undef, undef], []⟩) (by kernel_rfl) ?_
  refine wp_seq ?_
  refine wp_region_lit ?_
  refine wpl_val (.bool false) (.bool false) rfl (by kernel_rfl) (by kernel_rfl) rfl ?_
  refine wpList_nil ?_
  refine then_normal ?_
  refine wp_frame (a' := ⟨#[.pointer (some ⟨b0, 0, none⟩), .pointer (some ⟨b1, 0, none⟩), .bool false, undef, undef], []⟩) (by kernel_rfl) ?_
  refine wp_seq ?_
  refine wp_region_lit ?_
  refine wpl_cell (g := b1) (off := 0) (.int .i64 c) rfl (by kernel_rfl) scal_int64 rfl (by kernel_rfl) (by rw [hb1.cell]; rfl) ?_
  refine wpl_call (54) #[.pointer (some ⟨b0, 0, none⟩), .int .i64 c] rfl (by kernel_rfl) (by kernel_rfl) (has_any F hF b0 _ _ _ hb0) ?_
  intro w1 E1
  replace hb0 := hb0.ext E1
  replace hb1 := hb1.ext E1
  have H1 := ((Ext.refl w)).trans E1
  clear E1
  refine wpl_val (.bool (isB F c)) (.bool (isB F c)) rfl (by kernel_rfl) (by kernel_rfl) rfl ?_
  refine wpList_nil ?_
  refine then_normal ?_
  refine wp_frame (a' := ⟨#[.pointer (some ⟨b0, 0, none⟩), .pointer (some ⟨b1, 0, none⟩), .bool (isB F c), .int .i64 c, .bool (isB F c)], []⟩) (by kernel_rfl) ?_
  refine wp_ret ?_
  refine body_frame (a' := ⟨#[.pointer (some ⟨b0, 0, none⟩), .pointer (some ⟨b1, 0, none⟩), .bool (isB F c), .int .i64 c, .bool (isB F c)], []⟩) (by kernel_rfl) ?_
  refine ret1 (.bool (isB F c)) rfl ?_ rfl ?_
  · show (.bool (isB F c) : Value) = (.bool (isB F c))
    rfl
  exact ⟨rfl, H1⟩


--# SquareOf1_any
theorem SquareOf1_any (F : Fld) (hF : F.wf) (b0 : Nat) (t0 : TypeId) (a : Int) (b1 : Nat) (t1 : TypeId) (b : Int) (b2 : Nat) (t2 : TypeId) (w : World) (hb0 : Blk w b0 t0 F.cells) (hb1 : Blk w b1 t1 #[.int .i64 a]) (hb2 : Blk w b2 t2 #[.int .i64 b]) :
 Calls Try.prog 68 #[.pointer (some ⟨b0, 0, none⟩), .pointer (some ⟨b1, 0, none⟩), .pointer (some ⟨b2, 0, none⟩)] w fun e w' => e = .returned (.bool (isB F a && isB F b)) ∧ Ext w w' := by
  have w1_ := hF.w1
  have w2_ := hF.w2
  have h1_ := hF.h1
  have h2_ := hF.h2
  have lt_b0 := hb0.lt
  have lt_b1 := hb1.lt
  have lt_b2 := hb2.lt
  refine calls_of_wp Try.func68 rfl ?_
  refine wp_frame (a' := ⟨#[.pointer (some ⟨b0, 0, none⟩), .pointer (some ⟨b1, 0, none⟩), .pointer (some ⟨b2, 0, none⟩), undef, undef, undef, undef, undef, undef, undef], []⟩) (by kernel_rfl) ?_
  refine wp_seq ?_
  refine wp_region_lit ?_
  refine wpl_val (.bool false) (.bool false) rfl (by kernel_rfl) (by kernel_rfl) rfl ?_
  refine wpList_nil ?_
  refine then_normal ?_
  refine wp_frame (a' := ⟨#[.pointer (some ⟨b0, 0, none⟩), .pointer (some ⟨b1, 0, none⟩), .pointer (some ⟨b2, 0, none⟩), .bool false, undef, undef, undef, undef, undef, undef], []⟩) (by kernel_rfl) ?_
  refine wp_seq ?_
  refine wp_region_lit ?_
  refine wpl_cell (g := b1) (off := 0) (.int .i64 a) rfl (by kernel_rfl) scal_int64 rfl (by kernel_rfl) (by rw [hb1.cell]; rfl) ?_
  refine wpl_call (54) #[.pointer (some ⟨b0, 0, none⟩), .int .i64 a] rfl (by kernel_rfl) (by kernel_rfl) (has_any F hF b0 _ _ _ hb0) ?_
  intro w1 E1
  replace hb0 := hb0.ext E1
  replace hb1 := hb1.ext E1
  replace hb2 := hb2.ext E1
  have H1 := ((Ext.refl w)).trans E1
  clear E1
  refine wpl_val (.bool (isB F a)) (.bool (isB F a)) rfl (by kernel_rfl) (by kernel_rfl) rfl ?_
  refine wpl_frame (a' := ⟨#[.pointer (some ⟨b0, 0, none⟩), .pointer (some ⟨b1, 0, none⟩), .pointer (some ⟨b2, 0, none⟩), .bool false, .int .i64 a, .bool (isB F a), .bool (isB F a), undef, undef, undef], []⟩) (by kernel_rfl) ?_
  refine split_bool (isB F a) (fun h1 => ?_) (fun h1 => ?_)
  · skip
    refine wpl_frame (a' := ⟨#[.pointer (some ⟨b0, 0, none⟩), .pointer (some ⟨b1, 0, none⟩), .pointer (some ⟨b2, 0, none⟩), .bool false, .int .i64 a, .bool true, .bool true, undef, undef, undef], []⟩) (by simp only [h1, Bool.not_true, Bool.not_false]) ?_
    have hk1 := h1
    try simp only [decide_eq_true_eq, decide_eq_false_iff_not, Bool.and_eq_true, Bool.or_eq_true, Bool.and_eq_false_iff, Bool.or_eq_false_iff, Bool.not_eq_true', Bool.not_eq_false', beq_iff_eq, beq_eq_false_iff_ne, bne_iff_ne, bne_eq_false_iff_eq, gt_iff_lt, ge_iff_le, ne_eq, Decidable.not_not, Int.not_lt, Int.not_le, inB] at h1
    refine wpl_cell (g := b2) (off := 0) (.int .i64 b) rfl (by kernel_rfl) scal_int64 rfl (by kernel_rfl) (by rw [hb2.cell]; rfl) ?_
    refine wpl_call (54) #[.pointer (some ⟨b0, 0, none⟩), .int .i64 b] rfl (by kernel_rfl) (by kernel_rfl) (has_any F hF b0 _ _ _ hb0) ?_
    intro w2 E2
    replace hb0 := hb0.ext E2
    replace hb1 := hb1.ext E2
    replace hb2 := hb2.ext E2
    have H2 := (H1).trans E2
    clear E2
    refine wpl_val (.bool (isB F b)) (.bool (isB F b)) rfl (by kernel_rfl) (by kernel_rfl) rfl ?_
    refine wpl_val (.bool (isB F b)) (.bool (isB F b)) rfl (by kernel_rfl) (by kernel_rfl) rfl ?_
    refine wpList_nil ?_
    refine then_normal ?_
    refine wp_frame (a' := ⟨#[.pointer (some ⟨b0, 0, none⟩), .pointer (some ⟨b1, 0, none⟩), .pointer (some ⟨b2, 0, none⟩), .bool (isB F b), .int .i64 a, .bool true, .bool true, .int .i64 b, .bool (isB F b), .bool (isB F b)], []⟩) (by kernel_rfl) ?_
    refine wp_ret ?_
    refine body_frame (a' := ⟨#[.pointer (some ⟨b0, 0, none⟩), .pointer (some ⟨b1, 0, none⟩), .pointer (some ⟨b2, 0, none⟩), .bool (isB F b), .int .i64 a, .bool true, .bool true, .int .i64 b, .bool (isB F b), .bool (isB F b)], []⟩) (by kernel_rfl) ?_
    refine ret1 (.bool (isB F a && isB F b)) rfl ?_ rfl ?_
    · show (.bool (isB F b) : Value) = (.bool (isB F a && isB F b))
      refine congrArg Value.bool ?_
      first | (simp [*]; done) | (simp [inB, *]; done) | (simp [inB, *]; omega)
    exact ⟨rfl, H2⟩
  · skip
    refine wpl_frame (a' := ⟨#[.pointer (some ⟨b0, 0, none⟩), .pointer (some ⟨b1, 0, none⟩), .pointer (some ⟨b2, 0, none⟩), .bool false, .int .i64 a, .bool false, .bool false, undef, undef, undef], []⟩) (by simp only [h1, Bool.not_true, Bool.not_false]) ?_
    have hk2 := h1
    try simp only [decide_eq_true_eq, decide_eq_false_iff_not, Bool.and_eq_true, Bool.or_eq_true, Bool.and_eq_false_iff, Bool.or_eq_false_iff, Bool.not_eq_true', Bool.not_eq_false', beq_iff_eq, beq_eq_false_iff_ne, bne_iff_ne, bne_eq_false_iff_eq, gt_iff_lt, ge_iff_le, ne_eq, Decidable.not_not, Int.not_lt, Int.not_le, inB] at h1
    refine wpl_skip rfl (by kernel_rfl) ?_
    refine wpl_skip rfl (by kernel_rfl) ?_
    refine wpl_val (.bool false) (.bool false) rfl (by kernel_rfl) (by kernel_rfl) rfl ?_
    refine wpl_val (.bool false) (.bool false) rfl (by kernel_rfl) (by kernel_rfl) rfl ?_
    refine wpList_nil ?_
    refine then_normal ?_
    refine wp_frame (a' := ⟨#[.pointer (some ⟨b0, 0, none⟩), .pointer (some ⟨b1, 0, none⟩), .pointer (some ⟨b2, 0, none⟩), .bool false, .int .i64 a, .bool false, .bool false, undef, undef, .bool false], []⟩) (by kernel_rfl) ?_
    refine wp_ret ?_
    refine body_frame (a' := ⟨#[.pointer (some ⟨b0, 0, none⟩), .pointer (some ⟨b1, 0, none⟩), .pointer (some ⟨b2, 0, none⟩), .bool false, .int .i64 a, .bool false, .bool false, undef, undef, .bool false], []⟩) (by kernel_rfl) ?_
    refine ret1 (.bool (isB F a && isB F b)) rfl ?_ rfl ?_
    · show (.bool false : Value) = (.bool (isB F a && isB F b))
      refine congrArg Value.bool ?_
      first | (simp [*]; done) | (simp [inB, *]; done) | (simp [inB, *]; omega)
    exact ⟨rfl, H1⟩


--# CellsOfKind1_any
theorem CellsOfKind1_any (k : Int) (b0 : Nat) (t0 : TypeId) (w : World) (hb0 : Blk w b0 t0 #[.int .i64 k]) :
 Calls Try.prog 75 #[.pointer (some ⟨b0, 0, none⟩)] w fun e w' => e = .returned (.bool (inB k 0 3)) ∧ Ext w w' := by
  have lt_b0 := hb0.lt
  refine calls_of_wp Try.func75 rfl ?_
  refine wp_frame (a' := ⟨#[.pointer (some ⟨b0, 0, none⟩), undef, undef, undef], []⟩) (by kernel_rfl) ?_
  refine wp_seq ?_
  refine wp_region_lit ?_
  refine wpl_val (.bool false) (.bool false) rfl (by kernel_rfl) (by kernel_rfl) rfl ?_
  refine wpList_nil ?_
  refine then_normal ?_
  refine wp_frame (a' := ⟨#[.pointer (some ⟨b0, 0, none⟩), .bool false, undef, undef], []⟩) (by kernel_rfl) ?_
  refine wp_seq ?_
  refine wp_region_lit ?_
  refine wpl_cell (g := b0) (off := 0) (.int .i64 k) rfl (by kernel_rfl) scal_int64 rfl (by kernel_rfl) (by rw [hb0.cell]; rfl) ?_
  refine wpl_call (76) #[.int .i64 k] rfl (by kernel_rfl) (by kernel_rfl) (isKind_any _ _) ?_
  intro w1 E1
  replace hb0 := hb0.ext E1
  have H1 := ((Ext.refl w)).trans E1
  clear E1
  refine wpl_val (.bool (inB k 0 3)) (.bool (inB k 0 3)) rfl (by kernel_rfl) (by kernel_rfl) rfl ?_
  refine wpList_nil ?_
  refine then_normal ?_
  refine wp_frame (a' := ⟨#[.pointer (some ⟨b0, 0, none⟩), .bool (inB k 0 3), .int .i64 k, .bool (inB k 0 3)], []⟩) (by kernel_rfl) ?_
  refine wp_ret ?_
  refine body_frame (a' := ⟨#[.pointer (some ⟨b0, 0, none⟩), .bool (inB k 0 3), .int .i64 k, .bool (inB k 0 3)], []⟩) (by kernel_rfl) ?_
  refine ret1 (.bool (inB k 0 3)) rfl ?_ rfl ?_
  · show (.bool (inB k 0 3) : Value) = (.bool (inB k 0 3))
    rfl
  exact ⟨rfl, H1⟩


--# WithKind1_any
theorem WithKind1_any (F : Fld) (hF : F.wf) (b0 : Nat) (t0 : TypeId) (c : Int) (b1 : Nat) (t1 : TypeId) (k : Int) (b2 : Nat) (t2 : TypeId) (w : World) (hb0 : Blk w b0 t0 F.cells) (hb1 : Blk w b1 t1 #[.int .i64 c]) (hb2 : Blk w b2 t2 #[.int .i64 k]) :
 Calls Try.prog 78 #[.pointer (some ⟨b0, 0, none⟩), .pointer (some ⟨b1, 0, none⟩), .pointer (some ⟨b2, 0, none⟩)] w fun e w' => e = .returned (.bool (isB F c && inB k 0 3)) ∧ Ext w w' := by
  have w1_ := hF.w1
  have w2_ := hF.w2
  have h1_ := hF.h1
  have h2_ := hF.h2
  have lt_b0 := hb0.lt
  have lt_b1 := hb1.lt
  have lt_b2 := hb2.lt
  refine calls_of_wp Try.func78 rfl ?_
  refine wp_frame (a' := ⟨#[.pointer (some ⟨b0, 0, none⟩), .pointer (some ⟨b1, 0, none⟩), .pointer (some ⟨b2, 0, none⟩), undef, undef, undef, undef, undef, undef, undef], []⟩) (by kernel_rfl) ?_
  refine wp_seq ?_
  refine wp_region_lit ?_
  refine wpl_val (.bool false) (.bool false) rfl (by kernel_rfl) (by kernel_rfl) rfl ?_
  refine wpList_nil ?_
  refine then_normal ?_
  refine wp_frame (a' := ⟨#[.pointer (some ⟨b0, 0, none⟩), .pointer (some ⟨b1, 0, none⟩), .pointer (some ⟨b2, 0, none⟩), .bool false, undef, undef, undef, undef, undef, undef], []⟩) (by kernel_rfl) ?_
  refine wp_seq ?_
  refine wp_region_lit ?_
  refine wpl_cell (g := b1) (off := 0) (.int .i64 c) rfl (by kernel_rfl) scal_int64 rfl (by kernel_rfl) (by rw [hb1.cell]; rfl) ?_
  refine wpl_call (54) #[.pointer (some ⟨b0, 0, none⟩), .int .i64 c] rfl (by kernel_rfl) (by kernel_rfl) (has_any F hF b0 _ _ _ hb0) ?_
  intro w1 E1
  replace hb0 := hb0.ext E1
  replace hb1 := hb1.ext E1
  replace hb2 := hb2.ext E1
  have H1 := ((Ext.refl w)).trans E1
  clear E1
  refine wpl_val (.bool (isB F c)) (.bool (isB F c)) rfl (by kernel_rfl) (by kernel_rfl) rfl ?_
  refine wpl_frame (a' := ⟨#[.pointer (some ⟨b0, 0, none⟩), .pointer (some ⟨b1, 0, none⟩), .pointer (some ⟨b2, 0, none⟩), .bool false, .int .i64 c, .bool (isB F c), .bool (isB F c), undef, undef, undef], []⟩) (by kernel_rfl) ?_
  refine split_bool (isB F c) (fun h1 => ?_) (fun h1 => ?_)
  · skip
    refine wpl_frame (a' := ⟨#[.pointer (some ⟨b0, 0, none⟩), .pointer (some ⟨b1, 0, none⟩), .pointer (some ⟨b2, 0, none⟩), .bool false, .int .i64 c, .bool true, .bool true, undef, undef, undef], []⟩) (by simp only [h1, Bool.not_true, Bool.not_false]) ?_
    have hk1 := h1
    try simp only [decide_eq_true_eq, decide_eq_false_iff_not, Bool.and_eq_true, Bool.or_eq_true, Bool.and_eq_false_iff, Bool.or_eq_false_iff, Bool.not_eq_true', Bool.not_eq_false', beq_iff_eq, beq_eq_false_iff_ne, bne_iff_ne, bne_eq_false_iff_eq, gt_iff_lt, ge_iff_le, ne_eq, Decidable.not_not, Int.not_lt, Int.not_le, inB] at h1
    refine wpl_cell (g := b2) (off := 0) (.int .i64 k) rfl (by kernel_rfl) scal_int64 rfl (by kernel_rfl) (by rw [hb2.cell]; rfl) ?_
    refine wpl_call (76) #[.int .i64 k] rfl (by kernel_rfl) (by kernel_rfl) (isKind_any _ _) ?_
    intro w2 E2
    replace hb0 := hb0.ext E2
    replace hb1 := hb1.ext E2
    replace hb2 := hb2.ext E2
    have H2 := (H1).trans E2
    clear E2
    refine wpl_val (.bool (inB k 0 3)) (.bool (inB k 0 3)) rfl (by kernel_rfl) (by kernel_rfl) rfl ?_
    refine wpl_val (.bool (inB k 0 3)) (.bool (inB k 0 3)) rfl (by kernel_rfl) (by kernel_rfl) rfl ?_
    refine wpList_nil ?_
    refine then_normal ?_
    refine wp_frame (a' := ⟨#[.pointer (some ⟨b0, 0, none⟩), .pointer (some ⟨b1, 0, none⟩), .pointer (some ⟨b2, 0, none⟩), .bool (inB k 0 3), .int .i64 c, .bool true, .bool true, .int .i64 k, .bool (inB k 0 3), .bool (inB k 0 3)], []⟩) (by kernel_rfl) ?_
    refine wp_ret ?_
    refine body_frame (a' := ⟨#[.pointer (some ⟨b0, 0, none⟩), .pointer (some ⟨b1, 0, none⟩), .pointer (some ⟨b2, 0, none⟩), .bool (inB k 0 3), .int .i64 c, .bool true, .bool true, .int .i64 k, .bool (inB k 0 3), .bool (inB k 0 3)], []⟩) (by kernel_rfl) ?_
    refine ret1 (.bool (isB F c && inB k 0 3)) rfl ?_ rfl ?_
    · show (.bool (inB k 0 3) : Value) = (.bool (isB F c && inB k 0 3))
      refine congrArg Value.bool ?_
      first | (simp [*]; done) | (simp [inB, *]; done) | (simp [inB, *]; omega)
    exact ⟨rfl, H2⟩
  · skip
    refine wpl_frame (a' := ⟨#[.pointer (some ⟨b0, 0, none⟩), .pointer (some ⟨b1, 0, none⟩), .pointer (some ⟨b2, 0, none⟩), .bool false, .int .i64 c, .bool false, .bool false, undef, undef, undef], []⟩) (by simp only [h1, Bool.not_true, Bool.not_false]) ?_
    have hk2 := h1
    try simp only [decide_eq_true_eq, decide_eq_false_iff_not, Bool.and_eq_true, Bool.or_eq_true, Bool.and_eq_false_iff, Bool.or_eq_false_iff, Bool.not_eq_true', Bool.not_eq_false', beq_iff_eq, beq_eq_false_iff_ne, bne_iff_ne, bne_eq_false_iff_eq, gt_iff_lt, ge_iff_le, ne_eq, Decidable.not_not, Int.not_lt, Int.not_le, inB] at h1
    refine wpl_skip rfl (by kernel_rfl) ?_
    refine wpl_skip rfl (by kernel_rfl) ?_
    refine wpl_val (.bool false) (.bool false) rfl (by kernel_rfl) (by kernel_rfl) rfl ?_
    refine wpl_val (.bool false) (.bool false) rfl (by kernel_rfl) (by kernel_rfl) rfl ?_
    refine wpList_nil ?_
    refine then_normal ?_
    refine wp_frame (a' := ⟨#[.pointer (some ⟨b0, 0, none⟩), .pointer (some ⟨b1, 0, none⟩), .pointer (some ⟨b2, 0, none⟩), .bool false, .int .i64 c, .bool false, .bool false, undef, undef, .bool false], []⟩) (by kernel_rfl) ?_
    refine wp_ret ?_
    refine body_frame (a' := ⟨#[.pointer (some ⟨b0, 0, none⟩), .pointer (some ⟨b1, 0, none⟩), .pointer (some ⟨b2, 0, none⟩), .bool false, .int .i64 c, .bool false, .bool false, undef, undef, .bool false], []⟩) (by kernel_rfl) ?_
    refine ret1 (.bool (isB F c && inB k 0 3)) rfl ?_ rfl ?_
    · show (.bool false : Value) = (.bool (isB F c && inB k 0 3))
      refine congrArg Value.bool ?_
      first | (simp [*]; done) | (simp [inB, *]; done) | (simp [inB, *]; omega)
    exact ⟨rfl, H1⟩


--# SowCell1_any
theorem SowCell1_any (F : Fld) (hF : F.wf) (b0 : Nat) (t0 : TypeId) (c : Int) (b1 : Nat) (t1 : TypeId) (n : Int) (b2 : Nat) (t2 : TypeId) (w : World) (hb0 : Blk w b0 t0 F.cells) (hb1 : Blk w b1 t1 #[.int .i64 c]) (hb2 : Blk w b2 t2 #[.int .i64 n]) :
 Calls Try.prog 79 #[.pointer (some ⟨b0, 0, none⟩), .pointer (some ⟨b1, 0, none⟩), .pointer (some ⟨b2, 0, none⟩)] w fun e w' => e = .returned (.bool (isB F c && inB n 0 1000)) ∧ Ext w w' := by
  have w1_ := hF.w1
  have w2_ := hF.w2
  have h1_ := hF.h1
  have h2_ := hF.h2
  have lt_b0 := hb0.lt
  have lt_b1 := hb1.lt
  have lt_b2 := hb2.lt
  refine calls_of_wp Try.func79 rfl ?_
  refine wp_frame (a' := ⟨#[.pointer (some ⟨b0, 0, none⟩), .pointer (some ⟨b1, 0, none⟩), .pointer (some ⟨b2, 0, none⟩), undef, undef, undef, undef, undef, undef, undef], []⟩) (by kernel_rfl) ?_
  refine wp_seq ?_
  refine wp_region_lit ?_
  refine wpl_val (.bool false) (.bool false) rfl (by kernel_rfl) (by kernel_rfl) rfl ?_
  refine wpList_nil ?_
  refine then_normal ?_
  refine wp_frame (a' := ⟨#[.pointer (some ⟨b0, 0, none⟩), .pointer (some ⟨b1, 0, none⟩), .pointer (some ⟨b2, 0, none⟩), .bool false, undef, undef, undef, undef, undef, undef], []⟩) (by kernel_rfl) ?_
  refine wp_seq ?_
  refine wp_region_lit ?_
  refine wpl_cell (g := b1) (off := 0) (.int .i64 c) rfl (by kernel_rfl) scal_int64 rfl (by kernel_rfl) (by rw [hb1.cell]; rfl) ?_
  refine wpl_call (54) #[.pointer (some ⟨b0, 0, none⟩), .int .i64 c] rfl (by kernel_rfl) (by kernel_rfl) (has_any F hF b0 _ _ _ hb0) ?_
  intro w1 E1
  replace hb0 := hb0.ext E1
  replace hb1 := hb1.ext E1
  replace hb2 := hb2.ext E1
  have H1 := ((Ext.refl w)).trans E1
  clear E1
  refine wpl_val (.bool (isB F c)) (.bool (isB F c)) rfl (by kernel_rfl) (by kernel_rfl) rfl ?_
  refine wpl_frame (a' := ⟨#[.pointer (some ⟨b0, 0, none⟩), .pointer (some ⟨b1, 0, none⟩), .pointer (some ⟨b2, 0, none⟩), .bool false, .int .i64 c, .bool (isB F c), .bool (isB F c), undef, undef, undef], []⟩) (by kernel_rfl) ?_
  refine split_bool (isB F c) (fun h1 => ?_) (fun h1 => ?_)
  · skip
    refine wpl_frame (a' := ⟨#[.pointer (some ⟨b0, 0, none⟩), .pointer (some ⟨b1, 0, none⟩), .pointer (some ⟨b2, 0, none⟩), .bool false, .int .i64 c, .bool true, .bool true, undef, undef, undef], []⟩) (by simp only [h1, Bool.not_true, Bool.not_false]) ?_
    have hk1 := h1
    try simp only [decide_eq_true_eq, decide_eq_false_iff_not, Bool.and_eq_true, Bool.or_eq_true, Bool.and_eq_false_iff, Bool.or_eq_false_iff, Bool.not_eq_true', Bool.not_eq_false', beq_iff_eq, beq_eq_false_iff_ne, bne_iff_ne, bne_eq_false_iff_eq, gt_iff_lt, ge_iff_le, ne_eq, Decidable.not_not, Int.not_lt, Int.not_le, inB] at h1
    refine wpl_cell (g := b2) (off := 0) (.int .i64 n) rfl (by kernel_rfl) scal_int64 rfl (by kernel_rfl) (by rw [hb2.cell]; rfl) ?_
    refine wpl_call (53) #[.int .i64 n, .int .i64 0, .int .i64 1000] rfl (by kernel_rfl) (by kernel_rfl) (within_any _ _ _ _) ?_
    intro w2 E2
    replace hb0 := hb0.ext E2
    replace hb1 := hb1.ext E2
    replace hb2 := hb2.ext E2
    have H2 := (H1).trans E2
    clear E2
    refine wpl_val (.bool (inB n 0 1000)) (.bool (inB n 0 1000)) rfl (by kernel_rfl) (by kernel_rfl) rfl ?_
    refine wpl_val (.bool (inB n 0 1000)) (.bool (inB n 0 1000)) rfl (by kernel_rfl) (by kernel_rfl) rfl ?_
    refine wpList_nil ?_
    refine then_normal ?_
    refine wp_frame (a' := ⟨#[.pointer (some ⟨b0, 0, none⟩), .pointer (some ⟨b1, 0, none⟩), .pointer (some ⟨b2, 0, none⟩), .bool (inB n 0 1000), .int .i64 c, .bool true, .bool true, .int .i64 n, .bool (inB n 0 1000), .bool (inB n 0 1000)], []⟩) (by kernel_rfl) ?_
    refine wp_ret ?_
    refine body_frame (a' := ⟨#[.pointer (some ⟨b0, 0, none⟩), .pointer (some ⟨b1, 0, none⟩), .pointer (some ⟨b2, 0, none⟩), .bool (inB n 0 1000), .int .i64 c, .bool true, .bool true, .int .i64 n, .bool (inB n 0 1000), .bool (inB n 0 1000)], []⟩) (by kernel_rfl) ?_
    refine ret1 (.bool (isB F c && inB n 0 1000)) rfl ?_ rfl ?_
    · show (.bool (inB n 0 1000) : Value) = (.bool (isB F c && inB n 0 1000))
      refine congrArg Value.bool ?_
      first | (simp [*]; done) | (simp [inB, *]; done) | (simp [inB, *]; omega)
    exact ⟨rfl, H2⟩
  · skip
    refine wpl_frame (a' := ⟨#[.pointer (some ⟨b0, 0, none⟩), .pointer (some ⟨b1, 0, none⟩), .pointer (some ⟨b2, 0, none⟩), .bool false, .int .i64 c, .bool false, .bool false, undef, undef, undef], []⟩) (by simp only [h1, Bool.not_true, Bool.not_false]) ?_
    have hk2 := h1
    try simp only [decide_eq_true_eq, decide_eq_false_iff_not, Bool.and_eq_true, Bool.or_eq_true, Bool.and_eq_false_iff, Bool.or_eq_false_iff, Bool.not_eq_true', Bool.not_eq_false', beq_iff_eq, beq_eq_false_iff_ne, bne_iff_ne, bne_eq_false_iff_eq, gt_iff_lt, ge_iff_le, ne_eq, Decidable.not_not, Int.not_lt, Int.not_le, inB] at h1
    refine wpl_skip rfl (by kernel_rfl) ?_
    refine wpl_skip rfl (by kernel_rfl) ?_
    refine wpl_val (.bool false) (.bool false) rfl (by kernel_rfl) (by kernel_rfl) rfl ?_
    refine wpl_val (.bool false) (.bool false) rfl (by kernel_rfl) (by kernel_rfl) rfl ?_
    refine wpList_nil ?_
    refine then_normal ?_
    refine wp_frame (a' := ⟨#[.pointer (some ⟨b0, 0, none⟩), .pointer (some ⟨b1, 0, none⟩), .pointer (some ⟨b2, 0, none⟩), .bool false, .int .i64 c, .bool false, .bool false, undef, undef, .bool false], []⟩) (by kernel_rfl) ?_
    refine wp_ret ?_
    refine body_frame (a' := ⟨#[.pointer (some ⟨b0, 0, none⟩), .pointer (some ⟨b1, 0, none⟩), .pointer (some ⟨b2, 0, none⟩), .bool false, .int .i64 c, .bool false, .bool false, undef, undef, .bool false], []⟩) (by kernel_rfl) ?_
    refine ret1 (.bool (isB F c && inB n 0 1000)) rfl ?_ rfl ?_
    · show (.bool false : Value) = (.bool (isB F c && inB n 0 1000))
      refine congrArg Value.bool ?_
      first | (simp [*]; done) | (simp [inB, *]; done) | (simp [inB, *]; omega)
    exact ⟨rfl, H1⟩


