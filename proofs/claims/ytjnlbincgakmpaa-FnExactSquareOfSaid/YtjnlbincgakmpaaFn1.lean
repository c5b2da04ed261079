/-
  Contracts of small functions. No conditions.
-/
import Derived.Test.YtjnlbincgakmpaaTy
import Derived.Test.YtjnlbincgakmpaaMth

namespace Go.Proofs.Ytjnlbincgakmpaa
open Go.RowKit
set_option linter.unusedSimpArgs false
set_option linter.unusedVariables false
set_option maxHeartbeats 4000000
attribute [local irreducible] wpList Code.wp
--# within_any
theorem within_any (n : Int) (l : Int) (h : Int) (w : World) :
 Calls Try.prog 53 #[.int .i64 n, .int .i64 l, .int .i64 h] w fun e w' => e = .returned (.bool (inB n l h)) ∧ Ext w w' := by
  refine calls_of_wp Try.func53 rfl ?_
  refine wp_frame (a' := ⟨#[.int .i64 n, .int .i64 l, .int .i64 h, undef, undef, undef, undef, undef, undef, undef, undef, undef, undef, undef, undef], []⟩) (by kernel_rfl) ?_
  refine wp_seq ?_
  refine wp_region_lit ?_
  refine wpl_val (.bool false) (.bool false) rfl (by kernel_rfl) (by kernel_rfl) rfl ?_
  refine wpList_nil ?_
  refine then_normal ?_
  refine wp_frame (a' := ⟨#[.int .i64 n, .int .i64 l, .int .i64 h, undef, undef, undef, .bool false, undef, undef, undef, undef, undef, undef, undef, undef], []⟩) (by kernel_rfl) ?_
  refine wp_seq ?_
  refine wp_region_lit ?_
  refine wpl_val (.int .i64 n) (.int .i64 n) rfl (by kernel_rfl) (by kernel_rfl) rfl ?_
  refine wpl_val (.int .i64 l) (.int .i64 l) rfl (by kernel_rfl) (by kernel_rfl) rfl ?_
  refine wpl_val (.bool (decide (n ≥ l))) (.bool (decide (n ≥ l))) rfl (by kernel_rfl) (by kernel_rfl) rfl ?_
  refine wpl_val (.bool (decide (n ≥ l))) (.bool (decide (n ≥ l))) rfl (by kernel_rfl) (by kernel_rfl) rfl ?_
  refine wpl_frame (a' := ⟨#[.int .i64 n, .int .i64 l, .int .i64 h, undef, undef, undef, .bool false, .int .i64 n, .int .i64 l, .bool (decide (n ≥ l)), .bool (decide (n ≥ l)), undef, undef, undef, undef], []⟩) (by kernel_rfl) ?_
  refine split_bool (decide (n ≥ l)) (fun h1 => ?_) (fun h1 => ?_)
  · skip
    refine wpl_frame (a' := ⟨#[.int .i64 n, .int .i64 l, .int .i64 h, undef, undef, undef, .bool false, .int .i64 n, .int .i64 l, .bool true, .bool true, undef, undef, undef, undef], []⟩) (by simp only [h1, Bool.not_true, Bool.not_false]) ?_
    have hk1 := h1
    try simp only [decide_eq_true_eq, decide_eq_false_iff_not, Bool.and_eq_true, Bool.or_eq_true, Bool.and_eq_false_iff, Bool.or_eq_false_iff, Bool.not_eq_true', Bool.not_eq_false', beq_iff_eq, beq_eq_false_iff_ne, bne_iff_ne, bne_eq_false_iff_eq, gt_iff_lt, ge_iff_le, ne_eq, Decidable.not_not, Int.not_lt, Int.not_le] at h1
    refine wpl_val (.int .i64 n) (.int .i64 n) rfl (by kernel_rfl) (by kernel_rfl) rfl ?_
    refine wpl_val (.int .i64 h) (.int .i64 h) rfl (by kernel_rfl) (by kernel_rfl) rfl ?_
    refine wpl_val (.bool (decide (n ≤ h))) (.bool (decide (n ≤ h))) rfl (by kernel_rfl) (by kernel_rfl) rfl ?_
    refine wpl_val (.bool (decide (n ≤ h))) (.bool (decide (n ≤ h))) rfl (by kernel_rfl) (by kernel_rfl) rfl ?_
    refine wpl_val (.bool (decide (n ≤ h))) (.bool (decide (n ≤ h))) rfl (by kernel_rfl) (by kernel_rfl) rfl ?_
    refine wpList_nil ?_
    refine then_normal ?_
    refine wp_frame (a' := ⟨#[.int .i64 n, .int .i64 l, .int .i64 h, undef, undef, undef, .bool (decide (n ≤ h)), .int .i64 n, .int .i64 l, .bool true, .bool true, .int .i64 n, .int .i64 h, .bool (decide (n ≤ h)), .bool (decide (n ≤ h))], []⟩) (by kernel_rfl) ?_
    refine wp_ret ?_
    refine body_frame (a' := ⟨#[.int .i64 n, .int .i64 l, .int .i64 h, undef, undef, undef, .bool (decide (n ≤ h)), .int .i64 n, .int .i64 l, .bool true, .bool true, .int .i64 n, .int .i64 h, .bool (decide (n ≤ h)), .bool (decide (n ≤ h))], []⟩) (by kernel_rfl) ?_
    refine ret1 (.bool (inB n l h)) rfl ?_ rfl ?_
    · show (.bool (decide (n ≤ h)) : Value) = (.bool (inB n l h))
      refine congrArg Value.bool ?_
      unfold inB; simp [*] <;> omega
    exact ⟨rfl, (Ext.refl w)⟩
  · skip
    refine wpl_frame (a' := ⟨#[.int .i64 n, .int .i64 l, .int .i64 h, undef, undef, undef, .bool false, .int .i64 n, .int .i64 l, .bool false, .bool false, undef, undef, undef, undef], []⟩) (by simp only [h1, Bool.not_true, Bool.not_false]) ?_
    have hk2 := h1
    try simp only [decide_eq_true_eq, decide_eq_false_iff_not, Bool.and_eq_true, Bool.or_eq_true, Bool.and_eq_false_iff, Bool.or_eq_false_iff, Bool.not_eq_true', Bool.not_eq_false', beq_iff_eq, beq_eq_false_iff_ne, bne_iff_ne, bne_eq_false_iff_eq, gt_iff_lt, ge_iff_le, ne_eq, Decidable.not_not, Int.not_lt, Int.not_le] at h1
    refine wpl_skip rfl (by kernel_rfl) ?_
    refine wpl_skip rfl (by kernel_rfl) ?_
    refine wpl_skip rfl (by kernel_rfl) ?_
    refine wpl_val (.bool false) (.bool false) rfl (by kernel_rfl) (by kernel_rfl) rfl ?_
    refine wpl_val (.bool false) (.bool false) rfl (by kernel_rfl) (by kernel_rfl) rfl ?_
    refine wpList_nil ?_
    refine then_normal ?_
    refine wp_frame (a' := ⟨#[.int .i64 n, .int .i64 l, .int .i64 h, undef, undef, undef, .bool false, .int .i64 n, .int .i64 l, .bool false, .bool false, undef, undef, undef, .bool false], []⟩) (by kernel_rfl) ?_
    refine wp_ret ?_
    refine body_frame (a' := ⟨#[.int .i64 n, .int .i64 l, .int .i64 h, undef, undef, undef, .bool false, .int .i64 n, .int .i64 l, .bool false, .bool false, undef, undef, undef, .bool false], []⟩) (by kernel_rfl) ?_
    refine ret1 (.bool (inB n l h)) rfl ?_ rfl ?_
    · show (.bool false : Value) = (.bool (inB n l h))
      refine congrArg Value.bool ?_
      unfold inB; simp [*] <;> omega
    exact ⟨rfl, (Ext.refl w)⟩


--# l00In_any
theorem l00In_any (n : Int) (l : Int) (h : Int) (w : World) :
 Calls Try.prog 55 #[.int .i64 n, .int .i64 l, .int .i64 h] w fun e w' => e = .returned (.bool (inB n l h)) ∧ Ext w w' := by
  refine calls_of_wp Try.func55 rfl ?_
  refine wp_frame (a' := ⟨#[.int .i64 n, .int .i64 l, .int .i64 h, undef, undef, undef, undef, undef, undef, undef, undef, undef, undef, undef, undef], []⟩) (by kernel_rfl) ?_
  refine wp_seq ?_
  refine wp_region_lit ?_
  refine wpl_val (.bool false) (.bool false) rfl (by kernel_rfl) (by kernel_rfl) rfl ?_
  refine wpList_nil ?_
  refine then_normal ?_
  refine wp_frame (a' := ⟨#[.int .i64 n, .int .i64 l, .int .i64 h, undef, undef, undef, .bool false, undef, undef, undef, undef, undef, undef, undef, undef], []⟩) (by kernel_rfl) ?_
  refine wp_seq ?_
  refine wp_region_lit ?_
  refine wpl_val (.int .i64 n) (.int .i64 n) rfl (by kernel_rfl) (by kernel_rfl) rfl ?_
  refine wpl_val (.int .i64 l) (.int .i64 l) rfl (by kernel_rfl) (by kernel_rfl) rfl ?_
  refine wpl_val (.bool (decide (n ≥ l))) (.bool (decide (n ≥ l))) rfl (by kernel_rfl) (by kernel_rfl) rfl ?_
  refine wpl_val (.bool (decide (n ≥ l))) (.bool (decide (n ≥ l))) rfl (by kernel_rfl) (by kernel_rfl) rfl ?_
  refine wpl_frame (a' := ⟨#[.int .i64 n, .int .i64 l, .int .i64 h, undef, undef, undef, .bool false, .int .i64 n, .int .i64 l, .bool (decide (n ≥ l)), .bool (decide (n ≥ l)), undef, undef, undef, undef], []⟩) (by kernel_rfl) ?_
  refine split_bool (decide (n ≥ l)) (fun h1 => ?_) (fun h1 => ?_)
  · skip
    refine wpl_frame (a' := ⟨#[.int .i64 n, .int .i64 l, .int .i64 h, undef, undef, undef, .bool false, .int .i64 n, .int .i64 l, .bool true, .bool true, undef, undef, undef, undef], []⟩) (by simp only [h1, Bool.not_true, Bool.not_false]) ?_
    have hk1 := h1
    try simp only [decide_eq_true_eq, decide_eq_false_iff_not, Bool.and_eq_true, Bool.or_eq_true, Bool.and_eq_false_iff, Bool.or_eq_false_iff, Bool.not_eq_true', Bool.not_eq_false', beq_iff_eq, beq_eq_false_iff_ne, bne_iff_ne, bne_eq_false_iff_eq, gt_iff_lt, ge_iff_le, ne_eq, Decidable.not_not, Int.not_lt, Int.not_le] at h1
    refine wpl_val (.int .i64 n) (.int .i64 n) rfl (by kernel_rfl) (by kernel_rfl) rfl ?_
    refine wpl_val (.int .i64 h) (.int .i64 h) rfl (by kernel_rfl) (by kernel_rfl) rfl ?_
    refine wpl_val (.bool (decide (n ≤ h))) (.bool (decide (n ≤ h))) rfl (by kernel_rfl) (by kernel_rfl) rfl ?_
    refine wpl_val (.bool (decide (n ≤ h))) (.bool (decide (n ≤ h))) rfl (by kernel_rfl) (by kernel_rfl) rfl ?_
    refine wpl_val (.bool (decide (n ≤ h))) (.bool (decide (n ≤ h))) rfl (by kernel_rfl) (by kernel_rfl) rfl ?_
    refine wpList_nil ?_
    refine then_normal ?_
    refine wp_frame (a' := ⟨#[.int .i64 n, .int .i64 l, .int .i64 h, undef, undef, undef, .bool (decide (n ≤ h)), .int .i64 n, .int .i64 l, .bool true, .bool true, .int .i64 n, .int .i64 h, .bool (decide (n ≤ h)), .bool (decide (n ≤ h))], []⟩) (by kernel_rfl) ?_
    refine wp_ret ?_
    refine body_frame (a' := ⟨#[.int .i64 n, .int .i64 l, .int .i64 h, undef, undef, undef, .bool (decide (n ≤ h)), .int .i64 n, .int .i64 l, .bool true, .bool true, .int .i64 n, .int .i64 h, .bool (decide (n ≤ h)), .bool (decide (n ≤ h))], []⟩) (by kernel_rfl) ?_
    refine ret1 (.bool (inB n l h)) rfl ?_ rfl ?_
    · show (.bool (decide (n ≤ h)) : Value) = (.bool (inB n l h))
      refine congrArg Value.bool ?_
      unfold inB; simp [*] <;> omega
    exact ⟨rfl, (Ext.refl w)⟩
  · skip
    refine wpl_frame (a' := ⟨#[.int .i64 n, .int .i64 l, .int .i64 h, undef, undef, undef, .bool false, .int .i64 n, .int .i64 l, .bool false, .bool false, undef, undef, undef, undef], []⟩) (by simp only [h1, Bool.not_true, Bool.not_false]) ?_
    have hk2 := h1
    try simp only [decide_eq_true_eq, decide_eq_false_iff_not, Bool.and_eq_true, Bool.or_eq_true, Bool.and_eq_false_iff, Bool.or_eq_false_iff, Bool.not_eq_true', Bool.not_eq_false', beq_iff_eq, beq_eq_false_iff_ne, bne_iff_ne, bne_eq_false_iff_eq, gt_iff_lt, ge_iff_le, ne_eq, Decidable.not_not, Int.not_lt, Int.not_le] at h1
    refine wpl_skip rfl (by kernel_rfl) ?_
    refine wpl_skip rfl (by kernel_rfl) ?_
    refine wpl_skip rfl (by kernel_rfl) ?_
    refine wpl_val (.bool false) (.bool false) rfl (by kernel_rfl) (by kernel_rfl) rfl ?_
    refine wpl_val (.bool false) (.bool false) rfl (by kernel_rfl) (by kernel_rfl) rfl ?_
    refine wpList_nil ?_
    refine then_normal ?_
    refine wp_frame (a' := ⟨#[.int .i64 n, .int .i64 l, .int .i64 h, undef, undef, undef, .bool false, .int .i64 n, .int .i64 l, .bool false, .bool false, undef, undef, undef, .bool false], []⟩) (by kernel_rfl) ?_
    refine wp_ret ?_
    refine body_frame (a' := ⟨#[.int .i64 n, .int .i64 l, .int .i64 h, undef, undef, undef, .bool false, .int .i64 n, .int .i64 l, .bool false, .bool false, undef, undef, undef, .bool false], []⟩) (by kernel_rfl) ?_
    refine ret1 (.bool (inB n l h)) rfl ?_ rfl ?_
    · show (.bool false : Value) = (.bool (inB n l h))
      refine congrArg Value.bool ?_
      unfold inB; simp [*] <;> omega
    exact ⟨rfl, (Ext.refl w)⟩


--# isKind_any
theorem isKind_any (n : Int) (w : World) :
 Calls Try.prog 76 #[.int .i64 n] w fun e w' => e = .returned (.bool (inB n 0 3)) ∧ Ext w w' := by
  refine calls_of_wp Try.func76 rfl ?_
  refine wp_frame (a' := ⟨#[.int .i64 n, undef, undef, undef, undef], []⟩) (by kernel_rfl) ?_
  refine wp_seq ?_
  refine wp_region_lit ?_
  refine wpl_val (.bool false) (.bool false) rfl (by kernel_rfl) (by kernel_rfl) rfl ?_
  refine wpList_nil ?_
  refine then_normal ?_
  refine wp_frame (a' := ⟨#[.int .i64 n, undef, .bool false, undef, undef], []⟩) (by kernel_rfl) ?_
  refine wp_seq ?_
  refine wp_region_lit ?_
  refine wpl_val (.int .i64 n) (.int .i64 n) rfl (by kernel_rfl) (by kernel_rfl) rfl ?_
  refine wpl_call (53) #[.int .i64 n, .int .i64 0, .int .i64 3] rfl (by kernel_rfl) (by kernel_rfl) (within_any _ _ _ _) ?_
  intro w1 E1
  have H1 := ((Ext.refl w)).trans E1
  clear E1
  refine wpl_val (.bool (inB n 0 3)) (.bool (inB n 0 3)) rfl (by kernel_rfl) (by kernel_rfl) rfl ?_
  refine wpList_nil ?_
  refine then_normal ?_
  refine wp_frame (a' := ⟨#[.int .i64 n, undef, .bool (inB n 0 3), .int .i64 n, .bool (inB n 0 3)], []⟩) (by kernel_rfl) ?_
  refine wp_ret ?_
  refine body_frame (a' := ⟨#[.int .i64 n, undef, .bool (inB n 0 3), .int .i64 n, .bool (inB n 0 3)], []⟩) (by kernel_rfl) ?_
  refine ret1 (.bool (inB n 0 3)) rfl ?_ rfl ?_
  · show (.bool (inB n 0 3) : Value) = (.bool (inB n 0 3))
    rfl
  exact ⟨rfl, H1⟩


--# l01Kind_any
theorem l01Kind_any (n : Int) (w : World) :
 Calls Try.prog 73 #[.int .i64 n] w fun e w' => e = .returned (.bool (inB n 0 3)) ∧ Ext w w' := by
  refine calls_of_wp Try.func73 rfl ?_
  refine wp_frame (a' := ⟨#[.int .i64 n, undef, undef, undef, undef], []⟩) (by kernel_rfl) ?_
  refine wp_seq ?_
  refine wp_region_lit ?_
  refine wpl_val (.bool false) (.bool false) rfl (by kernel_rfl) (by kernel_rfl) rfl ?_
  refine wpList_nil ?_
  refine then_normal ?_
  refine wp_frame (a' := ⟨#[.int .i64 n, undef, .bool false, undef, undef], []⟩) (by kernel_rfl) ?_
  refine wp_seq ?_
  refine wp_region_lit ?_
  refine wpl_val (.int .i64 n) (.int .i64 n) rfl (by kernel_rfl) (by kernel_rfl) rfl ?_
  refine wpl_call (55) #[.int .i64 n, .int .i64 0, .int .i64 3] rfl (by kernel_rfl) (by kernel_rfl) (l00In_any _ _ _ _) ?_
  intro w1 E1
  have H1 := ((Ext.refl w)).trans E1
  clear E1
  refine wpl_val (.bool (inB n 0 3)) (.bool (inB n 0 3)) rfl (by kernel_rfl) (by kernel_rfl) rfl ?_
  refine wpList_nil ?_
  refine then_normal ?_
  refine wp_frame (a' := ⟨#[.int .i64 n, undef, .bool (inB n 0 3), .int .i64 n, .bool (inB n 0 3)], []⟩) (by kernel_rfl) ?_
  refine wp_ret ?_
  refine body_frame (a' := ⟨#[.int .i64 n, undef, .bool (inB n 0 3), .int .i64 n, .bool (inB n 0 3)], []⟩) (by kernel_rfl) ?_
  refine ret1 (.bool (inB n 0 3)) rfl ?_ rfl ?_
  · show (.bool (inB n 0 3) : Value) = (.bool (inB n 0 3))
    rfl
  exact ⟨rfl, H1⟩


--# l01Seeds_any
theorem l01Seeds_any (n : Int) (w : World) :
 Calls Try.prog 56 #[.int .i64 n] w fun e w' => e = .returned (.bool (inB n 0 1000)) ∧ Ext w w' := by
  refine calls_of_wp Try.func56 rfl ?_
  refine wp_frame (a' := ⟨#[.int .i64 n, undef, undef, undef, undef], []⟩) (by kernel_rfl) ?_
  refine wp_seq ?_
  refine wp_region_lit ?_
  refine wpl_val (.bool false) (.bool false) rfl (by kernel_rfl) (by kernel_rfl) rfl ?_
  refine wpList_nil ?_
  refine then_normal ?_
  refine wp_frame (a' := ⟨#[.int .i64 n, undef, .bool false, undef, undef], []⟩) (by kernel_rfl) ?_
  refine wp_seq ?_
  refine wp_region_lit ?_
  refine wpl_val (.int .i64 n) (.int .i64 n) rfl (by kernel_rfl) (by kernel_rfl) rfl ?_
  refine wpl_call (55) #[.int .i64 n, .int .i64 0, .int .i64 1000] rfl (by kernel_rfl) (by kernel_rfl) (l00In_any _ _ _ _) ?_
  intro w1 E1
  have H1 := ((Ext.refl w)).trans E1
  clear E1
  refine wpl_val (.bool (inB n 0 1000)) (.bool (inB n 0 1000)) rfl (by kernel_rfl) (by kernel_rfl) rfl ?_
  refine wpList_nil ?_
  refine then_normal ?_
  refine wp_frame (a' := ⟨#[.int .i64 n, undef, .bool (inB n 0 1000), .int .i64 n, .bool (inB n 0 1000)], []⟩) (by kernel_rfl) ?_
  refine wp_ret ?_
  refine body_frame (a' := ⟨#[.int .i64 n, undef, .bool (inB n 0 1000), .int .i64 n, .bool (inB n 0 1000)], []⟩) (by kernel_rfl) ?_
  refine ret1 (.bool (inB n 0 1000)) rfl ?_ rfl ?_
  · show (.bool (inB n 0 1000) : Value) = (.bool (inB n 0 1000))
    rfl
  exact ⟨rfl, H1⟩


--# has_any
theorem has_any (F : Fld) (hF : F.wf) (b : Nat) (t : TypeId) (c : Int) (w : World) (hb : Blk w b t F.cells) :
 Calls Try.prog 54 #[.pointer (some ⟨b, 0, none⟩), .int .i64 c] w fun e w' => e = .returned (.bool (isB F c)) ∧ Ext w w' := by
  have w1_ := hF.w1
  have w2_ := hF.w2
  have h1_ := hF.h1
  have h2_ := hF.h2
  have lt_b := hb.lt
  refine calls_of_wp Try.func54 rfl ?_
  refine wp_frame (a' := ⟨#[.pointer (some ⟨b, 0, none⟩), .int .i64 c, undef, undef, undef, undef, undef, undef, undef, undef, undef, undef, undef, undef, undef, undef, undef, undef, undef, undef, undef, undef, undef, undef, undef, undef, undef], []⟩) (by kernel_rfl) ?_
  refine wp_seq ?_
  refine wp_region_lit ?_
  refine wpl_val (.bool false) (.bool false) rfl (by kernel_rfl) (by kernel_rfl) rfl ?_
  refine wpList_nil ?_
  refine then_normal ?_
  refine wp_frame (a' := ⟨#[.pointer (some ⟨b, 0, none⟩), .int .i64 c, undef, undef, .bool false, undef, undef, undef, undef, undef, undef, undef, undef, undef, undef, undef, undef, undef, undef, undef, undef, undef, undef, undef, undef, undef, undef], []⟩) (by kernel_rfl) ?_
  refine wp_seq ?_
  refine wp_region_lit ?_
  refine wpl_val (.int .i64 c) (.int .i64 c) rfl (by kernel_rfl) (by kernel_rfl) rfl ?_
  refine wpl_call (53) #[.int .i64 c, .int .i64 0, .int .i64 99] rfl (by kernel_rfl) (by kernel_rfl) (within_any _ _ _ _) ?_
  intro w1 E1
  replace hb := hb.ext E1
  have H1 := ((Ext.refl w)).trans E1
  clear E1
  refine wpl_val (.bool (inB c 0 99)) (.bool (inB c 0 99)) rfl (by kernel_rfl) (by kernel_rfl) rfl ?_
  refine wpl_frame (a' := ⟨#[.pointer (some ⟨b, 0, none⟩), .int .i64 c, undef, undef, .bool false, .int .i64 c, .bool (inB c 0 99), .bool (inB c 0 99), undef, undef, undef, undef, undef, undef, undef, undef, undef, undef, undef, undef, undef, undef, undef, undef, undef, undef, undef], []⟩) (by kernel_rfl) ?_
  refine split_bool (inB c 0 99) (fun h1 => ?_) (fun h1 => ?_)
  · skip
    refine wpl_frame (a' := ⟨#[.pointer (some ⟨b, 0, none⟩), .int .i64 c, undef, undef, .bool false, .int .i64 c, .bool true, .bool true, undef, undef, undef, undef, undef, undef, undef, undef, undef, undef, undef, undef, undef, undef, undef, undef, undef, undef, undef], []⟩) (by simp only [h1, Bool.not_true, Bool.not_false]) ?_
    have hk1 := h1
    try simp only [decide_eq_true_eq, decide_eq_false_iff_not, Bool.and_eq_true, Bool.or_eq_true, Bool.and_eq_false_iff, Bool.or_eq_false_iff, Bool.not_eq_true', Bool.not_eq_false', beq_iff_eq, beq_eq_false_iff_ne, bne_iff_ne, bne_eq_false_iff_eq, gt_iff_lt, ge_iff_le, ne_eq, Decidable.not_not, Int.not_lt, Int.not_le, inB] at h1
    refine wpl_val (.int .i64 c) (.int .i64 c) rfl (by kernel_rfl) (by kernel_rfl) rfl ?_
    refine wpl_val (.int .i64 (Int.tmod c 10)) (.int .i64 (c % 10)) rfl (by kernel_rfl) (by kernel_rfl) (by exact congrArg _ (Int.tmod_eq_emod_of_nonneg (by omega))) ?_
    refine wpl_val (.pointer (some ⟨b, 0, none⟩)) (.pointer (some ⟨b, 0, none⟩)) rfl (by kernel_rfl) (by kernel_rfl) rfl ?_
    refine wpl_val (.pointer (some ⟨b, 0, none⟩)) (.pointer (some ⟨b, 0, none⟩)) rfl (by kernel_rfl) (by kernel_rfl) rfl ?_
    refine wpl_val (.pointer (some ⟨b, 0, none⟩)) (.pointer (some ⟨b, 0, none⟩)) rfl (by kernel_rfl) (by kernel_rfl) rfl ?_
    refine wpl_cell (g := b) (off := 0) (.int .i8 F.w) rfl (by kernel_rfl) scal_int8 rfl (by kernel_rfl) (by rw [hb.cell]; exact Fld.get0 _) ?_
    refine wpl_val (.int .i64 (IntKind.i64.wrap F.w)) (.int .i64 F.w) rfl (by kernel_rfl) (by kernel_rfl) (by exact congrArg _ (IntWalk.i64_in _ (by omega))) ?_
    refine wpl_val (.bool (decide (c % 10 < F.w))) (.bool (decide (c % 10 < F.w))) rfl (by kernel_rfl) (by kernel_rfl) rfl ?_
    refine wpl_val (.bool (decide (c % 10 < F.w))) (.bool (decide (c % 10 < F.w))) rfl (by kernel_rfl) (by kernel_rfl) rfl ?_
    refine wpl_val (.bool (decide (c % 10 < F.w))) (.bool (decide (c % 10 < F.w))) rfl (by kernel_rfl) (by kernel_rfl) rfl ?_
    refine wpl_frame (a' := ⟨#[.pointer (some ⟨b, 0, none⟩), .int .i64 c, undef, undef, .bool false, .int .i64 c, .bool true, .bool true, .int .i64 c, .int .i64 (c % 10), .pointer (some ⟨b, 0, none⟩), .pointer (some ⟨b, 0, none⟩), .pointer (some ⟨b, 0, none⟩), .int .i8 F.w, .int .i64 F.w, .bool (decide (c % 10 < F.w)), .bool (decide (c % 10 < F.w)), .bool (decide (c % 10 < F.w)), undef, undef, undef, undef, undef, undef, undef, undef, undef], []⟩) (by kernel_rfl) ?_
    refine split_bool (decide (c % 10 < F.w)) (fun h2 => ?_) (fun h2 => ?_)
    · skip
      refine wpl_frame (a' := ⟨#[.pointer (some ⟨b, 0, none⟩), .int .i64 c, undef, undef, .bool false, .int .i64 c, .bool true, .bool true, .int .i64 c, .int .i64 (c % 10), .pointer (some ⟨b, 0, none⟩), .pointer (some ⟨b, 0, none⟩), .pointer (some ⟨b, 0, none⟩), .int .i8 F.w, .int .i64 F.w, .bool true, .bool true, .bool true, undef, undef, undef, undef, undef, undef, undef, undef, undef], []⟩) (by simp only [h2, Bool.not_true, Bool.not_false]) ?_
      have hk2 := h2
      try simp only [decide_eq_true_eq, decide_eq_false_iff_not, Bool.and_eq_true, Bool.or_eq_true, Bool.and_eq_false_iff, Bool.or_eq_false_iff, Bool.not_eq_true', Bool.not_eq_false', beq_iff_eq, beq_eq_false_iff_ne, bne_iff_ne, bne_eq_false_iff_eq, gt_iff_lt, ge_iff_le, ne_eq, Decidable.not_not, Int.not_lt, Int.not_le, inB] at h2
      refine wpl_val (.int .i64 c) (.int .i64 c) rfl (by kernel_rfl) (by kernel_rfl) rfl ?_
      refine wpl_val (.int .i64 (IntKind.i64.wrap (Int.tdiv c 10))) (.int .i64 (c / 10)) rfl (by kernel_rfl) (by kernel_rfl) (by exact congrArg _ (quo_in (by omega) (by omega))) ?_
      refine wpl_val (.pointer (some ⟨b, 0, none⟩)) (.pointer (some ⟨b, 0, none⟩)) rfl (by kernel_rfl) (by kernel_rfl) rfl ?_
      refine wpl_val (.pointer (some ⟨b, 0, none⟩)) (.pointer (some ⟨b, 0, none⟩)) rfl (by kernel_rfl) (by kernel_rfl) rfl ?_
      refine wpl_val (.pointer (some ⟨b, 1, none⟩)) (.pointer (some ⟨b, 1, none⟩)) rfl (by kernel_rfl) (by kernel_rfl) rfl ?_
      refine wpl_cell (g := b) (off := 1) (.int .i8 F.h) rfl (by kernel_rfl) scal_int8 rfl (by kernel_rfl) (by rw [hb.cell]; exact Fld.get1 _) ?_
      refine wpl_val (.int .i64 (IntKind.i64.wrap F.h)) (.int .i64 F.h) rfl (by kernel_rfl) (by kernel_rfl) (by exact congrArg _ (IntWalk.i64_in _ (by omega))) ?_
      refine wpl_val (.bool (decide (c / 10 < F.h))) (.bool (decide (c / 10 < F.h))) rfl (by kernel_rfl) (by kernel_rfl) rfl ?_
      refine wpl_val (.bool (decide (c / 10 < F.h))) (.bool (decide (c / 10 < F.h))) rfl (by kernel_rfl) (by kernel_rfl) rfl ?_
      refine wpl_val (.bool (decide (c / 10 < F.h))) (.bool (decide (c / 10 < F.h))) rfl (by kernel_rfl) (by kernel_rfl) rfl ?_
      refine wpList_nil ?_
      refine then_normal ?_
      refine wp_frame (a' := ⟨#[.pointer (some ⟨b, 0, none⟩), .int .i64 c, undef, undef, .bool (decide (c / 10 < F.h)), .int .i64 c, .bool true, .bool true, .int .i64 c, .int .i64 (c % 10), .pointer (some ⟨b, 0, none⟩), .pointer (some ⟨b, 0, none⟩), .pointer (some ⟨b, 0, none⟩), .int .i8 F.w, .int .i64 F.w, .bool true, .bool true, .bool true, .int .i64 c, .int .i64 (c / 10), .pointer (some ⟨b, 0, none⟩), .pointer (some ⟨b, 0, none⟩), .pointer (some ⟨b, 1, none⟩), .int .i8 F.h, .int .i64 F.h, .bool (decide (c / 10 < F.h)), .bool (decide (c / 10 < F.h))], []⟩) (by kernel_rfl) ?_
      refine wp_ret ?_
      refine body_frame (a' := ⟨#[.pointer (some ⟨b, 0, none⟩), .int .i64 c, undef, undef, .bool (decide (c / 10 < F.h)), .int .i64 c, .bool true, .bool true, .int .i64 c, .int .i64 (c % 10), .pointer (some ⟨b, 0, none⟩), .pointer (some ⟨b, 0, none⟩), .pointer (some ⟨b, 0, none⟩), .int .i8 F.w, .int .i64 F.w, .bool true, .bool true, .bool true, .int .i64 c, .int .i64 (c / 10), .pointer (some ⟨b, 0, none⟩), .pointer (some ⟨b, 0, none⟩), .pointer (some ⟨b, 1, none⟩), .int .i8 F.h, .int .i64 F.h, .bool (decide (c / 10 < F.h)), .bool (decide (c / 10 < F.h))], []⟩) (by kernel_rfl) ?_
      refine ret1 (.bool (isB F c)) rfl ?_ rfl ?_
      · show (.bool (decide (c / 10 < F.h)) : Value) = (.bool (isB F c))
        refine congrArg Value.bool ?_
        first | exact (isB_out (by omega)).symm | (rw [isB_eq]; simp [*] <;> (intros; omega))
      exact ⟨rfl, H1⟩
    · skip
      refine wpl_frame (a' := ⟨#[.pointer (some ⟨b, 0, none⟩), .int .i64 c, undef, undef, .bool false, .int .i64 c, .bool true, .bool true, .int .i64 c, .int .i64 (c % 10), .pointer (some ⟨b, 0, none⟩), .pointer (some ⟨b, 0, none⟩), .pointer (some ⟨b, 0, none⟩), .int .i8 F.w, .int .i64 F.w, .bool false, .bool false, .bool false, undef, undef, undef, undef, undef, undef, undef, undef, undef], []⟩) (by simp only [h2, Bool.not_true, Bool.not_false]) ?_
      have hk3 := h2
      try simp only [decide_eq_true_eq, decide_eq_false_iff_not, Bool.and_eq_true, Bool.or_eq_true, Bool.and_eq_false_iff, Bool.or_eq_false_iff, Bool.not_eq_true', Bool.not_eq_false', beq_iff_eq, beq_eq_false_iff_ne, bne_iff_ne, bne_eq_false_iff_eq, gt_iff_lt, ge_iff_le, ne_eq, Decidable.not_not, Int.not_lt, Int.not_le, inB] at h2
      refine wpl_skip rfl (by kernel_rfl) ?_
      refine wpl_skip rfl (by kernel_rfl) ?_
      refine wpl_skip rfl (by kernel_rfl) ?_
      refine wpl_skip rfl (by kernel_rfl) ?_
      refine wpl_skip rfl (by kernel_rfl) ?_
      refine wpl_skip rfl (by kernel_rfl) ?_
      refine wpl_skip rfl (by kernel_rfl) ?_
      refine wpl_skip rfl (by kernel_rfl) ?_
      refine wpl_val (.bool false) (.bool false) rfl (by kernel_rfl) (by kernel_rfl) rfl ?_
      refine wpl_val (.bool false) (.bool false) rfl (by kernel_rfl) (by kernel_rfl) rfl ?_
      refine wpList_nil ?_
      refine then_normal ?_
      refine wp_frame (a' := ⟨#[.pointer (some ⟨b, 0, none⟩), .int .i64 c, undef, undef, .bool false, .int .i64 c, .bool true, .bool true, .int .i64 c, .int .i64 (c % 10), .pointer (some ⟨b, 0, none⟩), .pointer (some ⟨b, 0, none⟩), .pointer (some ⟨b, 0, none⟩), .int .i8 F.w, .int .i64 F.w, .bool false, .bool false, .bool false, undef, undef, undef, undef, undef, undef, undef, undef, .bool false], []⟩) (by kernel_rfl) ?_
      refine wp_ret ?_
      refine body_frame (a' := ⟨#[.pointer (some ⟨b, 0, none⟩), .int .i64 c, undef, undef, .bool false, .int .i64 c, .bool true, .bool true, .int .i64 c, .int .i64 (c % 10), .pointer (some ⟨b, 0, none⟩), .pointer (some ⟨b, 0, none⟩), .pointer (some ⟨b, 0, none⟩), .int .i8 F.w, .int .i64 F.w, .bool false, .bool false, .bool false, undef, undef, undef, undef, undef, undef, undef, undef, .bool false], []⟩) (by kernel_rfl) ?_
      refine ret1 (.bool (isB F c)) rfl ?_ rfl ?_
      · show (.bool false : Value) = (.bool (isB F c))
        refine congrArg Value.bool ?_
        first | exact (isB_out (by omega)).symm | (rw [isB_eq]; simp [*] <;> (intros; omega))
      exact ⟨rfl, H1⟩
  · skip
    refine wpl_frame (a' := ⟨#[.pointer (some ⟨b, 0, none⟩), .int .i64 c, undef, undef, .bool false, .int .i64 c, .bool false, .bool false, undef, undef, undef, undef, undef, undef, undef, undef, undef, undef, undef, undef, undef, undef, undef, undef, undef, undef, undef], []⟩) (by simp only [h1, Bool.not_true, Bool.not_false]) ?_
    have hk4 := h1
    try simp only [decide_eq_true_eq, decide_eq_false_iff_not, Bool.and_eq_true, Bool.or_eq_true, Bool.and_eq_false_iff, Bool.or_eq_false_iff, Bool.not_eq_true', Bool.not_eq_false', beq_iff_eq, beq_eq_false_iff_ne, bne_iff_ne, bne_eq_false_iff_eq, gt_iff_lt, ge_iff_le, ne_eq, Decidable.not_not, Int.not_lt, Int.not_le, inB] at h1
    refine wpl_skip rfl (by kernel_rfl) ?_
    refine wpl_skip rfl (by kernel_rfl) ?_
    refine wpl_skip rfl (by kernel_rfl) ?_
    refine wpl_skip rfl (by kernel_rfl) ?_
    refine wpl_skip rfl (by kernel_rfl) ?_
    refine wpl_skip rfl (by kernel_rfl) ?_
    refine wpl_skip rfl (by kernel_rfl) ?_
    refine wpl_skip rfl (by kernel_rfl) ?_
    refine wpl_val (.bool false) (.bool false) rfl (by kernel_rfl) (by kernel_rfl) rfl ?_
    refine wpl_val (.bool false) (.bool false) rfl (by kernel_rfl) (by kernel_rfl) rfl ?_
    refine wpl_skip rfl (by kernel_rfl) ?_
    refine wpl_skip rfl (by kernel_rfl) ?_
    refine wpl_skip rfl (by kernel_rfl) ?_
    refine wpl_skip rfl (by kernel_rfl) ?_
    refine wpl_skip rfl (by kernel_rfl) ?_
    refine wpl_skip rfl (by kernel_rfl) ?_
    refine wpl_skip rfl (by kernel_rfl) ?_
    refine wpl_skip rfl (by kernel_rfl) ?_
    refine wpl_val (.bool false) (.bool false) rfl (by kernel_rfl) (by kernel_rfl) rfl ?_
    refine wpl_val (.bool false) (.bool false) rfl (by kernel_rfl) (by kernel_rfl) rfl ?_
    refine wpList_nil ?_
    refine then_normal ?_
    refine wp_frame (a' := ⟨#[.pointer (some ⟨b, 0, none⟩), .int .i64 c, undef, undef, .bool false, .int .i64 c, .bool false, .bool false, undef, undef, undef, undef, undef, undef, undef, undef, .bool false, .bool false, undef, undef, undef, undef, undef, undef, undef, undef, .bool false], []⟩) (by kernel_rfl) ?_
    refine wp_ret ?_
    refine body_frame (a' := ⟨#[.pointer (some ⟨b, 0, none⟩), .int .i64 c, undef, undef, .bool false, .int .i64 c, .bool false, .bool false, undef, undef, undef, undef, undef, undef, undef, undef, .bool false, .bool false, undef, undef, undef, undef, undef, undef, undef, undef, .bool false], []⟩) (by kernel_rfl) ?_
    refine ret1 (.bool (isB F c)) rfl ?_ rfl ?_
    · show (.bool false : Value) = (.bool (isB F c))
      refine congrArg Value.bool ?_
      first | exact (isB_out (by omega)).symm | (rw [isB_eq]; simp [*] <;> (intros; omega))
    exact ⟨rfl, H1⟩


--# l01Is_any
theorem l01Is_any (F : Fld) (hF : F.wf) (b : Nat) (t : TypeId) (c : Int) (w : World) (hb : Blk w b t F.cells) :
 Calls Try.prog 57 #[.pointer (some ⟨b, 0, none⟩), .int .i64 c] w fun e w' => e = .returned (.bool (isB F c)) ∧ Ext w w' := by
  have w1_ := hF.w1
  have w2_ := hF.w2
  have h1_ := hF.h1
  have h2_ := hF.h2
  have lt_b := hb.lt
  refine calls_of_wp Try.func57 rfl ?_
  refine wp_frame (a' := ⟨#[.pointer (some ⟨b, 0, none⟩), .int .i64 c, undef, undef, undef, undef, undef, undef, undef, undef, undef, undef, undef, undef, undef, undef, undef, undef, undef, undef, undef, undef, undef, undef, undef, undef, undef], []⟩) (by kernel_rfl) ?_
  refine wp_seq ?_
  refine wp_region_lit ?_
  refine wpl_val (.bool false) (.bool false) rfl (by kernel_rfl) (by kernel_rfl) rfl ?_
  refine wpList_nil ?_
  refine then_normal ?_
  refine wp_frame (a' := ⟨#[.pointer (some ⟨b, 0, none⟩), .int .i64 c, undef, undef, .bool false, undef, undef, undef, undef, undef, undef, undef, undef, undef, undef, undef, undef, undef, undef, undef, undef, undef, undef, undef, undef, undef, undef], []⟩) (by kernel_rfl) ?_
  refine wp_seq ?_
  refine wp_region_lit ?_
  refine wpl_val (.int .i64 c) (.int .i64 c) rfl (by kernel_rfl) (by kernel_rfl) rfl ?_
  refine wpl_call (55) #[.int .i64 c, .int .i64 0, .int .i64 99] rfl (by kernel_rfl) (by kernel_rfl) (l00In_any _ _ _ _) ?_
  intro w1 E1
  replace hb := hb.ext E1
  have H1 := ((Ext.refl w)).trans E1
  clear E1
  refine wpl_val (.bool (inB c 0 99)) (.bool (inB c 0 99)) rfl (by kernel_rfl) (by kernel_rfl) rfl ?_
  refine wpl_frame (a' := ⟨#[.pointer (some ⟨b, 0, none⟩), .int .i64 c, undef, undef, .bool false, .int .i64 c, .bool (inB c 0 99), .bool (inB c 0 99), undef, undef, undef, undef, undef, undef, undef, undef, undef, undef, undef, undef, undef, undef, undef, undef, undef, undef, undef], []⟩) (by kernel_rfl) ?_
  refine split_bool (inB c 0 99) (fun h1 => ?_) (fun h1 => ?_)
  · skip
    refine wpl_frame (a' := ⟨#[.pointer (some ⟨b, 0, none⟩), .int .i64 c, undef, undef, .bool false, .int .i64 c, .bool true, .bool true, undef, undef, undef, undef, undef, undef, undef, undef, undef, undef, undef, undef, undef, undef, undef, undef, undef, undef, undef], []⟩) (by simp only [h1, Bool.not_true, Bool.not_false]) ?_
    have hk1 := h1
    try simp only [decide_eq_true_eq, decide_eq_false_iff_not, Bool.and_eq_true, Bool.or_eq_true, Bool.and_eq_false_iff, Bool.or_eq_false_iff, Bool.not_eq_true', Bool.not_eq_false', beq_iff_eq, beq_eq_false_iff_ne, bne_iff_ne, bne_eq_false_iff_eq, gt_iff_lt, ge_iff_le, ne_eq, Decidable.not_not, Int.not_lt, Int.not_le, inB] at h1
    refine wpl_val (.int .i64 c) (.int .i64 c) rfl (by kernel_rfl) (by kernel_rfl) rfl ?_
    refine wpl_val (.int .i64 (Int.tmod c 10)) (.int .i64 (c % 10)) rfl (by kernel_rfl) (by kernel_rfl) (by exact congrArg _ (Int.tmod_eq_emod_of_nonneg (by omega))) ?_
    refine wpl_val (.pointer (some ⟨b, 0, none⟩)) (.pointer (some ⟨b, 0, none⟩)) rfl (by kernel_rfl) (by kernel_rfl) rfl ?_
    refine wpl_val (.pointer (some ⟨b, 0, none⟩)) (.pointer (some ⟨b, 0, none⟩)) rfl (by kernel_rfl) (by kernel_rfl) rfl ?_
    refine wpl_val (.pointer (some ⟨b, 0, none⟩)) (.pointer (some ⟨b, 0, none⟩)) rfl (by kernel_rfl) (by kernel_rfl) rfl ?_
    refine wpl_cell (g := b) (off := 0) (.int .i8 F.w) rfl (by kernel_rfl) scal_int8 rfl (by kernel_rfl) (by rw [hb.cell]; exact Fld.get0 _) ?_
    refine wpl_val (.int .i64 (IntKind.i64.wrap F.w)) (.int .i64 F.w) rfl (by kernel_rfl) (by kernel_rfl) (by exact congrArg _ (IntWalk.i64_in _ (by omega))) ?_
    refine wpl_val (.bool (decide (c % 10 < F.w))) (.bool (decide (c % 10 < F.w))) rfl (by kernel_rfl) (by kernel_rfl) rfl ?_
    refine wpl_val (.bool (decide (c % 10 < F.w))) (.bool (decide (c % 10 < F.w))) rfl (by kernel_rfl) (by kernel_rfl) rfl ?_
    refine wpl_val (.bool (decide (c % 10 < F.w))) (.bool (decide (c % 10 < F.w))) rfl (by kernel_rfl) (by kernel_rfl) rfl ?_
    refine wpl_frame (a' := ⟨#[.pointer (some ⟨b, 0, none⟩), .int .i64 c, undef, undef, .bool false, .int .i64 c, .bool true, .bool true, .int .i64 c, .int .i64 (c % 10), .pointer (some ⟨b, 0, none⟩), .pointer (some ⟨b, 0, none⟩), .pointer (some ⟨b, 0, none⟩), .int .i8 F.w, .int .i64 F.w, .bool (decide (c % 10 < F.w)), .bool (decide (c % 10 < F.w)), .bool (decide (c % 10 < F.w)), undef, undef, undef, undef, undef, undef, undef, undef, undef], []⟩) (by kernel_rfl) ?_
    refine split_bool (decide (c % 10 < F.w)) (fun h2 => ?_) (fun h2 => ?_)
    · skip
      refine wpl_frame (a' := ⟨#[.pointer (some ⟨b, 0, none⟩), .int .i64 c, undef, undef, .bool false, .int .i64 c, .bool true, .bool true, .int .i64 c, .int .i64 (c % 10), .pointer (some ⟨b, 0, none⟩), .pointer (some ⟨b, 0, none⟩), .pointer (some ⟨b, 0, none⟩), .int .i8 F.w, .int .i64 F.w, .bool true, .bool true, .bool true, undef, undef, undef, undef, undef, undef, undef, undef, undef], []⟩) (by simp only [h2, Bool.not_true, Bool.not_false]) ?_
      have hk2 := h2
      try simp only [decide_eq_true_eq, decide_eq_false_iff_not, Bool.and_eq_true, Bool.or_eq_true, Bool.and_eq_false_iff, Bool.or_eq_false_iff, Bool.not_eq_true', Bool.not_eq_false', beq_iff_eq, beq_eq_false_iff_ne, bne_iff_ne, bne_eq_false_iff_eq, gt_iff_lt, ge_iff_le, ne_eq, Decidable.not_not, Int.not_lt, Int.not_le, inB] at h2
      refine wpl_val (.int .i64 c) (.int .i64 c) rfl (by kernel_rfl) (by kernel_rfl) rfl ?_
      refine wpl_val (.int .i64 (IntKind.i64.wrap (Int.tdiv c 10))) (.int .i64 (c / 10)) rfl (by kernel_rfl) (by kernel_rfl) (by exact congrArg _ (quo_in (by omega) (by omega))) ?_
      refine wpl_val (.pointer (some ⟨b, 0, none⟩)) (.pointer (some ⟨b, 0, none⟩)) rfl (by kernel_rfl) (by kernel_rfl) rfl ?_
      refine wpl_val (.pointer (some ⟨b, 0, none⟩)) (.pointer (some ⟨b, 0, none⟩)) rfl (by kernel_rfl) (by kernel_rfl) rfl ?_
      refine wpl_val (.pointer (some ⟨b, 1, none⟩)) (.pointer (some ⟨b, 1, none⟩)) rfl (by kernel_rfl) (by kernel_rfl) rfl ?_
      refine wpl_cell (g := b) (off := 1) (.int .i8 F.h) rfl (by kernel_rfl) scal_int8 rfl (by kernel_rfl) (by rw [hb.cell]; exact Fld.get1 _) ?_
      refine wpl_val (.int .i64 (IntKind.i64.wrap F.h)) (.int .i64 F.h) rfl (by kernel_rfl) (by kernel_rfl) (by exact congrArg _ (IntWalk.i64_in _ (by omega))) ?_
      refine wpl_val (.bool (decide (c / 10 < F.h))) (.bool (decide (c / 10 < F.h))) rfl (by kernel_rfl) (by kernel_rfl) rfl ?_
      refine wpl_val (.bool (decide (c / 10 < F.h))) (.bool (decide (c / 10 < F.h))) rfl (by kernel_rfl) (by kernel_rfl) rfl ?_
      refine wpl_val (.bool (decide (c / 10 < F.h))) (.bool (decide (c / 10 < F.h))) rfl (by kernel_rfl) (by kernel_rfl) rfl ?_
      refine wpList_nil ?_
      refine then_normal ?_
      refine wp_frame (a' := ⟨#[.pointer (some ⟨b, 0, none⟩), .int .i64 c, undef, undef, .bool (decide (c / 10 < F.h)), .int .i64 c, .bool true, .bool true, .int .i64 c, .int .i64 (c % 10), .pointer (some ⟨b, 0, none⟩), .pointer (some ⟨b, 0, none⟩), .pointer (some ⟨b, 0, none⟩), .int .i8 F.w, .int .i64 F.w, .bool true, .bool true, .bool true, .int .i64 c, .int .i64 (c / 10), .pointer (some ⟨b, 0, none⟩), .pointer (some ⟨b, 0, none⟩), .pointer (some ⟨b, 1, none⟩), .int .i8 F.h, .int .i64 F.h, .bool (decide (c / 10 < F.h)), .bool (decide (c / 10 < F.h))], []⟩) (by kernel_rfl) ?_
      refine wp_ret ?_
      refine body_frame (a' := ⟨#[.pointer (some ⟨b, 0, none⟩), .int .i64 c, undef, undef, .bool (decide (c / 10 < F.h)), .int .i64 c, .bool true, .bool true, .int .i64 c, .int .i64 (c % 10), .pointer (some ⟨b, 0, none⟩), .pointer (some ⟨b, 0, none⟩), .pointer (some ⟨b, 0, none⟩), .int .i8 F.w, .int .i64 F.w, .bool true, .bool true, .bool true, .int .i64 c, .int .i64 (c / 10), .pointer (some ⟨b, 0, none⟩), .pointer (some ⟨b, 0, none⟩), .pointer (some ⟨b, 1, none⟩), .int .i8 F.h, .int .i64 F.h, .bool (decide (c / 10 < F.h)), .bool (decide (c / 10 < F.h))], []⟩) (by kernel_rfl) ?_
      refine ret1 (.bool (isB F c)) rfl ?_ rfl ?_
      · show (.bool (decide (c / 10 < F.h)) : Value) = (.bool (isB F c))
        refine congrArg Value.bool ?_
        first | exact (isB_out (by omega)).symm | (rw [isB_eq]; simp [*] <;> (intros; omega))
      exact ⟨rfl, H1⟩
    · skip
      refine wpl_frame (a' := ⟨#[.pointer (some ⟨b, 0, none⟩), .int .i64 c, undef, undef, .bool false, .int .i64 c, .bool true, .bool true, .int .i64 c, .int .i64 (c % 10), .pointer (some ⟨b, 0, none⟩), .pointer (some ⟨b, 0, none⟩), .pointer (some ⟨b, 0, none⟩), .int .i8 F.w, .int .i64 F.w, .bool false, .bool false, .bool false, undef, undef, undef, undef, undef, undef, undef, undef, undef], []⟩) (by simp only [h2, Bool.not_true, Bool.not_false]) ?_
      have hk3 := h2
      try simp only [decide_eq_true_eq, decide_eq_false_iff_not, Bool.and_eq_true, Bool.or_eq_true, Bool.and_eq_false_iff, Bool.or_eq_false_iff, Bool.not_eq_true', Bool.not_eq_false', beq_iff_eq, beq_eq_false_iff_ne, bne_iff_ne, bne_eq_false_iff_eq, gt_iff_lt, ge_iff_le, ne_eq, Decidable.not_not, Int.not_lt, Int.not_le, inB] at h2
      refine wpl_skip rfl (by kernel_rfl) ?_
      refine wpl_skip rfl (by kernel_rfl) ?_
      refine wpl_skip rfl (by kernel_rfl) ?_
      refine wpl_skip rfl (by kernel_rfl) ?_
      refine wpl_skip rfl (by kernel_rfl) ?_
      refine wpl_skip rfl (by kernel_rfl) ?_
      refine wpl_skip rfl (by kernel_rfl) ?_
      refine wpl_skip rfl (by kernel_rfl) ?_
      refine wpl_val (.bool false) (.bool false) rfl (by kernel_rfl) (by kernel_rfl) rfl ?_
      refine wpl_val (.bool false) (.bool false) rfl (by kernel_rfl) (by kernel_rfl) rfl ?_
      refine wpList_nil ?_
      refine then_normal ?_
      refine wp_frame (a' := ⟨#[.pointer (some ⟨b, 0, none⟩), .int .i64 c, undef, undef, .bool false, .int .i64 c, .bool true, .bool true, .int .i64 c, .int .i64 (c % 10), .pointer (some ⟨b, 0, none⟩), .pointer (some ⟨b, 0, none⟩), .pointer (some ⟨b, 0, none⟩), .int .i8 F.w, .int .i64 F.w, .bool false, .bool false, .bool false, undef, undef, undef, undef, undef, undef, undef, undef, .bool false], []⟩) (by kernel_rfl) ?_
      refine wp_ret ?_
      refine body_frame (a' := ⟨#[.pointer (some ⟨b, 0, none⟩), .int .i64 c, undef, undef, .bool false, .int .i64 c, .bool true, .bool true, .int .i64 c, .int .i64 (c % 10), .pointer (some ⟨b, 0, none⟩), .pointer (some ⟨b, 0, none⟩), .pointer (some ⟨b, 0, none⟩), .int .i8 F.w, .int .i64 F.w, .bool false, .bool false, .bool false, undef, undef, undef, undef, undef, undef, undef, undef, .bool false], []⟩) (by kernel_rfl) ?_
      refine ret1 (.bool (isB F c)) rfl ?_ rfl ?_
      · show (.bool false : Value) = (.bool (isB F c))
        refine congrArg Value.bool ?_
        first | exact (isB_out (by omega)).symm | (rw [isB_eq]; simp [*] <;> (intros; omega))
      exact ⟨rfl, H1⟩
  · skip
    refine wpl_frame (a' := ⟨#[.pointer (some ⟨b, 0, none⟩), .int .i64 c, undef, undef, .bool false, .int .i64 c, .bool false, .bool false, undef, undef, undef, undef, undef, undef, undef, undef, undef, undef, undef, undef, undef, undef, undef, undef, undef, undef, undef], []⟩) (by simp only [h1, Bool.not_true, Bool.not_false]) ?_
    have hk4 := h1
    try simp only [decide_eq_true_eq, decide_eq_false_iff_not, Bool.and_eq_true, Bool.or_eq_true, Bool.and_eq_false_iff, Bool.or_eq_false_iff, Bool.not_eq_true', Bool.not_eq_false', beq_iff_eq, beq_eq_false_iff_ne, bne_iff_ne, bne_eq_false_iff_eq, gt_iff_lt, ge_iff_le, ne_eq, Decidable.not_not, Int.not_lt, Int.not_le, inB] at h1
    refine wpl_skip rfl (by kernel_rfl) ?_
    refine wpl_skip rfl (by kernel_rfl) ?_
    refine wpl_skip rfl (by kernel_rfl) ?_
    refine wpl_skip rfl (by kernel_rfl) ?_
    refine wpl_skip rfl (by kernel_rfl) ?_
    refine wpl_skip rfl (by kernel_rfl) ?_
    refine wpl_skip rfl (by kernel_rfl) ?_
    refine wpl_skip rfl (by kernel_rfl) ?_
    refine wpl_val (.bool false) (.bool false) rfl (by kernel_rfl) (by kernel_rfl) rfl ?_
    refine wpl_val (.bool false) (.bool false) rfl (by kernel_rfl) (by kernel_rfl) rfl ?_
    refine wpl_skip rfl (by kernel_rfl) ?_
    refine wpl_skip rfl (by kernel_rfl) ?_
    refine wpl_skip rfl (by kernel_rfl) ?_
    refine wpl_skip rfl (by kernel_rfl) ?_
    refine wpl_skip rfl (by kernel_rfl) ?_
    refine wpl_skip rfl (by kernel_rfl) ?_
    refine wpl_skip rfl (by kernel_rfl) ?_
    refine wpl_skip rfl (by kernel_rfl) ?_
    refine wpl_val (.bool false) (.bool false) rfl (by kernel_rfl) (by kernel_rfl) rfl ?_
    refine wpl_val (.bool false) (.bool false) rfl (by kernel_rfl) (by kernel_rfl) rfl ?_
    refine wpList_nil ?_
    refine then_normal ?_
    refine wp_frame (a' := ⟨#[.pointer (some ⟨b, 0, none⟩), .int .i64 c, undef, undef, .bool false, .int .i64 c, .bool false, .bool false, undef, undef, undef, undef, undef, undef, undef, undef, .bool false, .bool false, undef, undef, undef, undef, undef, undef, undef, undef, .bool false], []⟩) (by kernel_rfl) ?_
    refine wp_ret ?_
    refine body_frame (a' := ⟨#[.pointer (some ⟨b, 0, none⟩), .int .i64 c, undef, undef, .bool false, .int .i64 c, .bool false, .bool false, undef, undef, undef, undef, undef, undef, undef, undef, .bool false, .bool false, undef, undef, undef, undef, undef, undef, undef, undef, .bool false], []⟩) (by kernel_rfl) ?_
    refine ret1 (.bool (isB F c)) rfl ?_ rfl ?_
    · show (.bool false : Value) = (.bool (isB F c))
      refine congrArg Value.bool ?_
      first | exact (isB_out (by omega)).symm | (rw [isB_eq]; simp [*] <;> (intros; omega))
    exact ⟨rfl, H1⟩


--# l01Ok_any
theorem l01Ok_any (F : Fld) (hF : F.wf) (b : Nat) (t : TypeId) (w : World) (hb : Blk w b t F.cells) :
 Calls Try.prog 50 #[.pointer (some ⟨b, 0, none⟩)] w fun e w' => e = .returned (.bool (okB F)) ∧ Ext w w' := by
  have w1_ := hF.w1
  have w2_ := hF.w2
  have h1_ := hF.h1
  have h2_ := hF.h2
  have lt_b := hb.lt
  refine calls_of_wp Try.func50 rfl ?_
  refine wp_frame (a' := ⟨#[.pointer (some ⟨b, 0, none⟩), undef, undef, undef, undef, undef, undef, undef, undef, undef, undef, undef, undef, undef, undef, undef, undef, undef, undef, undef, undef, undef, undef, undef, undef, undef, undef, undef, undef, undef, undef, undef, undef, undef, undef, undef, undef, undef, undef, undef, undef, undef, undef, undef, undef, undef, undef, undef, undef, undef, undef, undef, undef, undef, undef, undef, undef, undef, undef, undef, undef, undef, undef, undef, undef, undef, undef, undef], []⟩) (by kernel_rfl) ?_
  refine wp_seq ?_
  refine wp_region_lit ?_
  refine wpl_val (.bool false) (.bool false) rfl (by kernel_rfl) (by kernel_rfl) rfl ?_
  refine wpList_nil ?_
  refine then_normal ?_
  refine wp_frame (a' := ⟨#[.pointer (some ⟨b, 0, none⟩), undef, .bool false, undef, undef, undef, undef, undef, undef, undef, undef, undef, undef, undef, undef, undef, undef, undef, undef, undef, undef, undef, undef, undef, undef, undef, undef, undef, undef, undef, undef, undef, undef, undef, undef, undef, undef, undef, undef, undef, undef, undef, undef, undef, undef, undef, undef, undef, undef, undef, undef, undef, undef, undef, undef, undef, undef, undef, undef, undef, undef, undef, undef, undef, undef, undef, undef, undef], []⟩) (by kernel_rfl) ?_
  refine wp_seq ?_
  refine wp_seq ?_
  refine wp_region_lit ?_
  refine wpl_val (.pointer (some ⟨b, 0, none⟩)) (.pointer (some ⟨b, 0, none⟩)) rfl (by kernel_rfl) (by kernel_rfl) rfl ?_
  refine wpl_val (.pointer (some ⟨b, 0, none⟩)) (.pointer (some ⟨b, 0, none⟩)) rfl (by kernel_rfl) (by kernel_rfl) rfl ?_
  refine wpl_val (.pointer (some ⟨b, 0, none⟩)) (.pointer (some ⟨b, 0, none⟩)) rfl (by kernel_rfl) (by kernel_rfl) rfl ?_
  refine wpl_cell (g := b) (off := 0) (.int .i8 F.w) rfl (by kernel_rfl) scal_int8 rfl (by kernel_rfl) (by rw [hb.cell]; exact Fld.get0 _) ?_
  refine wpl_val (.int .i64 (IntKind.i64.wrap F.w)) (.int .i64 F.w) rfl (by kernel_rfl) (by kernel_rfl) (by exact congrArg _ (IntWalk.i64_in _ (by omega))) ?_
  refine wpl_call (55) #[.int .i64 F.w, .int .i64 1, .int .i64 10] rfl (by kernel_rfl) (by kernel_rfl) (l00In_any _ _ _ _) ?_
  intro w1 E1
  replace hb := hb.ext E1
  have H1 := ((Ext.refl w)).trans E1
  clear E1
  refine wpl_val (.bool (!(inB F.w 1 10))) (.bool (!(inB F.w 1 10))) rfl (by kernel_rfl) (by kernel_rfl) rfl ?_
  refine wpl_val (.bool (!(inB F.w 1 10))) (.bool (!(inB F.w 1 10))) rfl (by kernel_rfl) (by kernel_rfl) rfl ?_
  refine wpl_frame (a' := ⟨#[.pointer (some ⟨b, 0, none⟩), undef, .bool false, undef, undef, undef, .pointer (some ⟨b, 0, none⟩), .pointer (some ⟨b, 0, none⟩), .pointer (some ⟨b, 0, none⟩), .int .i8 F.w, .int .i64 F.w, .bool (inB F.w 1 10), .bool (!(inB F.w 1 10)), .bool (!(inB F.w 1 10)), undef, undef, undef, undef, undef, undef, undef, undef, undef, undef, undef, undef, undef, undef, undef, undef, undef, undef, undef, undef, undef, undef, undef, undef, undef, undef, undef, undef, undef, undef, undef, undef, undef, undef, undef, undef, undef, undef, undef, undef, undef, undef, undef, undef, undef, undef, undef, undef, undef, undef, undef, undef, undef, undef], []⟩) (by kernel_rfl) ?_
  refine split_bool (inB F.w 1 10) (fun h1 => ?_) (fun h1 => ?_)
  · skip
    refine wpl_frame (a' := ⟨#[.pointer (some ⟨b, 0, none⟩), undef, .bool false, undef, undef, undef, .pointer (some ⟨b, 0, none⟩), .pointer (some ⟨b, 0, none⟩), .pointer (some ⟨b, 0, none⟩), .int .i8 F.w, .int .i64 F.w, .bool true, .bool false, .bool false, undef, undef, undef, undef, undef, undef, undef, undef, undef, undef, undef, undef, undef, undef, undef, undef, undef, undef, undef, undef, undef, undef, undef, undef, undef, undef, undef, undef, undef, undef, undef, undef, undef, undef, undef, undef, undef, undef, undef, undef, undef, undef, undef, undef, undef, undef, undef, undef, undef, undef, undef, undef, undef, undef], []⟩) (by simp only [h1, Bool.not_true, Bool.not_false]) ?_
    have hk1 := h1
    try simp only [decide_eq_true_eq, decide_eq_false_iff_not, Bool.and_eq_true, Bool.or_eq_true, Bool.and_eq_false_iff, Bool.or_eq_false_iff, Bool.not_eq_true', Bool.not_eq_false', beq_iff_eq, beq_eq_false_iff_ne, bne_iff_ne, bne_eq_false_iff_eq, gt_iff_lt, ge_iff_le, ne_eq, Decidable.not_not, Int.not_lt, Int.not_le, inB] at h1
    refine wpl_val (.pointer (some ⟨b, 0, none⟩)) (.pointer (some ⟨b, 0, none⟩)) rfl (by kernel_rfl) (by kernel_rfl) rfl ?_
    refine wpl_val (.pointer (some ⟨b, 0, none⟩)) (.pointer (some ⟨b, 0, none⟩)) rfl (by kernel_rfl) (by kernel_rfl) rfl ?_
    refine wpl_val (.pointer (some ⟨b, 1, none⟩)) (.pointer (some ⟨b, 1, none⟩)) rfl (by kernel_rfl) (by kernel_rfl) rfl ?_
    refine wpl_cell (g := b) (off := 1) (.int .i8 F.h) rfl (by kernel_rfl) scal_int8 rfl (by kernel_rfl) (by rw [hb.cell]; exact Fld.get1 _) ?_
    refine wpl_val (.int .i64 (IntKind.i64.wrap F.h)) (.int .i64 F.h) rfl (by kernel_rfl) (by kernel_rfl) (by exact congrArg _ (IntWalk.i64_in _ (by omega))) ?_
    refine wpl_call (55) #[.int .i64 F.h, .int .i64 1, .int .i64 10] rfl (by kernel_rfl) (by kernel_rfl) (l00In_any _ _ _ _) ?_
    intro w2 E2
    replace hb := hb.ext E2
    have H2 := (H1).trans E2
    clear E2
    refine wpl_val (.bool (!(inB F.h 1 10))) (.bool (!(inB F.h 1 10))) rfl (by kernel_rfl) (by kernel_rfl) rfl ?_
    refine wpl_val (.bool (!(inB F.h 1 10))) (.bool (!(inB F.h 1 10))) rfl (by kernel_rfl) (by kernel_rfl) rfl ?_
    refine wpList_nil ?_
    refine then_normal ?_
    refine wp_frame (a' := ⟨#[.pointer (some ⟨b, 0, none⟩), undef, .bool false, undef, undef, undef, .pointer (some ⟨b, 0, none⟩), .pointer (some ⟨b, 0, none⟩), .pointer (some ⟨b, 0, none⟩), .int .i8 F.w, .int .i64 F.w, .bool true, .bool false, .bool false, .pointer (some ⟨b, 0, none⟩), .pointer (some ⟨b, 0, none⟩), .pointer (some ⟨b, 1, none⟩), .int .i8 F.h, .int .i64 F.h, .bool (inB F.h 1 10), .bool (!(inB F.h 1 10)), .bool (!(inB F.h 1 10)), undef, undef, undef, undef, undef, undef, undef, undef, undef, undef, undef, undef, undef, undef, undef, undef, undef, undef, undef, undef, undef, undef, undef, undef, undef, undef, undef, undef, undef, undef, undef, undef, undef, undef, undef, undef, undef, undef, undef, undef, undef, undef, undef, undef, undef, undef], []⟩) (by kernel_rfl) ?_
    refine wp_cond_split (t := !(inB F.h 1 10)) rfl (fun h2 => ?_) (fun h2 => ?_)
    · skip
      simp only [Bool.not_eq_true', Bool.not_eq_false'] at h2
      have hk2 := h2
      try simp only [decide_eq_true_eq, decide_eq_false_iff_not, Bool.and_eq_true, Bool.or_eq_true, Bool.and_eq_false_iff, Bool.or_eq_false_iff, Bool.not_eq_true', Bool.not_eq_false', beq_iff_eq, beq_eq_false_iff_ne, bne_iff_ne, bne_eq_false_iff_eq, gt_iff_lt, ge_iff_le, ne_eq, Decidable.not_not, Int.not_lt, Int.not_le, inB] at h2
      refine wp_seq ?_
      refine wp_region_lit ?_
      refine wpl_val (.bool false) (.bool false) rfl (by kernel_rfl) (by kernel_rfl) rfl ?_
      refine wpl_frame (a' := ⟨#[.pointer (some ⟨b, 0, none⟩), undef, .bool false, undef, undef, undef, .pointer (some ⟨b, 0, none⟩), .pointer (some ⟨b, 0, none⟩), .pointer (some ⟨b, 0, none⟩), .int .i8 F.w, .int .i64 F.w, .bool true, .bool false, .bool false, .pointer (some ⟨b, 0, none⟩), .pointer (some ⟨b, 0, none⟩), .pointer (some ⟨b, 1, none⟩), .int .i8 F.h, .int .i64 F.h, .bool (inB F.h 1 10), .bool (!(inB F.h 1 10)), .bool (!(inB F.h 1 10)), undef, undef, undef, undef, undef, undef, undef, undef, undef, undef, undef, undef, undef, undef, undef, undef, undef, undef, undef, undef, undef, undef, undef, undef, undef, undef, undef, undef, undef, undef, undef, undef, undef, undef, undef, undef, undef, undef, undef, undef, undef, undef, undef, undef, undef, undef], []⟩) (by kernel_rfl) ?_
      refine wpl_frame (a' := ⟨#[.pointer (some ⟨b, 0, none⟩), undef, .bool false, undef, undef, undef, .pointer (some ⟨b, 0, none⟩), .pointer (some ⟨b, 0, none⟩), .pointer (some ⟨b, 0, none⟩), .int .i8 F.w, .int .i64 F.w, .bool true, .bool false, .bool false, .pointer (some ⟨b, 0, none⟩), .pointer (some ⟨b, 0, none⟩), .pointer (some ⟨b, 1, none⟩), .int .i8 F.h, .int .i64 F.h, .bool false, .bool (!(inB F.h 1 10)), .bool (!(inB F.h 1 10)), undef, undef, undef, undef, undef, undef, undef, undef, undef, undef, undef, undef, undef, undef, undef, undef, undef, undef, undef, undef, undef, undef, undef, undef, undef, undef, undef, undef, undef, undef, undef, undef, undef, undef, undef, undef, undef, undef, undef, undef, undef, undef, undef, undef, undef, undef], []⟩) (by simp only [hk2, Bool.not_true, Bool.not_false]) ?_
      refine wpList_nil ?_
      refine then_normal ?_
      refine wp_frame (a' := ⟨#[.pointer (some ⟨b, 0, none⟩), undef, .bool false, undef, undef, undef, .pointer (some ⟨b, 0, none⟩), .pointer (some ⟨b, 0, none⟩), .pointer (some ⟨b, 0, none⟩), .int .i8 F.w, .int .i64 F.w, .bool true, .bool false, .bool false, .pointer (some ⟨b, 0, none⟩), .pointer (some ⟨b, 0, none⟩), .pointer (some ⟨b, 1, none⟩), .int .i8 F.h, .int .i64 F.h, .bool false, .bool (!(inB F.h 1 10)), .bool (!(inB F.h 1 10)), undef, undef, undef, undef, undef, undef, undef, undef, undef, undef, undef, undef, undef, undef, undef, undef, undef, undef, undef, undef, undef, undef, undef, undef, undef, undef, undef, undef, undef, undef, undef, undef, undef, undef, undef, undef, undef, undef, undef, undef, undef, undef, undef, undef, undef, undef], []⟩) (by kernel_rfl) ?_
      refine wp_ret ?_
      refine then_ret ?_
      refine body_frame (a' := ⟨#[.pointer (some ⟨b, 0, none⟩), undef, .bool false, undef, undef, undef, .pointer (some ⟨b, 0, none⟩), .pointer (some ⟨b, 0, none⟩), .pointer (some ⟨b, 0, none⟩), .int .i8 F.w, .int .i64 F.w, .bool true, .bool false, .bool false, .pointer (some ⟨b, 0, none⟩), .pointer (some ⟨b, 0, none⟩), .pointer (some ⟨b, 1, none⟩), .int .i8 F.h, .int .i64 F.h, .bool false, .bool (!(inB F.h 1 10)), .bool (!(inB F.h 1 10)), undef, undef, undef, undef, undef, undef, undef, undef, undef, undef, undef, undef, undef, undef, undef, undef, undef, undef, undef, undef, undef, undef, undef, undef, undef, undef, undef, undef, undef, undef, undef, undef, undef, undef, undef, undef, undef, undef, undef, undef, undef, undef, undef, undef, undef, undef], []⟩) (by kernel_rfl) ?_
      refine ret1 (.bool (okB F)) rfl ?_ rfl ?_
      · show (.bool false : Value) = (.bool (okB F))
        refine congrArg Value.bool ?_
        first | exact (okB_w (by omega)).symm | exact (okB_h (by omega)).symm | exact (okB_true.2 ⟨by omega, by omega, by omega, by omega, fun j hj => hall j (by omega)⟩).symm | skip
        all_goals (refine (okB_c i (by omega) ?_).symm)
        all_goals (first | (rw [celB_in (by assumption)]; exact decide_eq_false (by omega)) | (rw [celB_out (by assumption)]; exact decide_eq_false (by omega)) | (cases hq_ : isB F (i : Int) with | false => (rw [celB_out hq_]; exact decide_eq_false (by omega)) | true => (rw [celB_in hq_]; exact decide_eq_false (by omega))))
      exact ⟨rfl, H2⟩
    · skip
      simp only [Bool.not_eq_true', Bool.not_eq_false'] at h2
      have hk3 := h2
      try simp only [decide_eq_true_eq, decide_eq_false_iff_not, Bool.and_eq_true, Bool.or_eq_true, Bool.and_eq_false_iff, Bool.or_eq_false_iff, Bool.not_eq_true', Bool.not_eq_false', beq_iff_eq, beq_eq_false_iff_ne, bne_iff_ne, bne_eq_false_iff_eq, gt_iff_lt, ge_iff_le, ne_eq, Decidable.not_not, Int.not_lt, Int.not_le, inB] at h2
      refine wp_skip ?_
      refine then_normal ?_
      refine wp_frame (a' := ⟨#[.pointer (some ⟨b, 0, none⟩), undef, .bool false, undef, undef, undef, .pointer (some ⟨b, 0, none⟩), .pointer (some ⟨b, 0, none⟩), .pointer (some ⟨b, 0, none⟩), .int .i8 F.w, .int .i64 F.w, .bool true, .bool false, .bool false, .pointer (some ⟨b, 0, none⟩), .pointer (some ⟨b, 0, none⟩), .pointer (some ⟨b, 1, none⟩), .int .i8 F.h, .int .i64 F.h, .bool (inB F.h 1 10), .bool (!(inB F.h 1 10)), .bool (!(inB F.h 1 10)), undef, undef, undef, undef, undef, undef, undef, undef, undef, undef, undef, undef, undef, undef, undef, undef, undef, undef, undef, undef, undef, undef, undef, undef, undef, undef, undef, undef, undef, undef, undef, undef, undef, undef, undef, undef, undef, undef, undef, undef, undef, undef, undef, undef, undef, undef], []⟩) (by kernel_rfl) ?_
      refine wp_seq ?_
      refine wp_seq ?_
      refine wp_region_lit ?_
      refine wpl_val (.int .i64 0) (.int .i64 0) rfl (by kernel_rfl) (by kernel_rfl) rfl ?_
      refine wpl_frame (a' := ⟨#[.pointer (some ⟨b, 0, none⟩), undef, .bool false, .int .i64 0, undef, undef, .pointer (some ⟨b, 0, none⟩), .pointer (some ⟨b, 0, none⟩), .pointer (some ⟨b, 0, none⟩), .int .i8 F.w, .int .i64 F.w, .bool true, .bool false, .bool false, .pointer (some ⟨b, 0, none⟩), .pointer (some ⟨b, 0, none⟩), .pointer (some ⟨b, 1, none⟩), .int .i8 F.h, .int .i64 F.h, .bool (inB F.h 1 10), .bool (!(inB F.h 1 10)), .bool (!(inB F.h 1 10)), undef, undef, undef, undef, undef, undef, undef, undef, undef, undef, undef, undef, undef, undef, undef, undef, undef, undef, undef, undef, undef, undef, undef, undef, undef, undef, undef, undef, undef, undef, undef, undef, undef, undef, undef, undef, undef, undef, undef, undef, undef, undef, undef, undef, undef, undef], []⟩) (by kernel_rfl) ?_
      refine wpl_frame (a' := ⟨#[.pointer (some ⟨b, 0, none⟩), undef, .bool false, .int .i64 0, undef, undef, .pointer (some ⟨b, 0, none⟩), .pointer (some ⟨b, 0, none⟩), .pointer (some ⟨b, 0, none⟩), .int .i8 F.w, .int .i64 F.w, .bool true, .bool false, .bool false, .pointer (some ⟨b, 0, none⟩), .pointer (some ⟨b, 0, none⟩), .pointer (some ⟨b, 1, none⟩), .int .i8 F.h, .int .i64 F.h, .bool true, .bool (!(inB F.h 1 10)), .bool (!(inB F.h 1 10)), undef, undef, undef, undef, undef, undef, undef, undef, undef, undef, undef, undef, undef, undef, undef, undef, undef, undef, undef, undef, undef, undef, undef, undef, undef, undef, undef, undef, undef, undef, undef, undef, undef, undef, undef, undef, undef, undef, undef, undef, undef, undef, undef, undef, undef, undef], []⟩) (by simp only [hk3, Bool.not_true, Bool.not_false]) ?_
      refine wpList_nil ?_
      refine then_normal ?_
      refine wp_frame (a' := ⟨#[.pointer (some ⟨b, 0, none⟩), undef, .bool false, .int .i64 0, undef, undef, .pointer (some ⟨b, 0, none⟩), .pointer (some ⟨b, 0, none⟩), .pointer (some ⟨b, 0, none⟩), .int .i8 F.w, .int .i64 F.w, .bool true, .bool false, .bool false, .pointer (some ⟨b, 0, none⟩), .pointer (some ⟨b, 0, none⟩), .pointer (some ⟨b, 1, none⟩), .int .i8 F.h, .int .i64 F.h, .bool true, .bool (!(inB F.h 1 10)), .bool (!(inB F.h 1 10)), undef, undef, undef, undef, undef, undef, undef, undef, undef, undef, undef, undef, undef, undef, undef, undef, undef, undef, undef, undef, undef, undef, undef, undef, undef, undef, undef, undef, undef, undef, undef, undef, undef, undef, undef, undef, undef, undef, undef, undef, undef, undef, undef, undef, undef, undef], []⟩) (by kernel_rfl) ?_
      refine wp_block ?_
      refine wp_loop_k (fun m1 a wl1 => ∃ (i : Nat) (J1 : Nat → Value), m1 = 100 - i ∧ i ≤ 100 ∧ (∀ j, j < i → celB F j = true) ∧ Ext w wl1 ∧ Blk wl1 b t F.cells ∧ a = ⟨#[.pointer (some ⟨b, 0, none⟩), undef, J1 0, .int .i64 (i : Int), J1 1, J1 2, .pointer (some ⟨b, 0, none⟩), .pointer (some ⟨b, 0, none⟩), .pointer (some ⟨b, 0, none⟩), .int .i8 F.w, .int .i64 F.w, .bool true, .bool false, .bool false, .pointer (some ⟨b, 0, none⟩), .pointer (some ⟨b, 0, none⟩), .pointer (some ⟨b, 1, none⟩), .int .i8 F.h, .int .i64 F.h, .bool true, .bool (!(inB F.h 1 10)), .bool (!(inB F.h 1 10)), J1 3, J1 4, J1 5, J1 6, J1 7, J1 8, J1 9, J1 10, J1 11, J1 12, J1 13, J1 14, J1 15, J1 16, J1 17, J1 18, J1 19, J1 20, J1 21, J1 22, J1 23, J1 24, J1 25, J1 26, J1 27, J1 28, J1 29, J1 30, J1 31, J1 32, J1 33, J1 34, J1 35, J1 36, J1 37, J1 38, J1 39, J1 40, J1 41, J1 42, J1 43, J1 44, J1 45, J1 46, J1 47, J1 48], []⟩) (100) ?_ ?_
      · refine ⟨0, fun i_ => ([.bool false, undef, undef, undef, undef, undef, undef, undef, undef, undef, undef, undef, undef, undef, undef, undef, undef, undef, undef, undef, undef, undef, undef, undef, undef, undef, undef, undef, undef, undef, undef, undef, undef, undef, undef, undef, undef, undef, undef, undef, undef, undef, undef, undef, undef, undef, undef, undef, undef] : List Value).getD i_ undef, rfl, ?_, ?_, H2, ?_, by kernel_rfl⟩
        · omega
        · intro j hj; omega
        · exact hb
      intro m1 a wl1 hI
      obtain ⟨i, J1, rfl, hi_, hall, HL1, hb, rfl⟩ := hI
      have hk_ := hF.k1 i
      have hs_ := hF.s1 i
      refine wp_seq ?_
      refine wp_seq ?_
      refine wp_region_lit ?_
      refine wpl_val (.int .i64 (i : Int)) (.int .i64 (i : Int)) rfl (by kernel_rfl) (by kernel_rfl) rfl ?_
      refine wpl_val (.bool (decide ((i : Int) < 100))) (.bool (decide ((i : Int) < 100))) rfl (by kernel_rfl) (by kernel_rfl) rfl ?_
      refine wpList_nil ?_
      refine then_normal ?_
      refine wp_frame (a' := ⟨#[.pointer (some ⟨b, 0, none⟩), undef, J1 0, .int .i64 (i : Int), J1 1, J1 2, .pointer (some ⟨b, 0, none⟩), .pointer (some ⟨b, 0, none⟩), .pointer (some ⟨b, 0, none⟩), .int .i8 F.w, .int .i64 F.w, .bool true, .bool false, .bool false, .pointer (some ⟨b, 0, none⟩), .pointer (some ⟨b, 0, none⟩), .pointer (some ⟨b, 1, none⟩), .int .i8 F.h, .int .i64 F.h, .bool true, .bool (!(inB F.h 1 10)), .bool (!(inB F.h 1 10)), .int .i64 (i : Int), .bool (decide ((i : Int) < 100)), J1 5, J1 6, J1 7, J1 8, J1 9, J1 10, J1 11, J1 12, J1 13, J1 14, J1 15, J1 16, J1 17, J1 18, J1 19, J1 20, J1 21, J1 22, J1 23, J1 24, J1 25, J1 26, J1 27, J1 28, J1 29, J1 30, J1 31, J1 32, J1 33, J1 34, J1 35, J1 36, J1 37, J1 38, J1 39, J1 40, J1 41, J1 42, J1 43, J1 44, J1 45, J1 46, J1 47, J1 48], []⟩) (by kernel_rfl) ?_
      refine wp_cond_split (t := decide ((i : Int) < 100)) rfl (fun h3 => ?_) (fun h3 => ?_)
      · skip
        have hk4 := h3
        try simp only [decide_eq_true_eq, decide_eq_false_iff_not, Bool.and_eq_true, Bool.or_eq_true, Bool.and_eq_false_iff, Bool.or_eq_false_iff, Bool.not_eq_true', Bool.not_eq_false', beq_iff_eq, beq_eq_false_iff_ne, bne_iff_ne, bne_eq_false_iff_eq, gt_iff_lt, ge_iff_le, ne_eq, Decidable.not_not, Int.not_lt, Int.not_le, inB] at h3
        refine wp_skip ?_
        refine then_normal ?_
        refine wp_frame (a' := ⟨#[.pointer (some ⟨b, 0, none⟩), undef, J1 0, .int .i64 (i : Int), J1 1, J1 2, .pointer (some ⟨b, 0, none⟩), .pointer (some ⟨b, 0, none⟩), .pointer (some ⟨b, 0, none⟩), .int .i8 F.w, .int .i64 F.w, .bool true, .bool false, .bool false, .pointer (some ⟨b, 0, none⟩), .pointer (some ⟨b, 0, none⟩), .pointer (some ⟨b, 1, none⟩), .int .i8 F.h, .int .i64 F.h, .bool true, .bool (!(inB F.h 1 10)), .bool (!(inB F.h 1 10)), .int .i64 (i : Int), .bool (decide ((i : Int) < 100)), J1 5, J1 6, J1 7, J1 8, J1 9, J1 10, J1 11, J1 12, J1 13, J1 14, J1 15, J1 16, J1 17, J1 18, J1 19, J1 20, J1 21, J1 22, J1 23, J1 24, J1 25, J1 26, J1 27, J1 28, J1 29, J1 30, J1 31, J1 32, J1 33, J1 34, J1 35, J1 36, J1 37, J1 38, J1 39, J1 40, J1 41, J1 42, J1 43, J1 44, J1 45, J1 46, J1 47, J1 48], []⟩) (by kernel_rfl) ?_
        refine wp_seq ?_
        refine wp_block ?_
        refine wp_seq ?_
        refine wp_region_lit ?_
        refine wpl_val (.pointer (some ⟨b, 0, none⟩)) (.pointer (some ⟨b, 0, none⟩)) rfl (by kernel_rfl) (by kernel_rfl) rfl ?_
        refine wpl_frame (a' := ⟨#[.pointer (some ⟨b, 0, none⟩), undef, J1 0, .int .i64 (i : Int), J1 1, J1 2, .pointer (some ⟨b, 0, none⟩), .pointer (some ⟨b, 0, none⟩), .pointer (some ⟨b, 0, none⟩), .int .i8 F.w, .int .i64 F.w, .bool true, .bool false, .bool false, .pointer (some ⟨b, 0, none⟩), .pointer (some ⟨b, 0, none⟩), .pointer (some ⟨b, 1, none⟩), .int .i8 F.h, .int .i64 F.h, .bool true, .bool (!(inB F.h 1 10)), .bool (!(inB F.h 1 10)), .int .i64 (i : Int), .bool (decide ((i : Int) < 100)), J1 5, J1 6, .pointer (some ⟨b, 0, none⟩), J1 8, J1 9, J1 10, J1 11, J1 12, J1 13, J1 14, J1 15, J1 16, J1 17, J1 18, J1 19, J1 20, J1 21, J1 22, J1 23, J1 24, J1 25, J1 26, J1 27, J1 28, J1 29, J1 30, J1 31, J1 32, J1 33, J1 34, J1 35, J1 36, J1 37, J1 38, J1 39, J1 40, J1 41, J1 42, J1 43, J1 44, J1 45, J1 46, J1 47, J1 48], []⟩) (by kernel_rfl) ?_
        refine wpl_frame (a' := ⟨#[.pointer (some ⟨b, 0, none⟩), undef, J1 0, .int .i64 (i : Int), J1 1, J1 2, .pointer (some ⟨b, 0, none⟩), .pointer (some ⟨b, 0, none⟩), .pointer (some ⟨b, 0, none⟩), .int .i8 F.w, .int .i64 F.w, .bool true, .bool false, .bool false, .pointer (some ⟨b, 0, none⟩), .pointer (some ⟨b, 0, none⟩), .pointer (some ⟨b, 1, none⟩), .int .i8 F.h, .int .i64 F.h, .bool true, .bool (!(inB F.h 1 10)), .bool (!(inB F.h 1 10)), .int .i64 (i : Int), .bool true, J1 5, J1 6, .pointer (some ⟨b, 0, none⟩), J1 8, J1 9, J1 10, J1 11, J1 12, J1 13, J1 14, J1 15, J1 16, J1 17, J1 18, J1 19, J1 20, J1 21, J1 22, J1 23, J1 24, J1 25, J1 26, J1 27, J1 28, J1 29, J1 30, J1 31, J1 32, J1 33, J1 34, J1 35, J1 36, J1 37, J1 38, J1 39, J1 40, J1 41, J1 42, J1 43, J1 44, J1 45, J1 46, J1 47, J1 48], []⟩) (by simp only [hk4, Bool.not_true, Bool.not_false]) ?_
        refine wpl_val (.int .i64 (i : Int)) (.int .i64 (i : Int)) rfl (by kernel_rfl) (by kernel_rfl) rfl ?_
        refine wpl_val (.pointer (some ⟨b, 0, none⟩)) (.pointer (some ⟨b, 0, none⟩)) rfl (by kernel_rfl) (by kernel_rfl) rfl ?_
        refine wpl_val (.pointer (some ⟨b, 2, none⟩)) (.pointer (some ⟨b, 2, none⟩)) rfl (by kernel_rfl) (by kernel_rfl) rfl ?_
        refine wpl_ixan (i := i) (k := .i64) (g := b) (off := 2) rfl (by kernel_rfl) arrt__100_uint8 rfl (by kernel_rfl) (by kernel_rfl) (by omega) ?_
        have ce1 := hF.k1 i (by omega)
        refine wpl_cell (g := b) (off := 2 + i) (.int .u8 (F.k i)) rfl (by kernel_rfl) scal_uint8 rfl (by kernel_rfl) (by rw [hb.cell]; exact Fld.getk _ _ (by omega)) ?_
        refine wpl_val (.int .i64 (IntKind.i64.wrap (F.k i))) (.int .i64 (F.k i)) rfl (by kernel_rfl) (by kernel_rfl) (by exact congrArg _ (IntWalk.i64_in _ (by omega))) ?_
        refine wpl_val (.int .i64 (F.k i)) (.int .i64 (F.k i)) rfl (by kernel_rfl) (by kernel_rfl) rfl ?_
        refine wpList_nil ?_
        refine then_normal ?_
        refine wp_frame (a' := ⟨#[.pointer (some ⟨b, 0, none⟩), undef, J1 0, .int .i64 (i : Int), .int .i64 (F.k i), J1 2, .pointer (some ⟨b, 0, none⟩), .pointer (some ⟨b, 0, none⟩), .pointer (some ⟨b, 0, none⟩), .int .i8 F.w, .int .i64 F.w, .bool true, .bool false, .bool false, .pointer (some ⟨b, 0, none⟩), .pointer (some ⟨b, 0, none⟩), .pointer (some ⟨b, 1, none⟩), .int .i8 F.h, .int .i64 F.h, .bool true, .bool (!(inB F.h 1 10)), .bool (!(inB F.h 1 10)), .int .i64 (i : Int), .bool true, J1 5, J1 6, .pointer (some ⟨b, 0, none⟩), .int .i64 (i : Int), .pointer (some ⟨b, 0, none⟩), .pointer (some ⟨b, 2, none⟩), .pointer (some ⟨b, 2 + i, none⟩), .int .u8 (F.k i), .int .i64 (F.k i), J1 14, J1 15, J1 16, J1 17, J1 18, J1 19, J1 20, J1 21, J1 22, J1 23, J1 24, J1 25, J1 26, J1 27, J1 28, J1 29, J1 30, J1 31, J1 32, J1 33, J1 34, J1 35, J1 36, J1 37, J1 38, J1 39, J1 40, J1 41, J1 42, J1 43, J1 44, J1 45, J1 46, J1 47, J1 48], []⟩) (by kernel_rfl) ?_
        refine wp_seq ?_
        refine wp_region_lit ?_
        refine wpl_val (.pointer (some ⟨b, 0, none⟩)) (.pointer (some ⟨b, 0, none⟩)) rfl (by kernel_rfl) (by kernel_rfl) rfl ?_
        refine wpl_val (.int .i64 (i : Int)) (.int .i64 (i : Int)) rfl (by kernel_rfl) (by kernel_rfl) rfl ?_
        refine wpl_val (.pointer (some ⟨b, 0, none⟩)) (.pointer (some ⟨b, 0, none⟩)) rfl (by kernel_rfl) (by kernel_rfl) rfl ?_
        refine wpl_val (.pointer (some ⟨b, 102, none⟩)) (.pointer (some ⟨b, 102, none⟩)) rfl (by kernel_rfl) (by kernel_rfl) rfl ?_
        refine wpl_ixan (i := i) (k := .i64) (g := b) (off := 102) rfl (by kernel_rfl) arrt__100_int16 rfl (by kernel_rfl) (by kernel_rfl) (by omega) ?_
        have ce2 := hF.s1 i (by omega)
        refine wpl_cell (g := b) (off := 102 + i) (.int .i16 (F.s i)) rfl (by kernel_rfl) scal_int16 rfl (by kernel_rfl) (by rw [hb.cell]; exact Fld.gets _ _ (by omega)) ?_
        refine wpl_val (.int .i64 (IntKind.i64.wrap (F.s i))) (.int .i64 (F.s i)) rfl (by kernel_rfl) (by kernel_rfl) (by exact congrArg _ (IntWalk.i64_in _ (by omega))) ?_
        refine wpl_val (.int .i64 (F.s i)) (.int .i64 (F.s i)) rfl (by kernel_rfl) (by kernel_rfl) rfl ?_
        refine wpList_nil ?_
        refine then_normal ?_
        refine wp_frame (a' := ⟨#[.pointer (some ⟨b, 0, none⟩), undef, J1 0, .int .i64 (i : Int), .int .i64 (F.k i), .int .i64 (F.s i), .pointer (some ⟨b, 0, none⟩), .pointer (some ⟨b, 0, none⟩), .pointer (some ⟨b, 0, none⟩), .int .i8 F.w, .int .i64 F.w, .bool true, .bool false, .bool false, .pointer (some ⟨b, 0, none⟩), .pointer (some ⟨b, 0, none⟩), .pointer (some ⟨b, 1, none⟩), .int .i8 F.h, .int .i64 F.h, .bool true, .bool (!(inB F.h 1 10)), .bool (!(inB F.h 1 10)), .int .i64 (i : Int), .bool true, J1 5, J1 6, .pointer (some ⟨b, 0, none⟩), .int .i64 (i : Int), .pointer (some ⟨b, 0, none⟩), .pointer (some ⟨b, 2, none⟩), .pointer (some ⟨b, 2 + i, none⟩), .int .u8 (F.k i), .int .i64 (F.k i), .pointer (some ⟨b, 0, none⟩), .int .i64 (i : Int), .pointer (some ⟨b, 0, none⟩), .pointer (some ⟨b, 102, none⟩), .pointer (some ⟨b, 102 + i, none⟩), .int .i16 (F.s i), .int .i64 (F.s i), J1 21, J1 22, J1 23, J1 24, J1 25, J1 26, J1 27, J1 28, J1 29, J1 30, J1 31, J1 32, J1 33, J1 34, J1 35, J1 36, J1 37, J1 38, J1 39, J1 40, J1 41, J1 42, J1 43, J1 44, J1 45, J1 46, J1 47, J1 48], []⟩) (by kernel_rfl) ?_
        refine wp_seq ?_
        refine wp_seq ?_
        refine wp_region_lit ?_
        refine wpl_val (.int .i64 (F.k i)) (.int .i64 (F.k i)) rfl (by kernel_rfl) (by kernel_rfl) rfl ?_
        refine wpl_call (73) #[.int .i64 (F.k i)] rfl (by kernel_rfl) (by kernel_rfl) (l01Kind_any _ _) ?_
        intro w3 E3
        replace hb := hb.ext E3
        have H3 := (HL1).trans E3
        clear E3
        refine wpl_val (.bool (!(inB (F.k i) 0 3))) (.bool (!(inB (F.k i) 0 3))) rfl (by kernel_rfl) (by kernel_rfl) rfl ?_
        refine wpl_val (.bool (!(inB (F.k i) 0 3))) (.bool (!(inB (F.k i) 0 3))) rfl (by kernel_rfl) (by kernel_rfl) rfl ?_
        refine wpl_frame (a' := ⟨#[.pointer (some ⟨b, 0, none⟩), undef, J1 0, .int .i64 (i : Int), .int .i64 (F.k i), .int .i64 (F.s i), .pointer (some ⟨b, 0, none⟩), .pointer (some ⟨b, 0, none⟩), .pointer (some ⟨b, 0, none⟩), .int .i8 F.w, .int .i64 F.w, .bool true, .bool false, .bool false, .pointer (some ⟨b, 0, none⟩), .pointer (some ⟨b, 0, none⟩), .pointer (some ⟨b, 1, none⟩), .int .i8 F.h, .int .i64 F.h, .bool true, .bool (!(inB F.h 1 10)), .bool (!(inB F.h 1 10)), .int .i64 (i : Int), .bool true, J1 5, J1 6, .pointer (some ⟨b, 0, none⟩), .int .i64 (i : Int), .pointer (some ⟨b, 0, none⟩), .pointer (some ⟨b, 2, none⟩), .pointer (some ⟨b, 2 + i, none⟩), .int .u8 (F.k i), .int .i64 (F.k i), .pointer (some ⟨b, 0, none⟩), .int .i64 (i : Int), .pointer (some ⟨b, 0, none⟩), .pointer (some ⟨b, 102, none⟩), .pointer (some ⟨b, 102 + i, none⟩), .int .i16 (F.s i), .int .i64 (F.s i), .int .i64 (F.k i), .bool (inB (F.k i) 0 3), .bool (!(inB (F.k i) 0 3)), .bool (!(inB (F.k i) 0 3)), J1 25, J1 26, J1 27, J1 28, J1 29, J1 30, J1 31, J1 32, J1 33, J1 34, J1 35, J1 36, J1 37, J1 38, J1 39, J1 40, J1 41, J1 42, J1 43, J1 44, J1 45, J1 46, J1 47, J1 48], []⟩) (by kernel_rfl) ?_
        refine split_bool (inB (F.k i) 0 3) (fun h4 => ?_) (fun h4 => ?_)
        · skip
          refine wpl_frame (a' := ⟨#[.pointer (some ⟨b, 0, none⟩), undef, J1 0, .int .i64 (i : Int), .int .i64 (F.k i), .int .i64 (F.s i), .pointer (some ⟨b, 0, none⟩), .pointer (some ⟨b, 0, none⟩), .pointer (some ⟨b, 0, none⟩), .int .i8 F.w, .int .i64 F.w, .bool true, .bool false, .bool false, .pointer (some ⟨b, 0, none⟩), .pointer (some ⟨b, 0, none⟩), .pointer (some ⟨b, 1, none⟩), .int .i8 F.h, .int .i64 F.h, .bool true, .bool (!(inB F.h 1 10)), .bool (!(inB F.h 1 10)), .int .i64 (i : Int), .bool true, J1 5, J1 6, .pointer (some ⟨b, 0, none⟩), .int .i64 (i : Int), .pointer (some ⟨b, 0, none⟩), .pointer (some ⟨b, 2, none⟩), .pointer (some ⟨b, 2 + i, none⟩), .int .u8 (F.k i), .int .i64 (F.k i), .pointer (some ⟨b, 0, none⟩), .int .i64 (i : Int), .pointer (some ⟨b, 0, none⟩), .pointer (some ⟨b, 102, none⟩), .pointer (some ⟨b, 102 + i, none⟩), .int .i16 (F.s i), .int .i64 (F.s i), .int .i64 (F.k i), .bool true, .bool false, .bool false, J1 25, J1 26, J1 27, J1 28, J1 29, J1 30, J1 31, J1 32, J1 33, J1 34, J1 35, J1 36, J1 37, J1 38, J1 39, J1 40, J1 41, J1 42, J1 43, J1 44, J1 45, J1 46, J1 47, J1 48], []⟩) (by simp only [h4, Bool.not_true, Bool.not_false]) ?_
          have hk5 := h4
          try simp only [decide_eq_true_eq, decide_eq_false_iff_not, Bool.and_eq_true, Bool.or_eq_true, Bool.and_eq_false_iff, Bool.or_eq_false_iff, Bool.not_eq_true', Bool.not_eq_false', beq_iff_eq, beq_eq_false_iff_ne, bne_iff_ne, bne_eq_false_iff_eq, gt_iff_lt, ge_iff_le, ne_eq, Decidable.not_not, Int.not_lt, Int.not_le, inB] at h4
          refine wpl_val (.int .i64 (F.s i)) (.int .i64 (F.s i)) rfl (by kernel_rfl) (by kernel_rfl) rfl ?_
          refine wpl_call (56) #[.int .i64 (F.s i)] rfl (by kernel_rfl) (by kernel_rfl) (l01Seeds_any _ _) ?_
          intro w4 E4
          replace hb := hb.ext E4
          have H4 := (H3).trans E4
          clear E4
          refine wpl_val (.bool (!(inB (F.s i) 0 1000))) (.bool (!(inB (F.s i) 0 1000))) rfl (by kernel_rfl) (by kernel_rfl) rfl ?_
          refine wpl_val (.bool (!(inB (F.s i) 0 1000))) (.bool (!(inB (F.s i) 0 1000))) rfl (by kernel_rfl) (by kernel_rfl) rfl ?_
          refine wpl_val (.bool (!(inB (F.s i) 0 1000))) (.bool (!(inB (F.s i) 0 1000))) rfl (by kernel_rfl) (by kernel_rfl) rfl ?_
          refine wpl_frame (a' := ⟨#[.pointer (some ⟨b, 0, none⟩), undef, J1 0, .int .i64 (i : Int), .int .i64 (F.k i), .int .i64 (F.s i), .pointer (some ⟨b, 0, none⟩), .pointer (some ⟨b, 0, none⟩), .pointer (some ⟨b, 0, none⟩), .int .i8 F.w, .int .i64 F.w, .bool true, .bool false, .bool false, .pointer (some ⟨b, 0, none⟩), .pointer (some ⟨b, 0, none⟩), .pointer (some ⟨b, 1, none⟩), .int .i8 F.h, .int .i64 F.h, .bool true, .bool (!(inB F.h 1 10)), .bool (!(inB F.h 1 10)), .int .i64 (i : Int), .bool true, J1 5, J1 6, .pointer (some ⟨b, 0, none⟩), .int .i64 (i : Int), .pointer (some ⟨b, 0, none⟩), .pointer (some ⟨b, 2, none⟩), .pointer (some ⟨b, 2 + i, none⟩), .int .u8 (F.k i), .int .i64 (F.k i), .pointer (some ⟨b, 0, none⟩), .int .i64 (i : Int), .pointer (some ⟨b, 0, none⟩), .pointer (some ⟨b, 102, none⟩), .pointer (some ⟨b, 102 + i, none⟩), .int .i16 (F.s i), .int .i64 (F.s i), .int .i64 (F.k i), .bool true, .bool false, .bool false, .int .i64 (F.s i), .bool (inB (F.s i) 0 1000), .bool (!(inB (F.s i) 0 1000)), .bool (!(inB (F.s i) 0 1000)), .bool (!(inB (F.s i) 0 1000)), J1 30, J1 31, J1 32, J1 33, J1 34, J1 35, J1 36, J1 37, J1 38, J1 39, J1 40, J1 41, J1 42, J1 43, J1 44, J1 45, J1 46, J1 47, J1 48], []⟩) (by kernel_rfl) ?_
          refine split_bool (inB (F.s i) 0 1000) (fun h5 => ?_) (fun h5 => ?_)
          · skip
            refine wpl_frame (a' := ⟨#[.pointer (some ⟨b, 0, none⟩), undef, J1 0, .int .i64 (i : Int), .int .i64 (F.k i), .int .i64 (F.s i), .pointer (some ⟨b, 0, none⟩), .pointer (some ⟨b, 0, none⟩), .pointer (some ⟨b, 0, none⟩), .int .i8 F.w, .int .i64 F.w, .bool true, .bool false, .bool false, .pointer (some ⟨b, 0, none⟩), .pointer (some ⟨b, 0, none⟩), .pointer (some ⟨b, 1, none⟩), .int .i8 F.h, .int .i64 F.h, .bool true, .bool (!(inB F.h 1 10)), .bool (!(inB F.h 1 10)), .int .i64 (i : Int), .bool true, J1 5, J1 6, .pointer (some ⟨b, 0, none⟩), .int .i64 (i : Int), .pointer (some ⟨b, 0, none⟩), .pointer (some ⟨b, 2, none⟩), .pointer (some ⟨b, 2 + i, none⟩), .int .u8 (F.k i), .int .i64 (F.k i), .pointer (some ⟨b, 0, none⟩), .int .i64 (i : Int), .pointer (some ⟨b, 0, none⟩), .pointer (some ⟨b, 102, none⟩), .pointer (some ⟨b, 102 + i, none⟩), .int .i16 (F.s i), .int .i64 (F.s i), .int .i64 (F.k i), .bool true, .bool false, .bool false, .int .i64 (F.s i), .bool true, .bool false, .bool false, .bool false, J1 30, J1 31, J1 32, J1 33, J1 34, J1 35, J1 36, J1 37, J1 38, J1 39, J1 40, J1 41, J1 42, J1 43, J1 44, J1 45, J1 46, J1 47, J1 48], []⟩) (by simp only [h5, Bool.not_true, Bool.not_false]) ?_
            have hk6 := h5
            try simp only [decide_eq_true_eq, decide_eq_false_iff_not, Bool.and_eq_true, Bool.or_eq_true, Bool.and_eq_false_iff, Bool.or_eq_false_iff, Bool.not_eq_true', Bool.not_eq_false', beq_iff_eq, beq_eq_false_iff_ne, bne_iff_ne, bne_eq_false_iff_eq, gt_iff_lt, ge_iff_le, ne_eq, Decidable.not_not, Int.not_lt, Int.not_le, inB] at h5
            refine wpl_val (.int .i64 (F.k i)) (.int .i64 (F.k i)) rfl (by kernel_rfl) (by kernel_rfl) rfl ?_
            refine wpl_val (.bool ((F.k i) != 0)) (.bool ((F.k i) != 0)) rfl (by kernel_rfl) (by kernel_rfl) rfl ?_
            refine wpl_val (.bool ((F.k i) != 0)) (.bool ((F.k i) != 0)) rfl (by kernel_rfl) (by kernel_rfl) rfl ?_
            refine wpl_frame (a' := ⟨#[.pointer (some ⟨b, 0, none⟩), undef, J1 0, .int .i64 (i : Int), .int .i64 (F.k i), .int .i64 (F.s i), .pointer (some ⟨b, 0, none⟩), .pointer (some ⟨b, 0, none⟩), .pointer (some ⟨b, 0, none⟩), .int .i8 F.w, .int .i64 F.w, .bool true, .bool false, .bool false, .pointer (some ⟨b, 0, none⟩), .pointer (some ⟨b, 0, none⟩), .pointer (some ⟨b, 1, none⟩), .int .i8 F.h, .int .i64 F.h, .bool true, .bool (!(inB F.h 1 10)), .bool (!(inB F.h 1 10)), .int .i64 (i : Int), .bool true, J1 5, J1 6, .pointer (some ⟨b, 0, none⟩), .int .i64 (i : Int), .pointer (some ⟨b, 0, none⟩), .pointer (some ⟨b, 2, none⟩), .pointer (some ⟨b, 2 + i, none⟩), .int .u8 (F.k i), .int .i64 (F.k i), .pointer (some ⟨b, 0, none⟩), .int .i64 (i : Int), .pointer (some ⟨b, 0, none⟩), .pointer (some ⟨b, 102, none⟩), .pointer (some ⟨b, 102 + i, none⟩), .int .i16 (F.s i), .int .i64 (F.s i), .int .i64 (F.k i), .bool true, .bool false, .bool false, .int .i64 (F.s i), .bool true, .bool false, .bool false, .bool false, .int .i64 (F.k i), .bool ((F.k i) != 0), .bool ((F.k i) != 0), J1 33, J1 34, J1 35, J1 36, J1 37, J1 38, J1 39, J1 40, J1 41, J1 42, J1 43, J1 44, J1 45, J1 46, J1 47, J1 48], []⟩) (by kernel_rfl) ?_
            refine split_bool ((F.k i) != 0) (fun h6 => ?_) (fun h6 => ?_)
            · skip
              refine wpl_frame (a' := ⟨#[.pointer (some ⟨b, 0, none⟩), undef, J1 0, .int .i64 (i : Int), .int .i64 (F.k i), .int .i64 (F.s i), .pointer (some ⟨b, 0, none⟩), .pointer (some ⟨b, 0, none⟩), .pointer (some ⟨b, 0, none⟩), .int .i8 F.w, .int .i64 F.w, .bool true, .bool false, .bool false, .pointer (some ⟨b, 0, none⟩), .pointer (some ⟨b, 0, none⟩), .pointer (some ⟨b, 1, none⟩), .int .i8 F.h, .int .i64 F.h, .bool true, .bool (!(inB F.h 1 10)), .bool (!(inB F.h 1 10)), .int .i64 (i : Int), .bool true, J1 5, J1 6, .pointer (some ⟨b, 0, none⟩), .int .i64 (i : Int), .pointer (some ⟨b, 0, none⟩), .pointer (some ⟨b, 2, none⟩), .pointer (some ⟨b, 2 + i, none⟩), .int .u8 (F.k i), .int .i64 (F.k i), .pointer (some ⟨b, 0, none⟩), .int .i64 (i : Int), .pointer (some ⟨b, 0, none⟩), .pointer (some ⟨b, 102, none⟩), .pointer (some ⟨b, 102 + i, none⟩), .int .i16 (F.s i), .int .i64 (F.s i), .int .i64 (F.k i), .bool true, .bool false, .bool false, .int .i64 (F.s i), .bool true, .bool false, .bool false, .bool false, .int .i64 (F.k i), .bool true, .bool true, J1 33, J1 34, J1 35, J1 36, J1 37, J1 38, J1 39, J1 40, J1 41, J1 42, J1 43, J1 44, J1 45, J1 46, J1 47, J1 48], []⟩) (by simp only [h6, Bool.not_true, Bool.not_false]) ?_
              have hk7 := h6
              try simp only [decide_eq_true_eq, decide_eq_false_iff_not, Bool.and_eq_true, Bool.or_eq_true, Bool.and_eq_false_iff, Bool.or_eq_false_iff, Bool.not_eq_true', Bool.not_eq_false', beq_iff_eq, beq_eq_false_iff_ne, bne_iff_ne, bne_eq_false_iff_eq, gt_iff_lt, ge_iff_le, ne_eq, Decidable.not_not, Int.not_lt, Int.not_le, inB] at h6
              refine wpl_val (.int .i64 (F.s i)) (.int .i64 (F.s i)) rfl (by kernel_rfl) (by kernel_rfl) rfl ?_
              refine wpl_val (.bool ((F.s i) != 0)) (.bool ((F.s i) != 0)) rfl (by kernel_rfl) (by kernel_rfl) rfl ?_
              refine wpl_val (.bool ((F.s i) != 0)) (.bool ((F.s i) != 0)) rfl (by kernel_rfl) (by kernel_rfl) rfl ?_
              refine wpl_val (.bool ((F.s i) != 0)) (.bool ((F.s i) != 0)) rfl (by kernel_rfl) (by kernel_rfl) rfl ?_
              refine wpList_nil ?_
              refine then_normal ?_
              refine wp_frame (a' := ⟨#[.pointer (some ⟨b, 0, none⟩), undef, J1 0, .int .i64 (i : Int), .int .i64 (F.k i), .int .i64 (F.s i), .pointer (some ⟨b, 0, none⟩), .pointer (some ⟨b, 0, none⟩), .pointer (some ⟨b, 0, none⟩), .int .i8 F.w, .int .i64 F.w, .bool true, .bool false, .bool false, .pointer (some ⟨b, 0, none⟩), .pointer (some ⟨b, 0, none⟩), .pointer (some ⟨b, 1, none⟩), .int .i8 F.h, .int .i64 F.h, .bool true, .bool (!(inB F.h 1 10)), .bool (!(inB F.h 1 10)), .int .i64 (i : Int), .bool true, J1 5, J1 6, .pointer (some ⟨b, 0, none⟩), .int .i64 (i : Int), .pointer (some ⟨b, 0, none⟩), .pointer (some ⟨b, 2, none⟩), .pointer (some ⟨b, 2 + i, none⟩), .int .u8 (F.k i), .int .i64 (F.k i), .pointer (some ⟨b, 0, none⟩), .int .i64 (i : Int), .pointer (some ⟨b, 0, none⟩), .pointer (some ⟨b, 102, none⟩), .pointer (some ⟨b, 102 + i, none⟩), .int .i16 (F.s i), .int .i64 (F.s i), .int .i64 (F.k i), .bool true, .bool false, .bool false, .int .i64 (F.s i), .bool true, .bool false, .bool false, .bool false, .int .i64 (F.k i), .bool true, .bool true, .int .i64 (F.s i), .bool ((F.s i) != 0), .bool ((F.s i) != 0), .bool ((F.s i) != 0), J1 37, J1 38, J1 39, J1 40, J1 41, J1 42, J1 43, J1 44, J1 45, J1 46, J1 47, J1 48], []⟩) (by kernel_rfl) ?_
              refine wp_cond_split (t := (F.s i) != 0) rfl (fun h7 => ?_) (fun h7 => ?_)
              · skip
                have hk8 := h7
                try simp only [decide_eq_true_eq, decide_eq_false_iff_not, Bool.and_eq_true, Bool.or_eq_true, Bool.and_eq_false_iff, Bool.or_eq_false_iff, Bool.not_eq_true', Bool.not_eq_false', beq_iff_eq, beq_eq_false_iff_ne, bne_iff_ne, bne_eq_false_iff_eq, gt_iff_lt, ge_iff_le, ne_eq, Decidable.not_not, Int.not_lt, Int.not_le, inB] at h7
                refine wp_seq ?_
                refine wp_region_lit ?_
                refine wpl_val (.bool false) (.bool false) rfl (by kernel_rfl) (by kernel_rfl) rfl ?_
                refine wpl_frame (a' := ⟨#[.pointer (some ⟨b, 0, none⟩), undef, .bool false, .int .i64 (i : Int), .int .i64 (F.k i), .int .i64 (F.s i), .pointer (some ⟨b, 0, none⟩), .pointer (some ⟨b, 0, none⟩), .pointer (some ⟨b, 0, none⟩), .int .i8 F.w, .int .i64 F.w, .bool true, .bool false, .bool false, .pointer (some ⟨b, 0, none⟩), .pointer (some ⟨b, 0, none⟩), .pointer (some ⟨b, 1, none⟩), .int .i8 F.h, .int .i64 F.h, .bool true, .bool (!(inB F.h 1 10)), .bool (!(inB F.h 1 10)), .int .i64 (i : Int), .bool true, J1 5, J1 6, .pointer (some ⟨b, 0, none⟩), .int .i64 (i : Int), .pointer (some ⟨b, 0, none⟩), .pointer (some ⟨b, 2, none⟩), .pointer (some ⟨b, 2 + i, none⟩), .int .u8 (F.k i), .int .i64 (F.k i), .pointer (some ⟨b, 0, none⟩), .int .i64 (i : Int), .pointer (some ⟨b, 0, none⟩), .pointer (some ⟨b, 102, none⟩), .pointer (some ⟨b, 102 + i, none⟩), .int .i16 (F.s i), .int .i64 (F.s i), .int .i64 (F.k i), .bool true, .bool false, .bool false, .int .i64 (F.s i), .bool true, .bool false, .bool false, .bool false, .int .i64 (F.k i), .bool true, .bool true, .int .i64 (F.s i), .bool ((F.s i) != 0), .bool ((F.s i) != 0), .bool ((F.s i) != 0), J1 37, J1 38, J1 39, J1 40, J1 41, J1 42, J1 43, J1 44, J1 45, J1 46, J1 47, J1 48], []⟩) (by kernel_rfl) ?_
                refine wpl_frame (a' := ⟨#[.pointer (some ⟨b, 0, none⟩), undef, .bool false, .int .i64 (i : Int), .int .i64 (F.k i), .int .i64 (F.s i), .pointer (some ⟨b, 0, none⟩), .pointer (some ⟨b, 0, none⟩), .pointer (some ⟨b, 0, none⟩), .int .i8 F.w, .int .i64 F.w, .bool true, .bool false, .bool false, .pointer (some ⟨b, 0, none⟩), .pointer (some ⟨b, 0, none⟩), .pointer (some ⟨b, 1, none⟩), .int .i8 F.h, .int .i64 F.h, .bool true, .bool (!(inB F.h 1 10)), .bool (!(inB F.h 1 10)), .int .i64 (i : Int), .bool true, J1 5, J1 6, .pointer (some ⟨b, 0, none⟩), .int .i64 (i : Int), .pointer (some ⟨b, 0, none⟩), .pointer (some ⟨b, 2, none⟩), .pointer (some ⟨b, 2 + i, none⟩), .int .u8 (F.k i), .int .i64 (F.k i), .pointer (some ⟨b, 0, none⟩), .int .i64 (i : Int), .pointer (some ⟨b, 0, none⟩), .pointer (some ⟨b, 102, none⟩), .pointer (some ⟨b, 102 + i, none⟩), .int .i16 (F.s i), .int .i64 (F.s i), .int .i64 (F.k i), .bool true, .bool false, .bool false, .int .i64 (F.s i), .bool true, .bool false, .bool false, .bool false, .int .i64 (F.k i), .bool true, .bool true, .int .i64 (F.s i), .bool true, .bool true, .bool true, J1 37, J1 38, J1 39, J1 40, J1 41, J1 42, J1 43, J1 44, J1 45, J1 46, J1 47, J1 48], []⟩) (by simp only [hk8, Bool.not_true, Bool.not_false]) ?_
                refine wpList_nil ?_
                refine then_normal ?_
                refine wp_frame (a' := ⟨#[.pointer (some ⟨b, 0, none⟩), undef, .bool false, .int .i64 (i : Int), .int .i64 (F.k i), .int .i64 (F.s i), .pointer (some ⟨b, 0, none⟩), .pointer (some ⟨b, 0, none⟩), .pointer (some ⟨b, 0, none⟩), .int .i8 F.w, .int .i64 F.w, .bool true, .bool false, .bool false, .pointer (some ⟨b, 0, none⟩), .pointer (some ⟨b, 0, none⟩), .pointer (some ⟨b, 1, none⟩), .int .i8 F.h, .int .i64 F.h, .bool true, .bool (!(inB F.h 1 10)), .bool (!(inB F.h 1 10)), .int .i64 (i : Int), .bool true, J1 5, J1 6, .pointer (some ⟨b, 0, none⟩), .int .i64 (i : Int), .pointer (some ⟨b, 0, none⟩), .pointer (some ⟨b, 2, none⟩), .pointer (some ⟨b, 2 + i, none⟩), .int .u8 (F.k i), .int .i64 (F.k i), .pointer (some ⟨b, 0, none⟩), .int .i64 (i : Int), .pointer (some ⟨b, 0, none⟩), .pointer (some ⟨b, 102, none⟩), .pointer (some ⟨b, 102 + i, none⟩), .int .i16 (F.s i), .int .i64 (F.s i), .int .i64 (F.k i), .bool true, .bool false, .bool false, .int .i64 (F.s i), .bool true, .bool false, .bool false, .bool false, .int .i64 (F.k i), .bool true, .bool true, .int .i64 (F.s i), .bool true, .bool true, .bool true, J1 37, J1 38, J1 39, J1 40, J1 41, J1 42, J1 43, J1 44, J1 45, J1 46, J1 47, J1 48], []⟩) (by kernel_rfl) ?_
                refine wp_ret ?_
                refine then_ret ?_
                refine block_ret ?_
                refine then_ret ?_
                refine then_ret ?_
                refine block_ret ?_
                refine then_ret ?_
                refine body_frame (a' := ⟨#[.pointer (some ⟨b, 0, none⟩), undef, .bool false, .int .i64 (i : Int), .int .i64 (F.k i), .int .i64 (F.s i), .pointer (some ⟨b, 0, none⟩), .pointer (some ⟨b, 0, none⟩), .pointer (some ⟨b, 0, none⟩), .int .i8 F.w, .int .i64 F.w, .bool true, .bool false, .bool false, .pointer (some ⟨b, 0, none⟩), .pointer (some ⟨b, 0, none⟩), .pointer (some ⟨b, 1, none⟩), .int .i8 F.h, .int .i64 F.h, .bool true, .bool (!(inB F.h 1 10)), .bool (!(inB F.h 1 10)), .int .i64 (i : Int), .bool true, J1 5, J1 6, .pointer (some ⟨b, 0, none⟩), .int .i64 (i : Int), .pointer (some ⟨b, 0, none⟩), .pointer (some ⟨b, 2, none⟩), .pointer (some ⟨b, 2 + i, none⟩), .int .u8 (F.k i), .int .i64 (F.k i), .pointer (some ⟨b, 0, none⟩), .int .i64 (i : Int), .pointer (some ⟨b, 0, none⟩), .pointer (some ⟨b, 102, none⟩), .pointer (some ⟨b, 102 + i, none⟩), .int .i16 (F.s i), .int .i64 (F.s i), .int .i64 (F.k i), .bool true, .bool false, .bool false, .int .i64 (F.s i), .bool true, .bool false, .bool false, .bool false, .int .i64 (F.k i), .bool true, .bool true, .int .i64 (F.s i), .bool true, .bool true, .bool true, J1 37, J1 38, J1 39, J1 40, J1 41, J1 42, J1 43, J1 44, J1 45, J1 46, J1 47, J1 48], []⟩) (by kernel_rfl) ?_
                refine ret1 (.bool (okB F)) rfl ?_ rfl ?_
                · show (.bool false : Value) = (.bool (okB F))
                  refine congrArg Value.bool ?_
                  first | exact (okB_w (by omega)).symm | exact (okB_h (by omega)).symm | exact (okB_true.2 ⟨by omega, by omega, by omega, by omega, fun j hj => hall j (by omega)⟩).symm | skip
                  all_goals (refine (okB_c i (by omega) ?_).symm)
                  all_goals (first | (rw [celB_in (by assumption)]; exact decide_eq_false (by omega)) | (rw [celB_out (by assumption)]; exact decide_eq_false (by omega)) | (cases hq_ : isB F (i : Int) with | false => (rw [celB_out hq_]; exact decide_eq_false (by omega)) | true => (rw [celB_in hq_]; exact decide_eq_false (by omega))))
                exact ⟨rfl, H4⟩
              · skip
                have hk9 := h7
                try simp only [decide_eq_true_eq, decide_eq_false_iff_not, Bool.and_eq_true, Bool.or_eq_true, Bool.and_eq_false_iff, Bool.or_eq_false_iff, Bool.not_eq_true', Bool.not_eq_false', beq_iff_eq, beq_eq_false_iff_ne, bne_iff_ne, bne_eq_false_iff_eq, gt_iff_lt, ge_iff_le, ne_eq, Decidable.not_not, Int.not_lt, Int.not_le, inB] at h7
                refine wp_skip ?_
                refine then_normal ?_
                refine wp_frame (a' := ⟨#[.pointer (some ⟨b, 0, none⟩), undef, J1 0, .int .i64 (i : Int), .int .i64 (F.k i), .int .i64 (F.s i), .pointer (some ⟨b, 0, none⟩), .pointer (some ⟨b, 0, none⟩), .pointer (some ⟨b, 0, none⟩), .int .i8 F.w, .int .i64 F.w, .bool true, .bool false, .bool false, .pointer (some ⟨b, 0, none⟩), .pointer (some ⟨b, 0, none⟩), .pointer (some ⟨b, 1, none⟩), .int .i8 F.h, .int .i64 F.h, .bool true, .bool (!(inB F.h 1 10)), .bool (!(inB F.h 1 10)), .int .i64 (i : Int), .bool true, J1 5, J1 6, .pointer (some ⟨b, 0, none⟩), .int .i64 (i : Int), .pointer (some ⟨b, 0, none⟩), .pointer (some ⟨b, 2, none⟩), .pointer (some ⟨b, 2 + i, none⟩), .int .u8 (F.k i), .int .i64 (F.k i), .pointer (some ⟨b, 0, none⟩), .int .i64 (i : Int), .pointer (some ⟨b, 0, none⟩), .pointer (some ⟨b, 102, none⟩), .pointer (some ⟨b, 102 + i, none⟩), .int .i16 (F.s i), .int .i64 (F.s i), .int .i64 (F.k i), .bool true, .bool false, .bool false, .int .i64 (F.s i), .bool true, .bool false, .bool false, .bool false, .int .i64 (F.k i), .bool true, .bool true, .int .i64 (F.s i), .bool ((F.s i) != 0), .bool ((F.s i) != 0), .bool ((F.s i) != 0), J1 37, J1 38, J1 39, J1 40, J1 41, J1 42, J1 43, J1 44, J1 45, J1 46, J1 47, J1 48], []⟩) (by kernel_rfl) ?_
                refine wp_seq ?_
                refine wp_region_lit ?_
                refine wpl_val (.pointer (some ⟨b, 0, none⟩)) (.pointer (some ⟨b, 0, none⟩)) rfl (by kernel_rfl) (by kernel_rfl) rfl ?_
                refine wpl_frame (a' := ⟨#[.pointer (some ⟨b, 0, none⟩), undef, J1 0, .int .i64 (i : Int), .int .i64 (F.k i), .int .i64 (F.s i), .pointer (some ⟨b, 0, none⟩), .pointer (some ⟨b, 0, none⟩), .pointer (some ⟨b, 0, none⟩), .int .i8 F.w, .int .i64 F.w, .bool true, .bool false, .bool false, .pointer (some ⟨b, 0, none⟩), .pointer (some ⟨b, 0, none⟩), .pointer (some ⟨b, 1, none⟩), .int .i8 F.h, .int .i64 F.h, .bool true, .bool (!(inB F.h 1 10)), .bool (!(inB F.h 1 10)), .int .i64 (i : Int), .bool true, J1 5, J1 6, .pointer (some ⟨b, 0, none⟩), .int .i64 (i : Int), .pointer (some ⟨b, 0, none⟩), .pointer (some ⟨b, 2, none⟩), .pointer (some ⟨b, 2 + i, none⟩), .int .u8 (F.k i), .int .i64 (F.k i), .pointer (some ⟨b, 0, none⟩), .int .i64 (i : Int), .pointer (some ⟨b, 0, none⟩), .pointer (some ⟨b, 102, none⟩), .pointer (some ⟨b, 102 + i, none⟩), .int .i16 (F.s i), .int .i64 (F.s i), .int .i64 (F.k i), .bool true, .bool false, .bool false, .int .i64 (F.s i), .bool true, .bool false, .bool false, .bool false, .int .i64 (F.k i), .bool true, .bool true, .int .i64 (F.s i), .bool ((F.s i) != 0), .bool ((F.s i) != 0), .bool ((F.s i) != 0), .pointer (some ⟨b, 0, none⟩), J1 38, J1 39, J1 40, J1 41, J1 42, J1 43, J1 44, J1 45, J1 46, J1 47, J1 48], []⟩) (by kernel_rfl) ?_
                refine wpl_frame (a' := ⟨#[.pointer (some ⟨b, 0, none⟩), undef, J1 0, .int .i64 (i : Int), .int .i64 (F.k i), .int .i64 (F.s i), .pointer (some ⟨b, 0, none⟩), .pointer (some ⟨b, 0, none⟩), .pointer (some ⟨b, 0, none⟩), .int .i8 F.w, .int .i64 F.w, .bool true, .bool false, .bool false, .pointer (some ⟨b, 0, none⟩), .pointer (some ⟨b, 0, none⟩), .pointer (some ⟨b, 1, none⟩), .int .i8 F.h, .int .i64 F.h, .bool true, .bool (!(inB F.h 1 10)), .bool (!(inB F.h 1 10)), .int .i64 (i : Int), .bool true, J1 5, J1 6, .pointer (some ⟨b, 0, none⟩), .int .i64 (i : Int), .pointer (some ⟨b, 0, none⟩), .pointer (some ⟨b, 2, none⟩), .pointer (some ⟨b, 2 + i, none⟩), .int .u8 (F.k i), .int .i64 (F.k i), .pointer (some ⟨b, 0, none⟩), .int .i64 (i : Int), .pointer (some ⟨b, 0, none⟩), .pointer (some ⟨b, 102, none⟩), .pointer (some ⟨b, 102 + i, none⟩), .int .i16 (F.s i), .int .i64 (F.s i), .int .i64 (F.k i), .bool true, .bool false, .bool false, .int .i64 (F.s i), .bool true, .bool false, .bool false, .bool false, .int .i64 (F.k i), .bool true, .bool true, .int .i64 (F.s i), .bool false, .bool false, .bool false, .pointer (some ⟨b, 0, none⟩), J1 38, J1 39, J1 40, J1 41, J1 42, J1 43, J1 44, J1 45, J1 46, J1 47, J1 48], []⟩) (by simp only [hk9, Bool.not_true, Bool.not_false]) ?_
                refine wpl_val (.int .i64 (i : Int)) (.int .i64 (i : Int)) rfl (by kernel_rfl) (by kernel_rfl) rfl ?_
                refine wpl_call (57) #[.pointer (some ⟨b, 0, none⟩), .int .i64 (i : Int)] rfl (by kernel_rfl) (by kernel_rfl) (l01Is_any F hF b _ _ _ hb) ?_
                intro w5 E5
                replace hb := hb.ext E5
                have H5 := (H4).trans E5
                clear E5
                refine wpl_val (.bool (!(isB F (i : Int)))) (.bool (!(isB F (i : Int)))) rfl (by kernel_rfl) (by kernel_rfl) rfl ?_
                refine wpl_val (.bool (!(isB F (i : Int)))) (.bool (!(isB F (i : Int)))) rfl (by kernel_rfl) (by kernel_rfl) rfl ?_
                refine wpl_frame (a' := ⟨#[.pointer (some ⟨b, 0, none⟩), undef, J1 0, .int .i64 (i : Int), .int .i64 (F.k i), .int .i64 (F.s i), .pointer (some ⟨b, 0, none⟩), .pointer (some ⟨b, 0, none⟩), .pointer (some ⟨b, 0, none⟩), .int .i8 F.w, .int .i64 F.w, .bool true, .bool false, .bool false, .pointer (some ⟨b, 0, none⟩), .pointer (some ⟨b, 0, none⟩), .pointer (some ⟨b, 1, none⟩), .int .i8 F.h, .int .i64 F.h, .bool true, .bool (!(inB F.h 1 10)), .bool (!(inB F.h 1 10)), .int .i64 (i : Int), .bool true, J1 5, J1 6, .pointer (some ⟨b, 0, none⟩), .int .i64 (i : Int), .pointer (some ⟨b, 0, none⟩), .pointer (some ⟨b, 2, none⟩), .pointer (some ⟨b, 2 + i, none⟩), .int .u8 (F.k i), .int .i64 (F.k i), .pointer (some ⟨b, 0, none⟩), .int .i64 (i : Int), .pointer (some ⟨b, 0, none⟩), .pointer (some ⟨b, 102, none⟩), .pointer (some ⟨b, 102 + i, none⟩), .int .i16 (F.s i), .int .i64 (F.s i), .int .i64 (F.k i), .bool true, .bool false, .bool false, .int .i64 (F.s i), .bool true, .bool false, .bool false, .bool false, .int .i64 (F.k i), .bool true, .bool true, .int .i64 (F.s i), .bool false, .bool false, .bool false, .pointer (some ⟨b, 0, none⟩), .int .i64 (i : Int), .bool (isB F (i : Int)), .bool (!(isB F (i : Int))), .bool (!(isB F (i : Int))), J1 42, J1 43, J1 44, J1 45, J1 46, J1 47, J1 48], []⟩) (by kernel_rfl) ?_
                refine split_bool (isB F (i : Int)) (fun h8 => ?_) (fun h8 => ?_)
                · skip
                  refine wpl_frame (a' := ⟨#[.pointer (some ⟨b, 0, none⟩), undef, J1 0, .int .i64 (i : Int), .int .i64 (F.k i), .int .i64 (F.s i), .pointer (some ⟨b, 0, none⟩), .pointer (some ⟨b, 0, none⟩), .pointer (some ⟨b, 0, none⟩), .int .i8 F.w, .int .i64 F.w, .bool true, .bool false, .bool false, .pointer (some ⟨b, 0, none⟩), .pointer (some ⟨b, 0, none⟩), .pointer (some ⟨b, 1, none⟩), .int .i8 F.h, .int .i64 F.h, .bool true, .bool (!(inB F.h 1 10)), .bool (!(inB F.h 1 10)), .int .i64 (i : Int), .bool true, J1 5, J1 6, .pointer (some ⟨b, 0, none⟩), .int .i64 (i : Int), .pointer (some ⟨b, 0, none⟩), .pointer (some ⟨b, 2, none⟩), .pointer (some ⟨b, 2 + i, none⟩), .int .u8 (F.k i), .int .i64 (F.k i), .pointer (some ⟨b, 0, none⟩), .int .i64 (i : Int), .pointer (some ⟨b, 0, none⟩), .pointer (some ⟨b, 102, none⟩), .pointer (some ⟨b, 102 + i, none⟩), .int .i16 (F.s i), .int .i64 (F.s i), .int .i64 (F.k i), .bool true, .bool false, .bool false, .int .i64 (F.s i), .bool true, .bool false, .bool false, .bool false, .int .i64 (F.k i), .bool true, .bool true, .int .i64 (F.s i), .bool false, .bool false, .bool false, .pointer (some ⟨b, 0, none⟩), .int .i64 (i : Int), .bool true, .bool false, .bool false, J1 42, J1 43, J1 44, J1 45, J1 46, J1 47, J1 48], []⟩) (by simp only [h8, Bool.not_true, Bool.not_false]) ?_
                  have hk10 := h8
                  try simp only [decide_eq_true_eq, decide_eq_false_iff_not, Bool.and_eq_true, Bool.or_eq_true, Bool.and_eq_false_iff, Bool.or_eq_false_iff, Bool.not_eq_true', Bool.not_eq_false', beq_iff_eq, beq_eq_false_iff_ne, bne_iff_ne, bne_eq_false_iff_eq, gt_iff_lt, ge_iff_le, ne_eq, Decidable.not_not, Int.not_lt, Int.not_le, inB] at h8
                  refine wpl_skip rfl (by kernel_rfl) ?_
                  refine wpl_skip rfl (by kernel_rfl) ?_
                  refine wpl_skip rfl (by kernel_rfl) ?_
                  refine wpl_skip rfl (by kernel_rfl) ?_
                  refine wpl_skip rfl (by kernel_rfl) ?_
                  refine wpl_skip rfl (by kernel_rfl) ?_
                  refine wpl_val (.bool false) (.bool false) rfl (by kernel_rfl) (by kernel_rfl) rfl ?_
                  refine wpList_nil ?_
                  refine then_normal ?_
                  refine wp_frame (a' := ⟨#[.pointer (some ⟨b, 0, none⟩), undef, J1 0, .int .i64 (i : Int), .int .i64 (F.k i), .int .i64 (F.s i), .pointer (some ⟨b, 0, none⟩), .pointer (some ⟨b, 0, none⟩), .pointer (some ⟨b, 0, none⟩), .int .i8 F.w, .int .i64 F.w, .bool true, .bool false, .bool false, .pointer (some ⟨b, 0, none⟩), .pointer (some ⟨b, 0, none⟩), .pointer (some ⟨b, 1, none⟩), .int .i8 F.h, .int .i64 F.h, .bool true, .bool (!(inB F.h 1 10)), .bool (!(inB F.h 1 10)), .int .i64 (i : Int), .bool true, J1 5, J1 6, .pointer (some ⟨b, 0, none⟩), .int .i64 (i : Int), .pointer (some ⟨b, 0, none⟩), .pointer (some ⟨b, 2, none⟩), .pointer (some ⟨b, 2 + i, none⟩), .int .u8 (F.k i), .int .i64 (F.k i), .pointer (some ⟨b, 0, none⟩), .int .i64 (i : Int), .pointer (some ⟨b, 0, none⟩), .pointer (some ⟨b, 102, none⟩), .pointer (some ⟨b, 102 + i, none⟩), .int .i16 (F.s i), .int .i64 (F.s i), .int .i64 (F.k i), .bool true, .bool false, .bool false, .int .i64 (F.s i), .bool true, .bool false, .bool false, .bool false, .int .i64 (F.k i), .bool true, .bool true, .int .i64 (F.s i), .bool false, .bool false, .bool false, .pointer (some ⟨b, 0, none⟩), .int .i64 (i : Int), .bool true, .bool false, .bool false, undef, undef, undef, undef, undef, undef, .bool false], []⟩) (by kernel_rfl) ?_
                  refine wp_cond_false rfl ?_
                  refine wp_skip ?_
                  refine block_normal ?_
                  refine then_normal ?_
                  refine wp_frame (a' := ⟨#[.pointer (some ⟨b, 0, none⟩), undef, J1 0, .int .i64 (i : Int), .int .i64 (F.k i), .int .i64 (F.s i), .pointer (some ⟨b, 0, none⟩), .pointer (some ⟨b, 0, none⟩), .pointer (some ⟨b, 0, none⟩), .int .i8 F.w, .int .i64 F.w, .bool true, .bool false, .bool false, .pointer (some ⟨b, 0, none⟩), .pointer (some ⟨b, 0, none⟩), .pointer (some ⟨b, 1, none⟩), .int .i8 F.h, .int .i64 F.h, .bool true, .bool (!(inB F.h 1 10)), .bool (!(inB F.h 1 10)), .int .i64 (i : Int), .bool true, J1 5, J1 6, .pointer (some ⟨b, 0, none⟩), .int .i64 (i : Int), .pointer (some ⟨b, 0, none⟩), .pointer (some ⟨b, 2, none⟩), .pointer (some ⟨b, 2 + i, none⟩), .int .u8 (F.k i), .int .i64 (F.k i), .pointer (some ⟨b, 0, none⟩), .int .i64 (i : Int), .pointer (some ⟨b, 0, none⟩), .pointer (some ⟨b, 102, none⟩), .pointer (some ⟨b, 102 + i, none⟩), .int .i16 (F.s i), .int .i64 (F.s i), .int .i64 (F.k i), .bool true, .bool false, .bool false, .int .i64 (F.s i), .bool true, .bool false, .bool false, .bool false, .int .i64 (F.k i), .bool true, .bool true, .int .i64 (F.s i), .bool false, .bool false, .bool false, .pointer (some ⟨b, 0, none⟩), .int .i64 (i : Int), .bool true, .bool false, .bool false, undef, undef, undef, undef, undef, undef, .bool false], []⟩) (by kernel_rfl) ?_
                  refine wp_region_lit ?_
                  refine wpl_val (.int .i64 (i : Int)) (.int .i64 (i : Int)) rfl (by kernel_rfl) (by kernel_rfl) rfl ?_
                  refine wpl_val (.int .i64 (IntKind.i64.wrap ((i : Int) + 1))) (.int .i64 ((i : Int) + 1)) rfl (by kernel_rfl) (by kernel_rfl) (by exact congrArg _ (IntWalk.i64_in _ (by omega))) ?_
                  refine wpl_val (.int .i64 ((i : Int) + 1)) (.int .i64 ((i : Int) + 1)) rfl (by kernel_rfl) (by kernel_rfl) rfl ?_
                  refine wpList_nil ?_
                  refine then_normal ?_
                  refine ⟨_, ?_, i + 1, fun i_ => ([J1 0, .int .i64 (F.k i), .int .i64 (F.s i), .int .i64 (i : Int), .bool true, .int .i64 (i : Int), .int .i64 ((i : Int) + 1), .pointer (some ⟨b, 0, none⟩), .int .i64 (i : Int), .pointer (some ⟨b, 0, none⟩), .pointer (some ⟨b, 2, none⟩), .pointer (some ⟨b, 2 + i, none⟩), .int .u8 (F.k i), .int .i64 (F.k i), .pointer (some ⟨b, 0, none⟩), .int .i64 (i : Int), .pointer (some ⟨b, 0, none⟩), .pointer (some ⟨b, 102, none⟩), .pointer (some ⟨b, 102 + i, none⟩), .int .i16 (F.s i), .int .i64 (F.s i), .int .i64 (F.k i), .bool true, .bool false, .bool false, .int .i64 (F.s i), .bool true, .bool false, .bool false, .bool false, .int .i64 (F.k i), .bool true, .bool true, .int .i64 (F.s i), .bool false, .bool false, .bool false, .pointer (some ⟨b, 0, none⟩), .int .i64 (i : Int), .bool true, .bool false, .bool false, undef, undef, undef, undef, undef, undef, .bool false] : List Value).getD i_ undef, rfl, ?_, ?_, H5, ?_, by kernel_rfl⟩
                  · omega
                  · omega
                  · refine all_step hall ?_
                    first | (rw [celB_in (by assumption)]; exact decide_eq_true (by omega)) | (rw [celB_out (by assumption)]; exact decide_eq_true (by omega))
                  · exact hb
                · skip
                  refine wpl_frame (a' := ⟨#[.pointer (some ⟨b, 0, none⟩), undef, J1 0, .int .i64 (i : Int), .int .i64 (F.k i), .int .i64 (F.s i), .pointer (some ⟨b, 0, none⟩), .pointer (some ⟨b, 0, none⟩), .pointer (some ⟨b, 0, none⟩), .int .i8 F.w, .int .i64 F.w, .bool true, .bool false, .bool false, .pointer (some ⟨b, 0, none⟩), .pointer (some ⟨b, 0, none⟩), .pointer (some ⟨b, 1, none⟩), .int .i8 F.h, .int .i64 F.h, .bool true, .bool (!(inB F.h 1 10)), .bool (!(inB F.h 1 10)), .int .i64 (i : Int), .bool true, J1 5, J1 6, .pointer (some ⟨b, 0, none⟩), .int .i64 (i : Int), .pointer (some ⟨b, 0, none⟩), .pointer (some ⟨b, 2, none⟩), .pointer (some ⟨b, 2 + i, none⟩), .int .u8 (F.k i), .int .i64 (F.k i), .pointer (some ⟨b, 0, none⟩), .int .i64 (i : Int), .pointer (some ⟨b, 0, none⟩), .pointer (some ⟨b, 102, none⟩), .pointer (some ⟨b, 102 + i, none⟩), .int .i16 (F.s i), .int .i64 (F.s i), .int .i64 (F.k i), .bool true, .bool false, .bool false, .int .i64 (F.s i), .bool true, .bool false, .bool false, .bool false, .int .i64 (F.k i), .bool true, .bool true, .int .i64 (F.s i), .bool false, .bool false, .bool false, .pointer (some ⟨b, 0, none⟩), .int .i64 (i : Int), .bool false, .bool true, .bool true, J1 42, J1 43, J1 44, J1 45, J1 46, J1 47, J1 48], []⟩) (by simp only [h8, Bool.not_true, Bool.not_false]) ?_
                  have hk11 := h8
                  try simp only [decide_eq_true_eq, decide_eq_false_iff_not, Bool.and_eq_true, Bool.or_eq_true, Bool.and_eq_false_iff, Bool.or_eq_false_iff, Bool.not_eq_true', Bool.not_eq_false', beq_iff_eq, beq_eq_false_iff_ne, bne_iff_ne, bne_eq_false_iff_eq, gt_iff_lt, ge_iff_le, ne_eq, Decidable.not_not, Int.not_lt, Int.not_le, inB] at h8
                  refine wpl_val (.int .i64 (F.k i)) (.int .i64 (F.k i)) rfl (by kernel_rfl) (by kernel_rfl) rfl ?_
                  refine wpl_val (.bool ((F.k i) != 0)) (.bool ((F.k i) != 0)) rfl (by kernel_rfl) (by kernel_rfl) rfl ?_
                  refine wpl_frame (a' := ⟨#[.pointer (some ⟨b, 0, none⟩), undef, J1 0, .int .i64 (i : Int), .int .i64 (F.k i), .int .i64 (F.s i), .pointer (some ⟨b, 0, none⟩), .pointer (some ⟨b, 0, none⟩), .pointer (some ⟨b, 0, none⟩), .int .i8 F.w, .int .i64 F.w, .bool true, .bool false, .bool false, .pointer (some ⟨b, 0, none⟩), .pointer (some ⟨b, 0, none⟩), .pointer (some ⟨b, 1, none⟩), .int .i8 F.h, .int .i64 F.h, .bool true, .bool (!(inB F.h 1 10)), .bool (!(inB F.h 1 10)), .int .i64 (i : Int), .bool true, J1 5, J1 6, .pointer (some ⟨b, 0, none⟩), .int .i64 (i : Int), .pointer (some ⟨b, 0, none⟩), .pointer (some ⟨b, 2, none⟩), .pointer (some ⟨b, 2 + i, none⟩), .int .u8 (F.k i), .int .i64 (F.k i), .pointer (some ⟨b, 0, none⟩), .int .i64 (i : Int), .pointer (some ⟨b, 0, none⟩), .pointer (some ⟨b, 102, none⟩), .pointer (some ⟨b, 102 + i, none⟩), .int .i16 (F.s i), .int .i64 (F.s i), .int .i64 (F.k i), .bool true, .bool false, .bool false, .int .i64 (F.s i), .bool true, .bool false, .bool false, .bool false, .int .i64 (F.k i), .bool true, .bool true, .int .i64 (F.s i), .bool false, .bool false, .bool false, .pointer (some ⟨b, 0, none⟩), .int .i64 (i : Int), .bool false, .bool true, .bool true, .int .i64 (F.k i), .bool ((F.k i) != 0), J1 44, J1 45, J1 46, J1 47, J1 48], []⟩) (by kernel_rfl) ?_
                  refine wpl_frame (a' := ⟨#[.pointer (some ⟨b, 0, none⟩), undef, J1 0, .int .i64 (i : Int), .int .i64 (F.k i), .int .i64 (F.s i), .pointer (some ⟨b, 0, none⟩), .pointer (some ⟨b, 0, none⟩), .pointer (some ⟨b, 0, none⟩), .int .i8 F.w, .int .i64 F.w, .bool true, .bool false, .bool false, .pointer (some ⟨b, 0, none⟩), .pointer (some ⟨b, 0, none⟩), .pointer (some ⟨b, 1, none⟩), .int .i8 F.h, .int .i64 F.h, .bool true, .bool (!(inB F.h 1 10)), .bool (!(inB F.h 1 10)), .int .i64 (i : Int), .bool true, J1 5, J1 6, .pointer (some ⟨b, 0, none⟩), .int .i64 (i : Int), .pointer (some ⟨b, 0, none⟩), .pointer (some ⟨b, 2, none⟩), .pointer (some ⟨b, 2 + i, none⟩), .int .u8 (F.k i), .int .i64 (F.k i), .pointer (some ⟨b, 0, none⟩), .int .i64 (i : Int), .pointer (some ⟨b, 0, none⟩), .pointer (some ⟨b, 102, none⟩), .pointer (some ⟨b, 102 + i, none⟩), .int .i16 (F.s i), .int .i64 (F.s i), .int .i64 (F.k i), .bool true, .bool false, .bool false, .int .i64 (F.s i), .bool true, .bool false, .bool false, .bool false, .int .i64 (F.k i), .bool true, .bool true, .int .i64 (F.s i), .bool false, .bool false, .bool false, .pointer (some ⟨b, 0, none⟩), .int .i64 (i : Int), .bool false, .bool true, .bool true, .int .i64 (F.k i), .bool true, J1 44, J1 45, J1 46, J1 47, J1 48], []⟩) (by simp only [hk7, Bool.not_true, Bool.not_false]) ?_
                  refine wpl_val (.bool true) (.bool true) rfl (by kernel_rfl) (by kernel_rfl) rfl ?_
                  refine wpl_skip rfl (by kernel_rfl) ?_
                  refine wpl_skip rfl (by kernel_rfl) ?_
                  refine wpl_val (.bool true) (.bool true) rfl (by kernel_rfl) (by kernel_rfl) rfl ?_
                  refine wpl_val (.bool true) (.bool true) rfl (by kernel_rfl) (by kernel_rfl) rfl ?_
                  refine wpList_nil ?_
                  refine then_normal ?_
                  refine wp_frame (a' := ⟨#[.pointer (some ⟨b, 0, none⟩), undef, J1 0, .int .i64 (i : Int), .int .i64 (F.k i), .int .i64 (F.s i), .pointer (some ⟨b, 0, none⟩), .pointer (some ⟨b, 0, none⟩), .pointer (some ⟨b, 0, none⟩), .int .i8 F.w, .int .i64 F.w, .bool true, .bool false, .bool false, .pointer (some ⟨b, 0, none⟩), .pointer (some ⟨b, 0, none⟩), .pointer (some ⟨b, 1, none⟩), .int .i8 F.h, .int .i64 F.h, .bool true, .bool (!(inB F.h 1 10)), .bool (!(inB F.h 1 10)), .int .i64 (i : Int), .bool true, J1 5, J1 6, .pointer (some ⟨b, 0, none⟩), .int .i64 (i : Int), .pointer (some ⟨b, 0, none⟩), .pointer (some ⟨b, 2, none⟩), .pointer (some ⟨b, 2 + i, none⟩), .int .u8 (F.k i), .int .i64 (F.k i), .pointer (some ⟨b, 0, none⟩), .int .i64 (i : Int), .pointer (some ⟨b, 0, none⟩), .pointer (some ⟨b, 102, none⟩), .pointer (some ⟨b, 102 + i, none⟩), .int .i16 (F.s i), .int .i64 (F.s i), .int .i64 (F.k i), .bool true, .bool false, .bool false, .int .i64 (F.s i), .bool true, .bool false, .bool false, .bool false, .int .i64 (F.k i), .bool true, .bool true, .int .i64 (F.s i), .bool false, .bool false, .bool false, .pointer (some ⟨b, 0, none⟩), .int .i64 (i : Int), .bool false, .bool true, .bool true, .int .i64 (F.k i), .bool true, .bool true, undef, undef, .bool true, .bool true], []⟩) (by kernel_rfl) ?_
                  refine wp_cond_true rfl ?_
                  refine wp_seq ?_
                  refine wp_region_lit ?_
                  refine wpl_val (.bool false) (.bool false) rfl (by kernel_rfl) (by kernel_rfl) rfl ?_
                  refine wpList_nil ?_
                  refine then_normal ?_
                  refine wp_frame (a' := ⟨#[.pointer (some ⟨b, 0, none⟩), undef, .bool false, .int .i64 (i : Int), .int .i64 (F.k i), .int .i64 (F.s i), .pointer (some ⟨b, 0, none⟩), .pointer (some ⟨b, 0, none⟩), .pointer (some ⟨b, 0, none⟩), .int .i8 F.w, .int .i64 F.w, .bool true, .bool false, .bool false, .pointer (some ⟨b, 0, none⟩), .pointer (some ⟨b, 0, none⟩), .pointer (some ⟨b, 1, none⟩), .int .i8 F.h, .int .i64 F.h, .bool true, .bool (!(inB F.h 1 10)), .bool (!(inB F.h 1 10)), .int .i64 (i : Int), .bool true, J1 5, J1 6, .pointer (some ⟨b, 0, none⟩), .int .i64 (i : Int), .pointer (some ⟨b, 0, none⟩), .pointer (some ⟨b, 2, none⟩), .pointer (some ⟨b, 2 + i, none⟩), .int .u8 (F.k i), .int .i64 (F.k i), .pointer (some ⟨b, 0, none⟩), .int .i64 (i : Int), .pointer (some ⟨b, 0, none⟩), .pointer (some ⟨b, 102, none⟩), .pointer (some ⟨b, 102 + i, none⟩), .int .i16 (F.s i), .int .i64 (F.s i), .int .i64 (F.k i), .bool true, .bool false, .bool false, .int .i64 (F.s i), .bool true, .bool false, .bool false, .bool false, .int .i64 (F.k i), .bool true, .bool true, .int .i64 (F.s i), .bool false, .bool false, .bool false, .pointer (some ⟨b, 0, none⟩), .int .i64 (i : Int), .bool false, .bool true, .bool true, .int .i64 (F.k i), .bool true, .bool true, undef, undef, .bool true, .bool true], []⟩) (by kernel_rfl) ?_
                  refine wp_ret ?_
                  refine block_ret ?_
                  refine then_ret ?_
                  refine then_ret ?_
                  refine block_ret ?_
                  refine then_ret ?_
                  refine body_frame (a' := ⟨#[.pointer (some ⟨b, 0, none⟩), undef, .bool false, .int .i64 (i : Int), .int .i64 (F.k i), .int .i64 (F.s i), .pointer (some ⟨b, 0, none⟩), .pointer (some ⟨b, 0, none⟩), .pointer (some ⟨b, 0, none⟩), .int .i8 F.w, .int .i64 F.w, .bool true, .bool false, .bool false, .pointer (some ⟨b, 0, none⟩), .pointer (some ⟨b, 0, none⟩), .pointer (some ⟨b, 1, none⟩), .int .i8 F.h, .int .i64 F.h, .bool true, .bool (!(inB F.h 1 10)), .bool (!(inB F.h 1 10)), .int .i64 (i : Int), .bool true, J1 5, J1 6, .pointer (some ⟨b, 0, none⟩), .int .i64 (i : Int), .pointer (some ⟨b, 0, none⟩), .pointer (some ⟨b, 2, none⟩), .pointer (some ⟨b, 2 + i, none⟩), .int .u8 (F.k i), .int .i64 (F.k i), .pointer (some ⟨b, 0, none⟩), .int .i64 (i : Int), .pointer (some ⟨b, 0, none⟩), .pointer (some ⟨b, 102, none⟩), .pointer (some ⟨b, 102 + i, none⟩), .int .i16 (F.s i), .int .i64 (F.s i), .int .i64 (F.k i), .bool true, .bool false, .bool false, .int .i64 (F.s i), .bool true, .bool false, .bool false, .bool false, .int .i64 (F.k i), .bool true, .bool true, .int .i64 (F.s i), .bool false, .bool false, .bool false, .pointer (some ⟨b, 0, none⟩), .int .i64 (i : Int), .bool false, .bool true, .bool true, .int .i64 (F.k i), .bool true, .bool true, undef, undef, .bool true, .bool true], []⟩) (by kernel_rfl) ?_
                  refine ret1 (.bool (okB F)) rfl ?_ rfl ?_
                  · show (.bool false : Value) = (.bool (okB F))
                    refine congrArg Value.bool ?_
                    first | exact (okB_w (by omega)).symm | exact (okB_h (by omega)).symm | exact (okB_true.2 ⟨by omega, by omega, by omega, by omega, fun j hj => hall j (by omega)⟩).symm | skip
                    all_goals (refine (okB_c i (by omega) ?_).symm)
                    all_goals (first | (rw [celB_in (by assumption)]; exact decide_eq_false (by omega)) | (rw [celB_out (by assumption)]; exact decide_eq_false (by omega)) | (cases hq_ : isB F (i : Int) with | false => (rw [celB_out hq_]; exact decide_eq_false (by omega)) | true => (rw [celB_in hq_]; exact decide_eq_false (by omega))))
                  exact ⟨rfl, H5⟩
            · skip
              refine wpl_frame (a' := ⟨#[.pointer (some ⟨b, 0, none⟩), undef, J1 0, .int .i64 (i : Int), .int .i64 (F.k i), .int .i64 (F.s i), .pointer (some ⟨b, 0, none⟩), .pointer (some ⟨b, 0, none⟩), .pointer (some ⟨b, 0, none⟩), .int .i8 F.w, .int .i64 F.w, .bool true, .bool false, .bool false, .pointer (some ⟨b, 0, none⟩), .pointer (some ⟨b, 0, none⟩), .pointer (some ⟨b, 1, none⟩), .int .i8 F.h, .int .i64 F.h, .bool true, .bool (!(inB F.h 1 10)), .bool (!(inB F.h 1 10)), .int .i64 (i : Int), .bool true, J1 5, J1 6, .pointer (some ⟨b, 0, none⟩), .int .i64 (i : Int), .pointer (some ⟨b, 0, none⟩), .pointer (some ⟨b, 2, none⟩), .pointer (some ⟨b, 2 + i, none⟩), .int .u8 (F.k i), .int .i64 (F.k i), .pointer (some ⟨b, 0, none⟩), .int .i64 (i : Int), .pointer (some ⟨b, 0, none⟩), .pointer (some ⟨b, 102, none⟩), .pointer (some ⟨b, 102 + i, none⟩), .int .i16 (F.s i), .int .i64 (F.s i), .int .i64 (F.k i), .bool true, .bool false, .bool false, .int .i64 (F.s i), .bool true, .bool false, .bool false, .bool false, .int .i64 (F.k i), .bool false, .bool false, J1 33, J1 34, J1 35, J1 36, J1 37, J1 38, J1 39, J1 40, J1 41, J1 42, J1 43, J1 44, J1 45, J1 46, J1 47, J1 48], []⟩) (by simp only [h6, Bool.not_true, Bool.not_false]) ?_
              have hk12 := h6
              try simp only [decide_eq_true_eq, decide_eq_false_iff_not, Bool.and_eq_true, Bool.or_eq_true, Bool.and_eq_false_iff, Bool.or_eq_false_iff, Bool.not_eq_true', Bool.not_eq_false', beq_iff_eq, beq_eq_false_iff_ne, bne_iff_ne, bne_eq_false_iff_eq, gt_iff_lt, ge_iff_le, ne_eq, Decidable.not_not, Int.not_lt, Int.not_le, inB] at h6
              refine wpl_skip rfl (by kernel_rfl) ?_
              refine wpl_skip rfl (by kernel_rfl) ?_
              refine wpl_val (.bool false) (.bool false) rfl (by kernel_rfl) (by kernel_rfl) rfl ?_
              refine wpl_val (.bool false) (.bool false) rfl (by kernel_rfl) (by kernel_rfl) rfl ?_
              refine wpList_nil ?_
              refine then_normal ?_
              refine wp_frame (a' := ⟨#[.pointer (some ⟨b, 0, none⟩), undef, J1 0, .int .i64 (i : Int), .int .i64 (F.k i), .int .i64 (F.s i), .pointer (some ⟨b, 0, none⟩), .pointer (some ⟨b, 0, none⟩), .pointer (some ⟨b, 0, none⟩), .int .i8 F.w, .int .i64 F.w, .bool true, .bool false, .bool false, .pointer (some ⟨b, 0, none⟩), .pointer (some ⟨b, 0, none⟩), .pointer (some ⟨b, 1, none⟩), .int .i8 F.h, .int .i64 F.h, .bool true, .bool (!(inB F.h 1 10)), .bool (!(inB F.h 1 10)), .int .i64 (i : Int), .bool true, J1 5, J1 6, .pointer (some ⟨b, 0, none⟩), .int .i64 (i : Int), .pointer (some ⟨b, 0, none⟩), .pointer (some ⟨b, 2, none⟩), .pointer (some ⟨b, 2 + i, none⟩), .int .u8 (F.k i), .int .i64 (F.k i), .pointer (some ⟨b, 0, none⟩), .int .i64 (i : Int), .pointer (some ⟨b, 0, none⟩), .pointer (some ⟨b, 102, none⟩), .pointer (some ⟨b, 102 + i, none⟩), .int .i16 (F.s i), .int .i64 (F.s i), .int .i64 (F.k i), .bool true, .bool false, .bool false, .int .i64 (F.s i), .bool true, .bool false, .bool false, .bool false, .int .i64 (F.k i), .bool false, .bool false, undef, undef, .bool false, .bool false, J1 37, J1 38, J1 39, J1 40, J1 41, J1 42, J1 43, J1 44, J1 45, J1 46, J1 47, J1 48], []⟩) (by kernel_rfl) ?_
              refine wp_cond_false rfl ?_
              refine wp_skip ?_
              refine then_normal ?_
              refine wp_frame (a' := ⟨#[.pointer (some ⟨b, 0, none⟩), undef, J1 0, .int .i64 (i : Int), .int .i64 (F.k i), .int .i64 (F.s i), .pointer (some ⟨b, 0, none⟩), .pointer (some ⟨b, 0, none⟩), .pointer (some ⟨b, 0, none⟩), .int .i8 F.w, .int .i64 F.w, .bool true, .bool false, .bool false, .pointer (some ⟨b, 0, none⟩), .pointer (some ⟨b, 0, none⟩), .pointer (some ⟨b, 1, none⟩), .int .i8 F.h, .int .i64 F.h, .bool true, .bool (!(inB F.h 1 10)), .bool (!(inB F.h 1 10)), .int .i64 (i : Int), .bool true, J1 5, J1 6, .pointer (some ⟨b, 0, none⟩), .int .i64 (i : Int), .pointer (some ⟨b, 0, none⟩), .pointer (some ⟨b, 2, none⟩), .pointer (some ⟨b, 2 + i, none⟩), .int .u8 (F.k i), .int .i64 (F.k i), .pointer (some ⟨b, 0, none⟩), .int .i64 (i : Int), .pointer (some ⟨b, 0, none⟩), .pointer (some ⟨b, 102, none⟩), .pointer (some ⟨b, 102 + i, none⟩), .int .i16 (F.s i), .int .i64 (F.s i), .int .i64 (F.k i), .bool true, .bool false, .bool false, .int .i64 (F.s i), .bool true, .bool false, .bool false, .bool false, .int .i64 (F.k i), .bool false, .bool false, undef, undef, .bool false, .bool false, J1 37, J1 38, J1 39, J1 40, J1 41, J1 42, J1 43, J1 44, J1 45, J1 46, J1 47, J1 48], []⟩) (by kernel_rfl) ?_
              refine wp_seq ?_
              refine wp_region_lit ?_
              refine wpl_val (.pointer (some ⟨b, 0, none⟩)) (.pointer (some ⟨b, 0, none⟩)) rfl (by kernel_rfl) (by kernel_rfl) rfl ?_
              refine wpl_val (.int .i64 (i : Int)) (.int .i64 (i : Int)) rfl (by kernel_rfl) (by kernel_rfl) rfl ?_
              refine wpl_call (57) #[.pointer (some ⟨b, 0, none⟩), .int .i64 (i : Int)] rfl (by kernel_rfl) (by kernel_rfl) (l01Is_any F hF b _ _ _ hb) ?_
              intro w6 E6
              replace hb := hb.ext E6
              have H6 := (H4).trans E6
              clear E6
              refine wpl_val (.bool (!(isB F (i : Int)))) (.bool (!(isB F (i : Int)))) rfl (by kernel_rfl) (by kernel_rfl) rfl ?_
              refine wpl_val (.bool (!(isB F (i : Int)))) (.bool (!(isB F (i : Int)))) rfl (by kernel_rfl) (by kernel_rfl) rfl ?_
              refine wpl_frame (a' := ⟨#[.pointer (some ⟨b, 0, none⟩), undef, J1 0, .int .i64 (i : Int), .int .i64 (F.k i), .int .i64 (F.s i), .pointer (some ⟨b, 0, none⟩), .pointer (some ⟨b, 0, none⟩), .pointer (some ⟨b, 0, none⟩), .int .i8 F.w, .int .i64 F.w, .bool true, .bool false, .bool false, .pointer (some ⟨b, 0, none⟩), .pointer (some ⟨b, 0, none⟩), .pointer (some ⟨b, 1, none⟩), .int .i8 F.h, .int .i64 F.h, .bool true, .bool (!(inB F.h 1 10)), .bool (!(inB F.h 1 10)), .int .i64 (i : Int), .bool true, J1 5, J1 6, .pointer (some ⟨b, 0, none⟩), .int .i64 (i : Int), .pointer (some ⟨b, 0, none⟩), .pointer (some ⟨b, 2, none⟩), .pointer (some ⟨b, 2 + i, none⟩), .int .u8 (F.k i), .int .i64 (F.k i), .pointer (some ⟨b, 0, none⟩), .int .i64 (i : Int), .pointer (some ⟨b, 0, none⟩), .pointer (some ⟨b, 102, none⟩), .pointer (some ⟨b, 102 + i, none⟩), .int .i16 (F.s i), .int .i64 (F.s i), .int .i64 (F.k i), .bool true, .bool false, .bool false, .int .i64 (F.s i), .bool true, .bool false, .bool false, .bool false, .int .i64 (F.k i), .bool false, .bool false, undef, undef, .bool false, .bool false, .pointer (some ⟨b, 0, none⟩), .int .i64 (i : Int), .bool (isB F (i : Int)), .bool (!(isB F (i : Int))), .bool (!(isB F (i : Int))), J1 42, J1 43, J1 44, J1 45, J1 46, J1 47, J1 48], []⟩) (by kernel_rfl) ?_
              refine split_bool (isB F (i : Int)) (fun h9 => ?_) (fun h9 => ?_)
              · skip
                refine wpl_frame (a' := ⟨#[.pointer (some ⟨b, 0, none⟩), undef, J1 0, .int .i64 (i : Int), .int .i64 (F.k i), .int .i64 (F.s i), .pointer (some ⟨b, 0, none⟩), .pointer (some ⟨b, 0, none⟩), .pointer (some ⟨b, 0, none⟩), .int .i8 F.w, .int .i64 F.w, .bool true, .bool false, .bool false, .pointer (some ⟨b, 0, none⟩), .pointer (some ⟨b, 0, none⟩), .pointer (some ⟨b, 1, none⟩), .int .i8 F.h, .int .i64 F.h, .bool true, .bool (!(inB F.h 1 10)), .bool (!(inB F.h 1 10)), .int .i64 (i : Int), .bool true, J1 5, J1 6, .pointer (some ⟨b, 0, none⟩), .int .i64 (i : Int), .pointer (some ⟨b, 0, none⟩), .pointer (some ⟨b, 2, none⟩), .pointer (some ⟨b, 2 + i, none⟩), .int .u8 (F.k i), .int .i64 (F.k i), .pointer (some ⟨b, 0, none⟩), .int .i64 (i : Int), .pointer (some ⟨b, 0, none⟩), .pointer (some ⟨b, 102, none⟩), .pointer (some ⟨b, 102 + i, none⟩), .int .i16 (F.s i), .int .i64 (F.s i), .int .i64 (F.k i), .bool true, .bool false, .bool false, .int .i64 (F.s i), .bool true, .bool false, .bool false, .bool false, .int .i64 (F.k i), .bool false, .bool false, undef, undef, .bool false, .bool false, .pointer (some ⟨b, 0, none⟩), .int .i64 (i : Int), .bool true, .bool false, .bool false, J1 42, J1 43, J1 44, J1 45, J1 46, J1 47, J1 48], []⟩) (by simp only [h9, Bool.not_true, Bool.not_false]) ?_
                have hk13 := h9
                try simp only [decide_eq_true_eq, decide_eq_false_iff_not, Bool.and_eq_true, Bool.or_eq_true, Bool.and_eq_false_iff, Bool.or_eq_false_iff, Bool.not_eq_true', Bool.not_eq_false', beq_iff_eq, beq_eq_false_iff_ne, bne_iff_ne, bne_eq_false_iff_eq, gt_iff_lt, ge_iff_le, ne_eq, Decidable.not_not, Int.not_lt, Int.not_le, inB] at h9
                refine wpl_skip rfl (by kernel_rfl) ?_
                refine wpl_skip rfl (by kernel_rfl) ?_
                refine wpl_skip rfl (by kernel_rfl) ?_
                refine wpl_skip rfl (by kernel_rfl) ?_
                refine wpl_skip rfl (by kernel_rfl) ?_
                refine wpl_skip rfl (by kernel_rfl) ?_
                refine wpl_val (.bool false) (.bool false) rfl (by kernel_rfl) (by kernel_rfl) rfl ?_
                refine wpList_nil ?_
                refine then_normal ?_
                refine wp_frame (a' := ⟨#[.pointer (some ⟨b, 0, none⟩), undef, J1 0, .int .i64 (i : Int), .int .i64 (F.k i), .int .i64 (F.s i), .pointer (some ⟨b, 0, none⟩), .pointer (some ⟨b, 0, none⟩), .pointer (some ⟨b, 0, none⟩), .int .i8 F.w, .int .i64 F.w, .bool true, .bool false, .bool false, .pointer (some ⟨b, 0, none⟩), .pointer (some ⟨b, 0, none⟩), .pointer (some ⟨b, 1, none⟩), .int .i8 F.h, .int .i64 F.h, .bool true, .bool (!(inB F.h 1 10)), .bool (!(inB F.h 1 10)), .int .i64 (i : Int), .bool true, J1 5, J1 6, .pointer (some ⟨b, 0, none⟩), .int .i64 (i : Int), .pointer (some ⟨b, 0, none⟩), .pointer (some ⟨b, 2, none⟩), .pointer (some ⟨b, 2 + i, none⟩), .int .u8 (F.k i), .int .i64 (F.k i), .pointer (some ⟨b, 0, none⟩), .int .i64 (i : Int), .pointer (some ⟨b, 0, none⟩), .pointer (some ⟨b, 102, none⟩), .pointer (some ⟨b, 102 + i, none⟩), .int .i16 (F.s i), .int .i64 (F.s i), .int .i64 (F.k i), .bool true, .bool false, .bool false, .int .i64 (F.s i), .bool true, .bool false, .bool false, .bool false, .int .i64 (F.k i), .bool false, .bool false, undef, undef, .bool false, .bool false, .pointer (some ⟨b, 0, none⟩), .int .i64 (i : Int), .bool true, .bool false, .bool false, undef, undef, undef, undef, undef, undef, .bool false], []⟩) (by kernel_rfl) ?_
                refine wp_cond_false rfl ?_
                refine wp_skip ?_
                refine block_normal ?_
                refine then_normal ?_
                refine wp_frame (a' := ⟨#[.pointer (some ⟨b, 0, none⟩), undef, J1 0, .int .i64 (i : Int), .int .i64 (F.k i), .int .i64 (F.s i), .pointer (some ⟨b, 0, none⟩), .pointer (some ⟨b, 0, none⟩), .pointer (some ⟨b, 0, none⟩), .int .i8 F.w, .int .i64 F.w, .bool true, .bool false, .bool false, .pointer (some ⟨b, 0, none⟩), .pointer (some ⟨b, 0, none⟩), .pointer (some ⟨b, 1, none⟩), .int .i8 F.h, .int .i64 F.h, .bool true, .bool (!(inB F.h 1 10)), .bool (!(inB F.h 1 10)), .int .i64 (i : Int), .bool true, J1 5, J1 6, .pointer (some ⟨b, 0, none⟩), .int .i64 (i : Int), .pointer (some ⟨b, 0, none⟩), .pointer (some ⟨b, 2, none⟩), .pointer (some ⟨b, 2 + i, none⟩), .int .u8 (F.k i), .int .i64 (F.k i), .pointer (some ⟨b, 0, none⟩), .int .i64 (i : Int), .pointer (some ⟨b, 0, none⟩), .pointer (some ⟨b, 102, none⟩), .pointer (some ⟨b, 102 + i, none⟩), .int .i16 (F.s i), .int .i64 (F.s i), .int .i64 (F.k i), .bool true, .bool false, .bool false, .int .i64 (F.s i), .bool true, .bool false, .bool false, .bool false, .int .i64 (F.k i), .bool false, .bool false, undef, undef, .bool false, .bool false, .pointer (some ⟨b, 0, none⟩), .int .i64 (i : Int), .bool true, .bool false, .bool false, undef, undef, undef, undef, undef, undef, .bool false], []⟩) (by kernel_rfl) ?_
                refine wp_region_lit ?_
                refine wpl_val (.int .i64 (i : Int)) (.int .i64 (i : Int)) rfl (by kernel_rfl) (by kernel_rfl) rfl ?_
                refine wpl_val (.int .i64 (IntKind.i64.wrap ((i : Int) + 1))) (.int .i64 ((i : Int) + 1)) rfl (by kernel_rfl) (by kernel_rfl) (by exact congrArg _ (IntWalk.i64_in _ (by omega))) ?_
                refine wpl_val (.int .i64 ((i : Int) + 1)) (.int .i64 ((i : Int) + 1)) rfl (by kernel_rfl) (by kernel_rfl) rfl ?_
                refine wpList_nil ?_
                refine then_normal ?_
                refine ⟨_, ?_, i + 1, fun i_ => ([J1 0, .int .i64 (F.k i), .int .i64 (F.s i), .int .i64 (i : Int), .bool true, .int .i64 (i : Int), .int .i64 ((i : Int) + 1), .pointer (some ⟨b, 0, none⟩), .int .i64 (i : Int), .pointer (some ⟨b, 0, none⟩), .pointer (some ⟨b, 2, none⟩), .pointer (some ⟨b, 2 + i, none⟩), .int .u8 (F.k i), .int .i64 (F.k i), .pointer (some ⟨b, 0, none⟩), .int .i64 (i : Int), .pointer (some ⟨b, 0, none⟩), .pointer (some ⟨b, 102, none⟩), .pointer (some ⟨b, 102 + i, none⟩), .int .i16 (F.s i), .int .i64 (F.s i), .int .i64 (F.k i), .bool true, .bool false, .bool false, .int .i64 (F.s i), .bool true, .bool false, .bool false, .bool false, .int .i64 (F.k i), .bool false, .bool false, undef, undef, .bool false, .bool false, .pointer (some ⟨b, 0, none⟩), .int .i64 (i : Int), .bool true, .bool false, .bool false, undef, undef, undef, undef, undef, undef, .bool false] : List Value).getD i_ undef, rfl, ?_, ?_, H6, ?_, by kernel_rfl⟩
                · omega
                · omega
                · refine all_step hall ?_
                  first | (rw [celB_in (by assumption)]; exact decide_eq_true (by omega)) | (rw [celB_out (by assumption)]; exact decide_eq_true (by omega))
                · exact hb
              · skip
                refine wpl_frame (a' := ⟨#[.pointer (some ⟨b, 0, none⟩), undef, J1 0, .int .i64 (i : Int), .int .i64 (F.k i), .int .i64 (F.s i), .pointer (some ⟨b, 0, none⟩), .pointer (some ⟨b, 0, none⟩), .pointer (some ⟨b, 0, none⟩), .int .i8 F.w, .int .i64 F.w, .bool true, .bool false, .bool false, .pointer (some ⟨b, 0, none⟩), .pointer (some ⟨b, 0, none⟩), .pointer (some ⟨b, 1, none⟩), .int .i8 F.h, .int .i64 F.h, .bool true, .bool (!(inB F.h 1 10)), .bool (!(inB F.h 1 10)), .int .i64 (i : Int), .bool true, J1 5, J1 6, .pointer (some ⟨b, 0, none⟩), .int .i64 (i : Int), .pointer (some ⟨b, 0, none⟩), .pointer (some ⟨b, 2, none⟩), .pointer (some ⟨b, 2 + i, none⟩), .int .u8 (F.k i), .int .i64 (F.k i), .pointer (some ⟨b, 0, none⟩), .int .i64 (i : Int), .pointer (some ⟨b, 0, none⟩), .pointer (some ⟨b, 102, none⟩), .pointer (some ⟨b, 102 + i, none⟩), .int .i16 (F.s i), .int .i64 (F.s i), .int .i64 (F.k i), .bool true, .bool false, .bool false, .int .i64 (F.s i), .bool true, .bool false, .bool false, .bool false, .int .i64 (F.k i), .bool false, .bool false, undef, undef, .bool false, .bool false, .pointer (some ⟨b, 0, none⟩), .int .i64 (i : Int), .bool false, .bool true, .bool true, J1 42, J1 43, J1 44, J1 45, J1 46, J1 47, J1 48], []⟩) (by simp only [h9, Bool.not_true, Bool.not_false]) ?_
                have hk14 := h9
                try simp only [decide_eq_true_eq, decide_eq_false_iff_not, Bool.and_eq_true, Bool.or_eq_true, Bool.and_eq_false_iff, Bool.or_eq_false_iff, Bool.not_eq_true', Bool.not_eq_false', beq_iff_eq, beq_eq_false_iff_ne, bne_iff_ne, bne_eq_false_iff_eq, gt_iff_lt, ge_iff_le, ne_eq, Decidable.not_not, Int.not_lt, Int.not_le, inB] at h9
                refine wpl_val (.int .i64 (F.k i)) (.int .i64 (F.k i)) rfl (by kernel_rfl) (by kernel_rfl) rfl ?_
                refine wpl_val (.bool ((F.k i) != 0)) (.bool ((F.k i) != 0)) rfl (by kernel_rfl) (by kernel_rfl) rfl ?_
                refine wpl_frame (a' := ⟨#[.pointer (some ⟨b, 0, none⟩), undef, J1 0, .int .i64 (i : Int), .int .i64 (F.k i), .int .i64 (F.s i), .pointer (some ⟨b, 0, none⟩), .pointer (some ⟨b, 0, none⟩), .pointer (some ⟨b, 0, none⟩), .int .i8 F.w, .int .i64 F.w, .bool true, .bool false, .bool false, .pointer (some ⟨b, 0, none⟩), .pointer (some ⟨b, 0, none⟩), .pointer (some ⟨b, 1, none⟩), .int .i8 F.h, .int .i64 F.h, .bool true, .bool (!(inB F.h 1 10)), .bool (!(inB F.h 1 10)), .int .i64 (i : Int), .bool true, J1 5, J1 6, .pointer (some ⟨b, 0, none⟩), .int .i64 (i : Int), .pointer (some ⟨b, 0, none⟩), .pointer (some ⟨b, 2, none⟩), .pointer (some ⟨b, 2 + i, none⟩), .int .u8 (F.k i), .int .i64 (F.k i), .pointer (some ⟨b, 0, none⟩), .int .i64 (i : Int), .pointer (some ⟨b, 0, none⟩), .pointer (some ⟨b, 102, none⟩), .pointer (some ⟨b, 102 + i, none⟩), .int .i16 (F.s i), .int .i64 (F.s i), .int .i64 (F.k i), .bool true, .bool false, .bool false, .int .i64 (F.s i), .bool true, .bool false, .bool false, .bool false, .int .i64 (F.k i), .bool false, .bool false, undef, undef, .bool false, .bool false, .pointer (some ⟨b, 0, none⟩), .int .i64 (i : Int), .bool false, .bool true, .bool true, .int .i64 (F.k i), .bool ((F.k i) != 0), J1 44, J1 45, J1 46, J1 47, J1 48], []⟩) (by kernel_rfl) ?_
                refine wpl_frame (a' := ⟨#[.pointer (some ⟨b, 0, none⟩), undef, J1 0, .int .i64 (i : Int), .int .i64 (F.k i), .int .i64 (F.s i), .pointer (some ⟨b, 0, none⟩), .pointer (some ⟨b, 0, none⟩), .pointer (some ⟨b, 0, none⟩), .int .i8 F.w, .int .i64 F.w, .bool true, .bool false, .bool false, .pointer (some ⟨b, 0, none⟩), .pointer (some ⟨b, 0, none⟩), .pointer (some ⟨b, 1, none⟩), .int .i8 F.h, .int .i64 F.h, .bool true, .bool (!(inB F.h 1 10)), .bool (!(inB F.h 1 10)), .int .i64 (i : Int), .bool true, J1 5, J1 6, .pointer (some ⟨b, 0, none⟩), .int .i64 (i : Int), .pointer (some ⟨b, 0, none⟩), .pointer (some ⟨b, 2, none⟩), .pointer (some ⟨b, 2 + i, none⟩), .int .u8 (F.k i), .int .i64 (F.k i), .pointer (some ⟨b, 0, none⟩), .int .i64 (i : Int), .pointer (some ⟨b, 0, none⟩), .pointer (some ⟨b, 102, none⟩), .pointer (some ⟨b, 102 + i, none⟩), .int .i16 (F.s i), .int .i64 (F.s i), .int .i64 (F.k i), .bool true, .bool false, .bool false, .int .i64 (F.s i), .bool true, .bool false, .bool false, .bool false, .int .i64 (F.k i), .bool false, .bool false, undef, undef, .bool false, .bool false, .pointer (some ⟨b, 0, none⟩), .int .i64 (i : Int), .bool false, .bool true, .bool true, .int .i64 (F.k i), .bool false, J1 44, J1 45, J1 46, J1 47, J1 48], []⟩) (by simp only [hk12, Bool.not_true, Bool.not_false]) ?_
                refine wpl_val (.bool false) (.bool false) rfl (by kernel_rfl) (by kernel_rfl) rfl ?_
                refine wpl_val (.int .i64 (F.s i)) (.int .i64 (F.s i)) rfl (by kernel_rfl) (by kernel_rfl) rfl ?_
                refine wpl_val (.bool ((F.s i) != 0)) (.bool ((F.s i) != 0)) rfl (by kernel_rfl) (by kernel_rfl) rfl ?_
                refine wpl_val (.bool ((F.s i) != 0)) (.bool ((F.s i) != 0)) rfl (by kernel_rfl) (by kernel_rfl) rfl ?_
                refine wpl_val (.bool ((F.s i) != 0)) (.bool ((F.s i) != 0)) rfl (by kernel_rfl) (by kernel_rfl) rfl ?_
                refine wpList_nil ?_
                refine then_normal ?_
                refine wp_frame (a' := ⟨#[.pointer (some ⟨b, 0, none⟩), undef, J1 0, .int .i64 (i : Int), .int .i64 (F.k i), .int .i64 (F.s i), .pointer (some ⟨b, 0, none⟩), .pointer (some ⟨b, 0, none⟩), .pointer (some ⟨b, 0, none⟩), .int .i8 F.w, .int .i64 F.w, .bool true, .bool false, .bool false, .pointer (some ⟨b, 0, none⟩), .pointer (some ⟨b, 0, none⟩), .pointer (some ⟨b, 1, none⟩), .int .i8 F.h, .int .i64 F.h, .bool true, .bool (!(inB F.h 1 10)), .bool (!(inB F.h 1 10)), .int .i64 (i : Int), .bool true, J1 5, J1 6, .pointer (some ⟨b, 0, none⟩), .int .i64 (i : Int), .pointer (some ⟨b, 0, none⟩), .pointer (some ⟨b, 2, none⟩), .pointer (some ⟨b, 2 + i, none⟩), .int .u8 (F.k i), .int .i64 (F.k i), .pointer (some ⟨b, 0, none⟩), .int .i64 (i : Int), .pointer (some ⟨b, 0, none⟩), .pointer (some ⟨b, 102, none⟩), .pointer (some ⟨b, 102 + i, none⟩), .int .i16 (F.s i), .int .i64 (F.s i), .int .i64 (F.k i), .bool true, .bool false, .bool false, .int .i64 (F.s i), .bool true, .bool false, .bool false, .bool false, .int .i64 (F.k i), .bool false, .bool false, undef, undef, .bool false, .bool false, .pointer (some ⟨b, 0, none⟩), .int .i64 (i : Int), .bool false, .bool true, .bool true, .int .i64 (F.k i), .bool false, .bool false, .int .i64 (F.s i), .bool ((F.s i) != 0), .bool ((F.s i) != 0), .bool ((F.s i) != 0)], []⟩) (by kernel_rfl) ?_
                refine wp_cond_split (t := (F.s i) != 0) rfl (fun h10 => ?_) (fun h10 => ?_)
                · skip
                  have hk15 := h10
                  try simp only [decide_eq_true_eq, decide_eq_false_iff_not, Bool.and_eq_true, Bool.or_eq_true, Bool.and_eq_false_iff, Bool.or_eq_false_iff, Bool.not_eq_true', Bool.not_eq_false', beq_iff_eq, beq_eq_false_iff_ne, bne_iff_ne, bne_eq_false_iff_eq, gt_iff_lt, ge_iff_le, ne_eq, Decidable.not_not, Int.not_lt, Int.not_le, inB] at h10
                  refine wp_seq ?_
                  refine wp_region_lit ?_
                  refine wpl_val (.bool false) (.bool false) rfl (by kernel_rfl) (by kernel_rfl) rfl ?_
                  refine wpl_frame (a' := ⟨#[.pointer (some ⟨b, 0, none⟩), undef, .bool false, .int .i64 (i : Int), .int .i64 (F.k i), .int .i64 (F.s i), .pointer (some ⟨b, 0, none⟩), .pointer (some ⟨b, 0, none⟩), .pointer (some ⟨b, 0, none⟩), .int .i8 F.w, .int .i64 F.w, .bool true, .bool false, .bool false, .pointer (some ⟨b, 0, none⟩), .pointer (some ⟨b, 0, none⟩), .pointer (some ⟨b, 1, none⟩), .int .i8 F.h, .int .i64 F.h, .bool true, .bool (!(inB F.h 1 10)), .bool (!(inB F.h 1 10)), .int .i64 (i : Int), .bool true, J1 5, J1 6, .pointer (some ⟨b, 0, none⟩), .int .i64 (i : Int), .pointer (some ⟨b, 0, none⟩), .pointer (some ⟨b, 2, none⟩), .pointer (some ⟨b, 2 + i, none⟩), .int .u8 (F.k i), .int .i64 (F.k i), .pointer (some ⟨b, 0, none⟩), .int .i64 (i : Int), .pointer (some ⟨b, 0, none⟩), .pointer (some ⟨b, 102, none⟩), .pointer (some ⟨b, 102 + i, none⟩), .int .i16 (F.s i), .int .i64 (F.s i), .int .i64 (F.k i), .bool true, .bool false, .bool false, .int .i64 (F.s i), .bool true, .bool false, .bool false, .bool false, .int .i64 (F.k i), .bool false, .bool false, undef, undef, .bool false, .bool false, .pointer (some ⟨b, 0, none⟩), .int .i64 (i : Int), .bool false, .bool true, .bool true, .int .i64 (F.k i), .bool false, .bool false, .int .i64 (F.s i), .bool ((F.s i) != 0), .bool ((F.s i) != 0), .bool ((F.s i) != 0)], []⟩) (by kernel_rfl) ?_
                  refine wpl_frame (a' := ⟨#[.pointer (some ⟨b, 0, none⟩), undef, .bool false, .int .i64 (i : Int), .int .i64 (F.k i), .int .i64 (F.s i), .pointer (some ⟨b, 0, none⟩), .pointer (some ⟨b, 0, none⟩), .pointer (some ⟨b, 0, none⟩), .int .i8 F.w, .int .i64 F.w, .bool true, .bool false, .bool false, .pointer (some ⟨b, 0, none⟩), .pointer (some ⟨b, 0, none⟩), .pointer (some ⟨b, 1, none⟩), .int .i8 F.h, .int .i64 F.h, .bool true, .bool (!(inB F.h 1 10)), .bool (!(inB F.h 1 10)), .int .i64 (i : Int), .bool true, J1 5, J1 6, .pointer (some ⟨b, 0, none⟩), .int .i64 (i : Int), .pointer (some ⟨b, 0, none⟩), .pointer (some ⟨b, 2, none⟩), .pointer (some ⟨b, 2 + i, none⟩), .int .u8 (F.k i), .int .i64 (F.k i), .pointer (some ⟨b, 0, none⟩), .int .i64 (i : Int), .pointer (some ⟨b, 0, none⟩), .pointer (some ⟨b, 102, none⟩), .pointer (some ⟨b, 102 + i, none⟩), .int .i16 (F.s i), .int .i64 (F.s i), .int .i64 (F.k i), .bool true, .bool false, .bool false, .int .i64 (F.s i), .bool true, .bool false, .bool false, .bool false, .int .i64 (F.k i), .bool false, .bool false, undef, undef, .bool false, .bool false, .pointer (some ⟨b, 0, none⟩), .int .i64 (i : Int), .bool false, .bool true, .bool true, .int .i64 (F.k i), .bool false, .bool false, .int .i64 (F.s i), .bool true, .bool true, .bool true], []⟩) (by simp only [hk15, Bool.not_true, Bool.not_false]) ?_
                  refine wpList_nil ?_
                  refine then_normal ?_
                  refine wp_frame (a' := ⟨#[.pointer (some ⟨b, 0, none⟩), undef, .bool false, .int .i64 (i : Int), .int .i64 (F.k i), .int .i64 (F.s i), .pointer (some ⟨b, 0, none⟩), .pointer (some ⟨b, 0, none⟩), .pointer (some ⟨b, 0, none⟩), .int .i8 F.w, .int .i64 F.w, .bool true, .bool false, .bool false, .pointer (some ⟨b, 0, none⟩), .pointer (some ⟨b, 0, none⟩), .pointer (some ⟨b, 1, none⟩), .int .i8 F.h, .int .i64 F.h, .bool true, .bool (!(inB F.h 1 10)), .bool (!(inB F.h 1 10)), .int .i64 (i : Int), .bool true, J1 5, J1 6, .pointer (some ⟨b, 0, none⟩), .int .i64 (i : Int), .pointer (some ⟨b, 0, none⟩), .pointer (some ⟨b, 2, none⟩), .pointer (some ⟨b, 2 + i, none⟩), .int .u8 (F.k i), .int .i64 (F.k i), .pointer (some ⟨b, 0, none⟩), .int .i64 (i : Int), .pointer (some ⟨b, 0, none⟩), .pointer (some ⟨b, 102, none⟩), .pointer (some ⟨b, 102 + i, none⟩), .int .i16 (F.s i), .int .i64 (F.s i), .int .i64 (F.k i), .bool true, .bool false, .bool false, .int .i64 (F.s i), .bool true, .bool false, .bool false, .bool false, .int .i64 (F.k i), .bool false, .bool false, undef, undef, .bool false, .bool false, .pointer (some ⟨b, 0, none⟩), .int .i64 (i : Int), .bool false, .bool true, .bool true, .int .i64 (F.k i), .bool false, .bool false, .int .i64 (F.s i), .bool true, .bool true, .bool true], []⟩) (by kernel_rfl) ?_
                  refine wp_ret ?_
                  refine block_ret ?_
                  refine then_ret ?_
                  refine then_ret ?_
                  refine block_ret ?_
                  refine then_ret ?_
                  refine body_frame (a' := ⟨#[.pointer (some ⟨b, 0, none⟩), undef, .bool false, .int .i64 (i : Int), .int .i64 (F.k i), .int .i64 (F.s i), .pointer (some ⟨b, 0, none⟩), .pointer (some ⟨b, 0, none⟩), .pointer (some ⟨b, 0, none⟩), .int .i8 F.w, .int .i64 F.w, .bool true, .bool false, .bool false, .pointer (some ⟨b, 0, none⟩), .pointer (some ⟨b, 0, none⟩), .pointer (some ⟨b, 1, none⟩), .int .i8 F.h, .int .i64 F.h, .bool true, .bool (!(inB F.h 1 10)), .bool (!(inB F.h 1 10)), .int .i64 (i : Int), .bool true, J1 5, J1 6, .pointer (some ⟨b, 0, none⟩), .int .i64 (i : Int), .pointer (some ⟨b, 0, none⟩), .pointer (some ⟨b, 2, none⟩), .pointer (some ⟨b, 2 + i, none⟩), .int .u8 (F.k i), .int .i64 (F.k i), .pointer (some ⟨b, 0, none⟩), .int .i64 (i : Int), .pointer (some ⟨b, 0, none⟩), .pointer (some ⟨b, 102, none⟩), .pointer (some ⟨b, 102 + i, none⟩), .int .i16 (F.s i), .int .i64 (F.s i), .int .i64 (F.k i), .bool true, .bool false, .bool false, .int .i64 (F.s i), .bool true, .bool false, .bool false, .bool false, .int .i64 (F.k i), .bool false, .bool false, undef, undef, .bool false, .bool false, .pointer (some ⟨b, 0, none⟩), .int .i64 (i : Int), .bool false, .bool true, .bool true, .int .i64 (F.k i), .bool false, .bool false, .int .i64 (F.s i), .bool true, .bool true, .bool true], []⟩) (by kernel_rfl) ?_
                  refine ret1 (.bool (okB F)) rfl ?_ rfl ?_
                  · show (.bool false : Value) = (.bool (okB F))
                    refine congrArg Value.bool ?_
                    first | exact (okB_w (by omega)).symm | exact (okB_h (by omega)).symm | exact (okB_true.2 ⟨by omega, by omega, by omega, by omega, fun j hj => hall j (by omega)⟩).symm | skip
                    all_goals (refine (okB_c i (by omega) ?_).symm)
                    all_goals (first | (rw [celB_in (by assumption)]; exact decide_eq_false (by omega)) | (rw [celB_out (by assumption)]; exact decide_eq_false (by omega)) | (cases hq_ : isB F (i : Int) with | false => (rw [celB_out hq_]; exact decide_eq_false (by omega)) | true => (rw [celB_in hq_]; exact decide_eq_false (by omega))))
                  exact ⟨rfl, H6⟩
                · skip
                  have hk16 := h10
                  try simp only [decide_eq_true_eq, decide_eq_false_iff_not, Bool.and_eq_true, Bool.or_eq_true, Bool.and_eq_false_iff, Bool.or_eq_false_iff, Bool.not_eq_true', Bool.not_eq_false', beq_iff_eq, beq_eq_false_iff_ne, bne_iff_ne, bne_eq_false_iff_eq, gt_iff_lt, ge_iff_le, ne_eq, Decidable.not_not, Int.not_lt, Int.not_le, inB] at h10
                  refine wp_skip ?_
                  refine block_normal ?_
                  refine then_normal ?_
                  refine wp_frame (a' := ⟨#[.pointer (some ⟨b, 0, none⟩), undef, J1 0, .int .i64 (i : Int), .int .i64 (F.k i), .int .i64 (F.s i), .pointer (some ⟨b, 0, none⟩), .pointer (some ⟨b, 0, none⟩), .pointer (some ⟨b, 0, none⟩), .int .i8 F.w, .int .i64 F.w, .bool true, .bool false, .bool false, .pointer (some ⟨b, 0, none⟩), .pointer (some ⟨b, 0, none⟩), .pointer (some ⟨b, 1, none⟩), .int .i8 F.h, .int .i64 F.h, .bool true, .bool (!(inB F.h 1 10)), .bool (!(inB F.h 1 10)), .int .i64 (i : Int), .bool true, J1 5, J1 6, .pointer (some ⟨b, 0, none⟩), .int .i64 (i : Int), .pointer (some ⟨b, 0, none⟩), .pointer (some ⟨b, 2, none⟩), .pointer (some ⟨b, 2 + i, none⟩), .int .u8 (F.k i), .int .i64 (F.k i), .pointer (some ⟨b, 0, none⟩), .int .i64 (i : Int), .pointer (some ⟨b, 0, none⟩), .pointer (some ⟨b, 102, none⟩), .pointer (some ⟨b, 102 + i, none⟩), .int .i16 (F.s i), .int .i64 (F.s i), .int .i64 (F.k i), .bool true, .bool false, .bool false, .int .i64 (F.s i), .bool true, .bool false, .bool false, .bool false, .int .i64 (F.k i), .bool false, .bool false, undef, undef, .bool false, .bool false, .pointer (some ⟨b, 0, none⟩), .int .i64 (i : Int), .bool false, .bool true, .bool true, .int .i64 (F.k i), .bool false, .bool false, .int .i64 (F.s i), .bool ((F.s i) != 0), .bool ((F.s i) != 0), .bool ((F.s i) != 0)], []⟩) (by kernel_rfl) ?_
                  refine wp_region_lit ?_
                  refine wpl_val (.int .i64 (i : Int)) (.int .i64 (i : Int)) rfl (by kernel_rfl) (by kernel_rfl) rfl ?_
                  refine wpl_frame (a' := ⟨#[.pointer (some ⟨b, 0, none⟩), undef, J1 0, .int .i64 (i : Int), .int .i64 (F.k i), .int .i64 (F.s i), .pointer (some ⟨b, 0, none⟩), .pointer (some ⟨b, 0, none⟩), .pointer (some ⟨b, 0, none⟩), .int .i8 F.w, .int .i64 F.w, .bool true, .bool false, .bool false, .pointer (some ⟨b, 0, none⟩), .pointer (some ⟨b, 0, none⟩), .pointer (some ⟨b, 1, none⟩), .int .i8 F.h, .int .i64 F.h, .bool true, .bool (!(inB F.h 1 10)), .bool (!(inB F.h 1 10)), .int .i64 (i : Int), .bool true, .int .i64 (i : Int), J1 6, .pointer (some ⟨b, 0, none⟩), .int .i64 (i : Int), .pointer (some ⟨b, 0, none⟩), .pointer (some ⟨b, 2, none⟩), .pointer (some ⟨b, 2 + i, none⟩), .int .u8 (F.k i), .int .i64 (F.k i), .pointer (some ⟨b, 0, none⟩), .int .i64 (i : Int), .pointer (some ⟨b, 0, none⟩), .pointer (some ⟨b, 102, none⟩), .pointer (some ⟨b, 102 + i, none⟩), .int .i16 (F.s i), .int .i64 (F.s i), .int .i64 (F.k i), .bool true, .bool false, .bool false, .int .i64 (F.s i), .bool true, .bool false, .bool false, .bool false, .int .i64 (F.k i), .bool false, .bool false, undef, undef, .bool false, .bool false, .pointer (some ⟨b, 0, none⟩), .int .i64 (i : Int), .bool false, .bool true, .bool true, .int .i64 (F.k i), .bool false, .bool false, .int .i64 (F.s i), .bool ((F.s i) != 0), .bool ((F.s i) != 0), .bool ((F.s i) != 0)], []⟩) (by kernel_rfl) ?_
                  refine wpl_frame (a' := ⟨#[.pointer (some ⟨b, 0, none⟩), undef, J1 0, .int .i64 (i : Int), .int .i64 (F.k i), .int .i64 (F.s i), .pointer (some ⟨b, 0, none⟩), .pointer (some ⟨b, 0, none⟩), .pointer (some ⟨b, 0, none⟩), .int .i8 F.w, .int .i64 F.w, .bool true, .bool false, .bool false, .pointer (some ⟨b, 0, none⟩), .pointer (some ⟨b, 0, none⟩), .pointer (some ⟨b, 1, none⟩), .int .i8 F.h, .int .i64 F.h, .bool true, .bool (!(inB F.h 1 10)), .bool (!(inB F.h 1 10)), .int .i64 (i : Int), .bool true, .int .i64 (i : Int), J1 6, .pointer (some ⟨b, 0, none⟩), .int .i64 (i : Int), .pointer (some ⟨b, 0, none⟩), .pointer (some ⟨b, 2, none⟩), .pointer (some ⟨b, 2 + i, none⟩), .int .u8 (F.k i), .int .i64 (F.k i), .pointer (some ⟨b, 0, none⟩), .int .i64 (i : Int), .pointer (some ⟨b, 0, none⟩), .pointer (some ⟨b, 102, none⟩), .pointer (some ⟨b, 102 + i, none⟩), .int .i16 (F.s i), .int .i64 (F.s i), .int .i64 (F.k i), .bool true, .bool false, .bool false, .int .i64 (F.s i), .bool true, .bool false, .bool false, .bool false, .int .i64 (F.k i), .bool false, .bool false, undef, undef, .bool false, .bool false, .pointer (some ⟨b, 0, none⟩), .int .i64 (i : Int), .bool false, .bool true, .bool true, .int .i64 (F.k i), .bool false, .bool false, .int .i64 (F.s i), .bool false, .bool false, .bool false], []⟩) (by simp only [hk16, Bool.not_true, Bool.not_false]) ?_
                  refine wpl_val (.int .i64 (IntKind.i64.wrap ((i : Int) + 1))) (.int .i64 ((i : Int) + 1)) rfl (by kernel_rfl) (by kernel_rfl) (by exact congrArg _ (IntWalk.i64_in _ (by omega))) ?_
                  refine wpl_val (.int .i64 ((i : Int) + 1)) (.int .i64 ((i : Int) + 1)) rfl (by kernel_rfl) (by kernel_rfl) rfl ?_
                  refine wpList_nil ?_
                  refine then_normal ?_
                  refine ⟨_, ?_, i + 1, fun i_ => ([J1 0, .int .i64 (F.k i), .int .i64 (F.s i), .int .i64 (i : Int), .bool true, .int .i64 (i : Int), .int .i64 ((i : Int) + 1), .pointer (some ⟨b, 0, none⟩), .int .i64 (i : Int), .pointer (some ⟨b, 0, none⟩), .pointer (some ⟨b, 2, none⟩), .pointer (some ⟨b, 2 + i, none⟩), .int .u8 (F.k i), .int .i64 (F.k i), .pointer (some ⟨b, 0, none⟩), .int .i64 (i : Int), .pointer (some ⟨b, 0, none⟩), .pointer (some ⟨b, 102, none⟩), .pointer (some ⟨b, 102 + i, none⟩), .int .i16 (F.s i), .int .i64 (F.s i), .int .i64 (F.k i), .bool true, .bool false, .bool false, .int .i64 (F.s i), .bool true, .bool false, .bool false, .bool false, .int .i64 (F.k i), .bool false, .bool false, undef, undef, .bool false, .bool false, .pointer (some ⟨b, 0, none⟩), .int .i64 (i : Int), .bool false, .bool true, .bool true, .int .i64 (F.k i), .bool false, .bool false, .int .i64 (F.s i), .bool false, .bool false, .bool false] : List Value).getD i_ undef, rfl, ?_, ?_, H6, ?_, by kernel_rfl⟩
                  · omega
                  · omega
                  · refine all_step hall ?_
                    first | (rw [celB_in (by assumption)]; exact decide_eq_true (by omega)) | (rw [celB_out (by assumption)]; exact decide_eq_true (by omega))
                  · exact hb
          · skip
            refine wpl_frame (a' := ⟨#[.pointer (some ⟨b, 0, none⟩), undef, J1 0, .int .i64 (i : Int), .int .i64 (F.k i), .int .i64 (F.s i), .pointer (some ⟨b, 0, none⟩), .pointer (some ⟨b, 0, none⟩), .pointer (some ⟨b, 0, none⟩), .int .i8 F.w, .int .i64 F.w, .bool true, .bool false, .bool false, .pointer (some ⟨b, 0, none⟩), .pointer (some ⟨b, 0, none⟩), .pointer (some ⟨b, 1, none⟩), .int .i8 F.h, .int .i64 F.h, .bool true, .bool (!(inB F.h 1 10)), .bool (!(inB F.h 1 10)), .int .i64 (i : Int), .bool true, J1 5, J1 6, .pointer (some ⟨b, 0, none⟩), .int .i64 (i : Int), .pointer (some ⟨b, 0, none⟩), .pointer (some ⟨b, 2, none⟩), .pointer (some ⟨b, 2 + i, none⟩), .int .u8 (F.k i), .int .i64 (F.k i), .pointer (some ⟨b, 0, none⟩), .int .i64 (i : Int), .pointer (some ⟨b, 0, none⟩), .pointer (some ⟨b, 102, none⟩), .pointer (some ⟨b, 102 + i, none⟩), .int .i16 (F.s i), .int .i64 (F.s i), .int .i64 (F.k i), .bool true, .bool false, .bool false, .int .i64 (F.s i), .bool false, .bool true, .bool true, .bool true, J1 30, J1 31, J1 32, J1 33, J1 34, J1 35, J1 36, J1 37, J1 38, J1 39, J1 40, J1 41, J1 42, J1 43, J1 44, J1 45, J1 46, J1 47, J1 48], []⟩) (by simp only [h5, Bool.not_true, Bool.not_false]) ?_
            have hk17 := h5
            try simp only [decide_eq_true_eq, decide_eq_false_iff_not, Bool.and_eq_true, Bool.or_eq_true, Bool.and_eq_false_iff, Bool.or_eq_false_iff, Bool.not_eq_true', Bool.not_eq_false', beq_iff_eq, beq_eq_false_iff_ne, bne_iff_ne, bne_eq_false_iff_eq, gt_iff_lt, ge_iff_le, ne_eq, Decidable.not_not, Int.not_lt, Int.not_le, inB] at h5
            refine wpl_skip rfl (by kernel_rfl) ?_
            refine wpl_skip rfl (by kernel_rfl) ?_
            refine wpl_skip rfl (by kernel_rfl) ?_
            refine wpl_skip rfl (by kernel_rfl) ?_
            refine wpl_skip rfl (by kernel_rfl) ?_
            refine wpl_skip rfl (by kernel_rfl) ?_
            refine wpl_val (.bool true) (.bool true) rfl (by kernel_rfl) (by kernel_rfl) rfl ?_
            refine wpList_nil ?_
            refine then_normal ?_
            refine wp_frame (a' := ⟨#[.pointer (some ⟨b, 0, none⟩), undef, J1 0, .int .i64 (i : Int), .int .i64 (F.k i), .int .i64 (F.s i), .pointer (some ⟨b, 0, none⟩), .pointer (some ⟨b, 0, none⟩), .pointer (some ⟨b, 0, none⟩), .int .i8 F.w, .int .i64 F.w, .bool true, .bool false, .bool false, .pointer (some ⟨b, 0, none⟩), .pointer (some ⟨b, 0, none⟩), .pointer (some ⟨b, 1, none⟩), .int .i8 F.h, .int .i64 F.h, .bool true, .bool (!(inB F.h 1 10)), .bool (!(inB F.h 1 10)), .int .i64 (i : Int), .bool true, J1 5, J1 6, .pointer (some ⟨b, 0, none⟩), .int .i64 (i : Int), .pointer (some ⟨b, 0, none⟩), .pointer (some ⟨b, 2, none⟩), .pointer (some ⟨b, 2 + i, none⟩), .int .u8 (F.k i), .int .i64 (F.k i), .pointer (some ⟨b, 0, none⟩), .int .i64 (i : Int), .pointer (some ⟨b, 0, none⟩), .pointer (some ⟨b, 102, none⟩), .pointer (some ⟨b, 102 + i, none⟩), .int .i16 (F.s i), .int .i64 (F.s i), .int .i64 (F.k i), .bool true, .bool false, .bool false, .int .i64 (F.s i), .bool false, .bool true, .bool true, .bool true, undef, undef, undef, undef, undef, undef, .bool true, J1 37, J1 38, J1 39, J1 40, J1 41, J1 42, J1 43, J1 44, J1 45, J1 46, J1 47, J1 48], []⟩) (by kernel_rfl) ?_
            refine wp_cond_true rfl ?_
            refine wp_seq ?_
            refine wp_region_lit ?_
            refine wpl_val (.bool false) (.bool false) rfl (by kernel_rfl) (by kernel_rfl) rfl ?_
            refine wpList_nil ?_
            refine then_normal ?_
            refine wp_frame (a' := ⟨#[.pointer (some ⟨b, 0, none⟩), undef, .bool false, .int .i64 (i : Int), .int .i64 (F.k i), .int .i64 (F.s i), .pointer (some ⟨b, 0, none⟩), .pointer (some ⟨b, 0, none⟩), .pointer (some ⟨b, 0, none⟩), .int .i8 F.w, .int .i64 F.w, .bool true, .bool false, .bool false, .pointer (some ⟨b, 0, none⟩), .pointer (some ⟨b, 0, none⟩), .pointer (some ⟨b, 1, none⟩), .int .i8 F.h, .int .i64 F.h, .bool true, .bool (!(inB F.h 1 10)), .bool (!(inB F.h 1 10)), .int .i64 (i : Int), .bool true, J1 5, J1 6, .pointer (some ⟨b, 0, none⟩), .int .i64 (i : Int), .pointer (some ⟨b, 0, none⟩), .pointer (some ⟨b, 2, none⟩), .pointer (some ⟨b, 2 + i, none⟩), .int .u8 (F.k i), .int .i64 (F.k i), .pointer (some ⟨b, 0, none⟩), .int .i64 (i : Int), .pointer (some ⟨b, 0, none⟩), .pointer (some ⟨b, 102, none⟩), .pointer (some ⟨b, 102 + i, none⟩), .int .i16 (F.s i), .int .i64 (F.s i), .int .i64 (F.k i), .bool true, .bool false, .bool false, .int .i64 (F.s i), .bool false, .bool true, .bool true, .bool true, undef, undef, undef, undef, undef, undef, .bool true, J1 37, J1 38, J1 39, J1 40, J1 41, J1 42, J1 43, J1 44, J1 45, J1 46, J1 47, J1 48], []⟩) (by kernel_rfl) ?_
            refine wp_ret ?_
            refine then_ret ?_
            refine block_ret ?_
            refine then_ret ?_
            refine then_ret ?_
            refine block_ret ?_
            refine then_ret ?_
            refine body_frame (a' := ⟨#[.pointer (some ⟨b, 0, none⟩), undef, .bool false, .int .i64 (i : Int), .int .i64 (F.k i), .int .i64 (F.s i), .pointer (some ⟨b, 0, none⟩), .pointer (some ⟨b, 0, none⟩), .pointer (some ⟨b, 0, none⟩), .int .i8 F.w, .int .i64 F.w, .bool true, .bool false, .bool false, .pointer (some ⟨b, 0, none⟩), .pointer (some ⟨b, 0, none⟩), .pointer (some ⟨b, 1, none⟩), .int .i8 F.h, .int .i64 F.h, .bool true, .bool (!(inB F.h 1 10)), .bool (!(inB F.h 1 10)), .int .i64 (i : Int), .bool true, J1 5, J1 6, .pointer (some ⟨b, 0, none⟩), .int .i64 (i : Int), .pointer (some ⟨b, 0, none⟩), .pointer (some ⟨b, 2, none⟩), .pointer (some ⟨b, 2 + i, none⟩), .int .u8 (F.k i), .int .i64 (F.k i), .pointer (some ⟨b, 0, none⟩), .int .i64 (i : Int), .pointer (some ⟨b, 0, none⟩), .pointer (some ⟨b, 102, none⟩), .pointer (some ⟨b, 102 + i, none⟩), .int .i16 (F.s i), .int .i64 (F.s i), .int .i64 (F.k i), .bool true, .bool false, .bool false, .int .i64 (F.s i), .bool false, .bool true, .bool true, .bool true, undef, undef, undef, undef, undef, undef, .bool true, J1 37, J1 38, J1 39, J1 40, J1 41, J1 42, J1 43, J1 44, J1 45, J1 46, J1 47, J1 48], []⟩) (by kernel_rfl) ?_
            refine ret1 (.bool (okB F)) rfl ?_ rfl ?_
            · show (.bool false : Value) = (.bool (okB F))
              refine congrArg Value.bool ?_
              first | exact (okB_w (by omega)).symm | exact (okB_h (by omega)).symm | exact (okB_true.2 ⟨by omega, by omega, by omega, by omega, fun j hj => hall j (by omega)⟩).symm | skip
              all_goals (refine (okB_c i (by omega) ?_).symm)
              all_goals (first | (rw [celB_in (by assumption)]; exact decide_eq_false (by omega)) | (rw [celB_out (by assumption)]; exact decide_eq_false (by omega)) | (cases hq_ : isB F (i : Int) with | false => (rw [celB_out hq_]; exact decide_eq_false (by omega)) | true => (rw [celB_in hq_]; exact decide_eq_false (by omega))))
            exact ⟨rfl, H4⟩
        · skip
          refine wpl_frame (a' := ⟨#[.pointer (some ⟨b, 0, none⟩), undef, J1 0, .int .i64 (i : Int), .int .i64 (F.k i), .int .i64 (F.s i), .pointer (some ⟨b, 0, none⟩), .pointer (some ⟨b, 0, none⟩), .pointer (some ⟨b, 0, none⟩), .int .i8 F.w, .int .i64 F.w, .bool true, .bool false, .bool false, .pointer (some ⟨b, 0, none⟩), .pointer (some ⟨b, 0, none⟩), .pointer (some ⟨b, 1, none⟩), .int .i8 F.h, .int .i64 F.h, .bool true, .bool (!(inB F.h 1 10)), .bool (!(inB F.h 1 10)), .int .i64 (i : Int), .bool true, J1 5, J1 6, .pointer (some ⟨b, 0, none⟩), .int .i64 (i : Int), .pointer (some ⟨b, 0, none⟩), .pointer (some ⟨b, 2, none⟩), .pointer (some ⟨b, 2 + i, none⟩), .int .u8 (F.k i), .int .i64 (F.k i), .pointer (some ⟨b, 0, none⟩), .int .i64 (i : Int), .pointer (some ⟨b, 0, none⟩), .pointer (some ⟨b, 102, none⟩), .pointer (some ⟨b, 102 + i, none⟩), .int .i16 (F.s i), .int .i64 (F.s i), .int .i64 (F.k i), .bool false, .bool true, .bool true, J1 25, J1 26, J1 27, J1 28, J1 29, J1 30, J1 31, J1 32, J1 33, J1 34, J1 35, J1 36, J1 37, J1 38, J1 39, J1 40, J1 41, J1 42, J1 43, J1 44, J1 45, J1 46, J1 47, J1 48], []⟩) (by simp only [h4, Bool.not_true, Bool.not_false]) ?_
          have hk18 := h4
          try simp only [decide_eq_true_eq, decide_eq_false_iff_not, Bool.and_eq_true, Bool.or_eq_true, Bool.and_eq_false_iff, Bool.or_eq_false_iff, Bool.not_eq_true', Bool.not_eq_false', beq_iff_eq, beq_eq_false_iff_ne, bne_iff_ne, bne_eq_false_iff_eq, gt_iff_lt, ge_iff_le, ne_eq, Decidable.not_not, Int.not_lt, Int.not_le, inB] at h4
          refine wpl_skip rfl (by kernel_rfl) ?_
          refine wpl_skip rfl (by kernel_rfl) ?_
          refine wpl_skip rfl (by kernel_rfl) ?_
          refine wpl_val (.bool true) (.bool true) rfl (by kernel_rfl) (by kernel_rfl) rfl ?_
          refine wpl_val (.bool true) (.bool true) rfl (by kernel_rfl) (by kernel_rfl) rfl ?_
          refine wpl_skip rfl (by kernel_rfl) ?_
          refine wpl_skip rfl (by kernel_rfl) ?_
          refine wpl_skip rfl (by kernel_rfl) ?_
          refine wpl_skip rfl (by kernel_rfl) ?_
          refine wpl_skip rfl (by kernel_rfl) ?_
          refine wpl_skip rfl (by kernel_rfl) ?_
          refine wpl_val (.bool true) (.bool true) rfl (by kernel_rfl) (by kernel_rfl) rfl ?_
          refine wpList_nil ?_
          refine then_normal ?_
          refine wp_frame (a' := ⟨#[.pointer (some ⟨b, 0, none⟩), undef, J1 0, .int .i64 (i : Int), .int .i64 (F.k i), .int .i64 (F.s i), .pointer (some ⟨b, 0, none⟩), .pointer (some ⟨b, 0, none⟩), .pointer (some ⟨b, 0, none⟩), .int .i8 F.w, .int .i64 F.w, .bool true, .bool false, .bool false, .pointer (some ⟨b, 0, none⟩), .pointer (some ⟨b, 0, none⟩), .pointer (some ⟨b, 1, none⟩), .int .i8 F.h, .int .i64 F.h, .bool true, .bool (!(inB F.h 1 10)), .bool (!(inB F.h 1 10)), .int .i64 (i : Int), .bool true, J1 5, J1 6, .pointer (some ⟨b, 0, none⟩), .int .i64 (i : Int), .pointer (some ⟨b, 0, none⟩), .pointer (some ⟨b, 2, none⟩), .pointer (some ⟨b, 2 + i, none⟩), .int .u8 (F.k i), .int .i64 (F.k i), .pointer (some ⟨b, 0, none⟩), .int .i64 (i : Int), .pointer (some ⟨b, 0, none⟩), .pointer (some ⟨b, 102, none⟩), .pointer (some ⟨b, 102 + i, none⟩), .int .i16 (F.s i), .int .i64 (F.s i), .int .i64 (F.k i), .bool false, .bool true, .bool true, undef, undef, undef, .bool true, .bool true, undef, undef, undef, undef, undef, undef, .bool true, J1 37, J1 38, J1 39, J1 40, J1 41, J1 42, J1 43, J1 44, J1 45, J1 46, J1 47, J1 48], []⟩) (by kernel_rfl) ?_
          refine wp_cond_true rfl ?_
          refine wp_seq ?_
          refine wp_region_lit ?_
          refine wpl_val (.bool false) (.bool false) rfl (by kernel_rfl) (by kernel_rfl) rfl ?_
          refine wpList_nil ?_
          refine then_normal ?_
          refine wp_frame (a' := ⟨#[.pointer (some ⟨b, 0, none⟩), undef, .bool false, .int .i64 (i : Int), .int .i64 (F.k i), .int .i64 (F.s i), .pointer (some ⟨b, 0, none⟩), .pointer (some ⟨b, 0, none⟩), .pointer (some ⟨b, 0, none⟩), .int .i8 F.w, .int .i64 F.w, .bool true, .bool false, .bool false, .pointer (some ⟨b, 0, none⟩), .pointer (some ⟨b, 0, none⟩), .pointer (some ⟨b, 1, none⟩), .int .i8 F.h, .int .i64 F.h, .bool true, .bool (!(inB F.h 1 10)), .bool (!(inB F.h 1 10)), .int .i64 (i : Int), .bool true, J1 5, J1 6, .pointer (some ⟨b, 0, none⟩), .int .i64 (i : Int), .pointer (some ⟨b, 0, none⟩), .pointer (some ⟨b, 2, none⟩), .pointer (some ⟨b, 2 + i, none⟩), .int .u8 (F.k i), .int .i64 (F.k i), .pointer (some ⟨b, 0, none⟩), .int .i64 (i : Int), .pointer (some ⟨b, 0, none⟩), .pointer (some ⟨b, 102, none⟩), .pointer (some ⟨b, 102 + i, none⟩), .int .i16 (F.s i), .int .i64 (F.s i), .int .i64 (F.k i), .bool false, .bool true, .bool true, undef, undef, undef, .bool true, .bool true, undef, undef, undef, undef, undef, undef, .bool true, J1 37, J1 38, J1 39, J1 40, J1 41, J1 42, J1 43, J1 44, J1 45, J1 46, J1 47, J1 48], []⟩) (by kernel_rfl) ?_
          refine wp_ret ?_
          refine then_ret ?_
          refine block_ret ?_
          refine then_ret ?_
          refine then_ret ?_
          refine block_ret ?_
          refine then_ret ?_
          refine body_frame (a' := ⟨#[.pointer (some ⟨b, 0, none⟩), undef, .bool false, .int .i64 (i : Int), .int .i64 (F.k i), .int .i64 (F.s i), .pointer (some ⟨b, 0, none⟩), .pointer (some ⟨b, 0, none⟩), .pointer (some ⟨b, 0, none⟩), .int .i8 F.w, .int .i64 F.w, .bool true, .bool false, .bool false, .pointer (some ⟨b, 0, none⟩), .pointer (some ⟨b, 0, none⟩), .pointer (some ⟨b, 1, none⟩), .int .i8 F.h, .int .i64 F.h, .bool true, .bool (!(inB F.h 1 10)), .bool (!(inB F.h 1 10)), .int .i64 (i : Int), .bool true, J1 5, J1 6, .pointer (some ⟨b, 0, none⟩), .int .i64 (i : Int), .pointer (some ⟨b, 0, none⟩), .pointer (some ⟨b, 2, none⟩), .pointer (some ⟨b, 2 + i, none⟩), .int .u8 (F.k i), .int .i64 (F.k i), .pointer (some ⟨b, 0, none⟩), .int .i64 (i : Int), .pointer (some ⟨b, 0, none⟩), .pointer (some ⟨b, 102, none⟩), .pointer (some ⟨b, 102 + i, none⟩), .int .i16 (F.s i), .int .i64 (F.s i), .int .i64 (F.k i), .bool false, .bool true, .bool true, undef, undef, undef, .bool true, .bool true, undef, undef, undef, undef, undef, undef, .bool true, J1 37, J1 38, J1 39, J1 40, J1 41, J1 42, J1 43, J1 44, J1 45, J1 46, J1 47, J1 48], []⟩) (by kernel_rfl) ?_
          refine ret1 (.bool (okB F)) rfl ?_ rfl ?_
          · show (.bool false : Value) = (.bool (okB F))
            refine congrArg Value.bool ?_
            first | exact (okB_w (by omega)).symm | exact (okB_h (by omega)).symm | exact (okB_true.2 ⟨by omega, by omega, by omega, by omega, fun j hj => hall j (by omega)⟩).symm | skip
            all_goals (refine (okB_c i (by omega) ?_).symm)
            all_goals (first | (rw [celB_in (by assumption)]; exact decide_eq_false (by omega)) | (rw [celB_out (by assumption)]; exact decide_eq_false (by omega)) | (cases hq_ : isB F (i : Int) with | false => (rw [celB_out hq_]; exact decide_eq_false (by omega)) | true => (rw [celB_in hq_]; exact decide_eq_false (by omega))))
          exact ⟨rfl, H3⟩
      · skip
        have hk19 := h3
        try simp only [decide_eq_true_eq, decide_eq_false_iff_not, Bool.and_eq_true, Bool.or_eq_true, Bool.and_eq_false_iff, Bool.or_eq_false_iff, Bool.not_eq_true', Bool.not_eq_false', beq_iff_eq, beq_eq_false_iff_ne, bne_iff_ne, bne_eq_false_iff_eq, gt_iff_lt, ge_iff_le, ne_eq, Decidable.not_not, Int.not_lt, Int.not_le, inB] at h3
        refine wp_exit ?_
        refine then_exit ?_
        refine then_exit ?_
        refine block_exit ?_
        refine then_normal ?_
        refine wp_frame (a' := ⟨#[.pointer (some ⟨b, 0, none⟩), undef, J1 0, .int .i64 (i : Int), J1 1, J1 2, .pointer (some ⟨b, 0, none⟩), .pointer (some ⟨b, 0, none⟩), .pointer (some ⟨b, 0, none⟩), .int .i8 F.w, .int .i64 F.w, .bool true, .bool false, .bool false, .pointer (some ⟨b, 0, none⟩), .pointer (some ⟨b, 0, none⟩), .pointer (some ⟨b, 1, none⟩), .int .i8 F.h, .int .i64 F.h, .bool true, .bool (!(inB F.h 1 10)), .bool (!(inB F.h 1 10)), .int .i64 (i : Int), .bool (decide ((i : Int) < 100)), J1 5, J1 6, J1 7, J1 8, J1 9, J1 10, J1 11, J1 12, J1 13, J1 14, J1 15, J1 16, J1 17, J1 18, J1 19, J1 20, J1 21, J1 22, J1 23, J1 24, J1 25, J1 26, J1 27, J1 28, J1 29, J1 30, J1 31, J1 32, J1 33, J1 34, J1 35, J1 36, J1 37, J1 38, J1 39, J1 40, J1 41, J1 42, J1 43, J1 44, J1 45, J1 46, J1 47, J1 48], []⟩) (by kernel_rfl) ?_
        refine wp_seq ?_
        refine wp_region_lit ?_
        refine wpl_val (.bool true) (.bool true) rfl (by kernel_rfl) (by kernel_rfl) rfl ?_
        refine wpl_frame (a' := ⟨#[.pointer (some ⟨b, 0, none⟩), undef, .bool true, .int .i64 (i : Int), J1 1, J1 2, .pointer (some ⟨b, 0, none⟩), .pointer (some ⟨b, 0, none⟩), .pointer (some ⟨b, 0, none⟩), .int .i8 F.w, .int .i64 F.w, .bool true, .bool false, .bool false, .pointer (some ⟨b, 0, none⟩), .pointer (some ⟨b, 0, none⟩), .pointer (some ⟨b, 1, none⟩), .int .i8 F.h, .int .i64 F.h, .bool true, .bool (!(inB F.h 1 10)), .bool (!(inB F.h 1 10)), .int .i64 (i : Int), .bool (decide ((i : Int) < 100)), J1 5, J1 6, J1 7, J1 8, J1 9, J1 10, J1 11, J1 12, J1 13, J1 14, J1 15, J1 16, J1 17, J1 18, J1 19, J1 20, J1 21, J1 22, J1 23, J1 24, J1 25, J1 26, J1 27, J1 28, J1 29, J1 30, J1 31, J1 32, J1 33, J1 34, J1 35, J1 36, J1 37, J1 38, J1 39, J1 40, J1 41, J1 42, J1 43, J1 44, J1 45, J1 46, J1 47, J1 48], []⟩) (by kernel_rfl) ?_
        refine wpl_frame (a' := ⟨#[.pointer (some ⟨b, 0, none⟩), undef, .bool true, .int .i64 (i : Int), J1 1, J1 2, .pointer (some ⟨b, 0, none⟩), .pointer (some ⟨b, 0, none⟩), .pointer (some ⟨b, 0, none⟩), .int .i8 F.w, .int .i64 F.w, .bool true, .bool false, .bool false, .pointer (some ⟨b, 0, none⟩), .pointer (some ⟨b, 0, none⟩), .pointer (some ⟨b, 1, none⟩), .int .i8 F.h, .int .i64 F.h, .bool true, .bool (!(inB F.h 1 10)), .bool (!(inB F.h 1 10)), .int .i64 (i : Int), .bool false, J1 5, J1 6, J1 7, J1 8, J1 9, J1 10, J1 11, J1 12, J1 13, J1 14, J1 15, J1 16, J1 17, J1 18, J1 19, J1 20, J1 21, J1 22, J1 23, J1 24, J1 25, J1 26, J1 27, J1 28, J1 29, J1 30, J1 31, J1 32, J1 33, J1 34, J1 35, J1 36, J1 37, J1 38, J1 39, J1 40, J1 41, J1 42, J1 43, J1 44, J1 45, J1 46, J1 47, J1 48], []⟩) (by simp only [hk19, Bool.not_true, Bool.not_false]) ?_
        refine wpList_nil ?_
        refine then_normal ?_
        refine wp_frame (a' := ⟨#[.pointer (some ⟨b, 0, none⟩), undef, .bool true, .int .i64 (i : Int), J1 1, J1 2, .pointer (some ⟨b, 0, none⟩), .pointer (some ⟨b, 0, none⟩), .pointer (some ⟨b, 0, none⟩), .int .i8 F.w, .int .i64 F.w, .bool true, .bool false, .bool false, .pointer (some ⟨b, 0, none⟩), .pointer (some ⟨b, 0, none⟩), .pointer (some ⟨b, 1, none⟩), .int .i8 F.h, .int .i64 F.h, .bool true, .bool (!(inB F.h 1 10)), .bool (!(inB F.h 1 10)), .int .i64 (i : Int), .bool false, J1 5, J1 6, J1 7, J1 8, J1 9, J1 10, J1 11, J1 12, J1 13, J1 14, J1 15, J1 16, J1 17, J1 18, J1 19, J1 20, J1 21, J1 22, J1 23, J1 24, J1 25, J1 26, J1 27, J1 28, J1 29, J1 30, J1 31, J1 32, J1 33, J1 34, J1 35, J1 36, J1 37, J1 38, J1 39, J1 40, J1 41, J1 42, J1 43, J1 44, J1 45, J1 46, J1 47, J1 48], []⟩) (by kernel_rfl) ?_
        refine wp_ret ?_
        refine body_frame (a' := ⟨#[.pointer (some ⟨b, 0, none⟩), undef, .bool true, .int .i64 (i : Int), J1 1, J1 2, .pointer (some ⟨b, 0, none⟩), .pointer (some ⟨b, 0, none⟩), .pointer (some ⟨b, 0, none⟩), .int .i8 F.w, .int .i64 F.w, .bool true, .bool false, .bool false, .pointer (some ⟨b, 0, none⟩), .pointer (some ⟨b, 0, none⟩), .pointer (some ⟨b, 1, none⟩), .int .i8 F.h, .int .i64 F.h, .bool true, .bool (!(inB F.h 1 10)), .bool (!(inB F.h 1 10)), .int .i64 (i : Int), .bool false, J1 5, J1 6, J1 7, J1 8, J1 9, J1 10, J1 11, J1 12, J1 13, J1 14, J1 15, J1 16, J1 17, J1 18, J1 19, J1 20, J1 21, J1 22, J1 23, J1 24, J1 25, J1 26, J1 27, J1 28, J1 29, J1 30, J1 31, J1 32, J1 33, J1 34, J1 35, J1 36, J1 37, J1 38, J1 39, J1 40, J1 41, J1 42, J1 43, J1 44, J1 45, J1 46, J1 47, J1 48], []⟩) (by kernel_rfl) ?_
        refine ret1 (.bool (okB F)) rfl ?_ rfl ?_
        · show (.bool true : Value) = (.bool (okB F))
          refine congrArg Value.bool ?_
          first | exact (okB_w (by omega)).symm | exact (okB_h (by omega)).symm | exact (okB_true.2 ⟨by omega, by omega, by omega, by omega, fun j hj => hall j (by omega)⟩).symm | skip
          all_goals (refine (okB_c i (by omega) ?_).symm)
          all_goals (first | (rw [celB_in (by assumption)]; exact decide_eq_false (by omega)) | (rw [celB_out (by assumption)]; exact decide_eq_false (by omega)) | (cases hq_ : isB F (i : Int) with | false => (rw [celB_out hq_]; exact decide_eq_false (by omega)) | true => (rw [celB_in hq_]; exact decide_eq_false (by omega))))
        exact ⟨rfl, HL1⟩
  · skip
    refine wpl_frame (a' := ⟨#[.pointer (some ⟨b, 0, none⟩), undef, .bool false, undef, undef, undef, .pointer (some ⟨b, 0, none⟩), .pointer (some ⟨b, 0, none⟩), .pointer (some ⟨b, 0, none⟩), .int .i8 F.w, .int .i64 F.w, .bool false, .bool true, .bool true, undef, undef, undef, undef, undef, undef, undef, undef, undef, undef, undef, undef, undef, undef, undef, undef, undef, undef, undef, undef, undef, undef, undef, undef, undef, undef, undef, undef, undef, undef, undef, undef, undef, undef, undef, undef, undef, undef, undef, undef, undef, undef, undef, undef, undef, undef, undef, undef, undef, undef, undef, undef, undef, undef], []⟩) (by simp only [h1, Bool.not_true, Bool.not_false]) ?_
    have hk20 := h1
    try simp only [decide_eq_true_eq, decide_eq_false_iff_not, Bool.and_eq_true, Bool.or_eq_true, Bool.and_eq_false_iff, Bool.or_eq_false_iff, Bool.not_eq_true', Bool.not_eq_false', beq_iff_eq, beq_eq_false_iff_ne, bne_iff_ne, bne_eq_false_iff_eq, gt_iff_lt, ge_iff_le, ne_eq, Decidable.not_not, Int.not_lt, Int.not_le, inB] at h1
    refine wpl_skip rfl (by kernel_rfl) ?_
    refine wpl_skip rfl (by kernel_rfl) ?_
    refine wpl_skip rfl (by kernel_rfl) ?_
    refine wpl_skip rfl (by kernel_rfl) ?_
    refine wpl_skip rfl (by kernel_rfl) ?_
    refine wpl_skip rfl (by kernel_rfl) ?_
    refine wpl_skip rfl (by kernel_rfl) ?_
    refine wpl_val (.bool true) (.bool true) rfl (by kernel_rfl) (by kernel_rfl) rfl ?_
    refine wpList_nil ?_
    refine then_normal ?_
    refine wp_frame (a' := ⟨#[.pointer (some ⟨b, 0, none⟩), undef, .bool false, undef, undef, undef, .pointer (some ⟨b, 0, none⟩), .pointer (some ⟨b, 0, none⟩), .pointer (some ⟨b, 0, none⟩), .int .i8 F.w, .int .i64 F.w, .bool false, .bool true, .bool true, undef, undef, undef, undef, undef, undef, undef, .bool true, undef, undef, undef, undef, undef, undef, undef, undef, undef, undef, undef, undef, undef, undef, undef, undef, undef, undef, undef, undef, undef, undef, undef, undef, undef, undef, undef, undef, undef, undef, undef, undef, undef, undef, undef, undef, undef, undef, undef, undef, undef, undef, undef, undef, undef, undef], []⟩) (by kernel_rfl) ?_
    refine wp_cond_true rfl ?_
    refine wp_seq ?_
    refine wp_region_lit ?_
    refine wpl_val (.bool false) (.bool false) rfl (by kernel_rfl) (by kernel_rfl) rfl ?_
    refine wpList_nil ?_
    refine then_normal ?_
    refine wp_frame (a' := ⟨#[.pointer (some ⟨b, 0, none⟩), undef, .bool false, undef, undef, undef, .pointer (some ⟨b, 0, none⟩), .pointer (some ⟨b, 0, none⟩), .pointer (some ⟨b, 0, none⟩), .int .i8 F.w, .int .i64 F.w, .bool false, .bool true, .bool true, undef, undef, undef, undef, undef, undef, undef, .bool true, undef, undef, undef, undef, undef, undef, undef, undef, undef, undef, undef, undef, undef, undef, undef, undef, undef, undef, undef, undef, undef, undef, undef, undef, undef, undef, undef, undef, undef, undef, undef, undef, undef, undef, undef, undef, undef, undef, undef, undef, undef, undef, undef, undef, undef, undef], []⟩) (by kernel_rfl) ?_
    refine wp_ret ?_
    refine then_ret ?_
    refine body_frame (a' := ⟨#[.pointer (some ⟨b, 0, none⟩), undef, .bool false, undef, undef, undef, .pointer (some ⟨b, 0, none⟩), .pointer (some ⟨b, 0, none⟩), .pointer (some ⟨b, 0, none⟩), .int .i8 F.w, .int .i64 F.w, .bool false, .bool true, .bool true, undef, undef, undef, undef, undef, undef, undef, .bool true, undef, undef, undef, undef, undef, undef, undef, undef, undef, undef, undef, undef, undef, undef, undef, undef, undef, undef, undef, undef, undef, undef, undef, undef, undef, undef, undef, undef, undef, undef, undef, undef, undef, undef, undef, undef, undef, undef, undef, undef, undef, undef, undef, undef, undef, undef], []⟩) (by kernel_rfl) ?_
    refine ret1 (.bool (okB F)) rfl ?_ rfl ?_
    · show (.bool false : Value) = (.bool (okB F))
      refine congrArg Value.bool ?_
      first | exact (okB_w (by omega)).symm | exact (okB_h (by omega)).symm | exact (okB_true.2 ⟨by omega, by omega, by omega, by omega, fun j hj => hall j (by omega)⟩).symm | skip
      all_goals (refine (okB_c i (by omega) ?_).symm)
      all_goals (first | (rw [celB_in (by assumption)]; exact decide_eq_false (by omega)) | (rw [celB_out (by assumption)]; exact decide_eq_false (by omega)) | (cases hq_ : isB F (i : Int) with | false => (rw [celB_out hq_]; exact decide_eq_false (by omega)) | true => (rw [celB_in hq_]; exact decide_eq_false (by omega))))
    exact ⟨rfl, H1⟩

end Go.Proofs.Ytjnlbincgakmpaa
