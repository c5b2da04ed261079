/-
  Contracts of small functions. No conditions.
-/
import Derived.Test.YtdhidmigngmgjaaTy
import Derived.Test.YtdhidmigngmgjaaSl
import Derived.Test.YtdhidmigngmgjaaMth

namespace Go.Proofs.Ytdhidmigngmgjaa
open Go.RowKit
set_option linter.unusedSimpArgs false
set_option linter.unusedVariables false
set_option maxHeartbeats 4000000
set_option maxRecDepth 100000
attribute [local irreducible] wpList Code.wp
--# within_any
theorem within_any (n : Int) (l : Int) (h : Int) (w : World) :
 Calls Try.prog 39 #[.int .i64 n, .int .i64 l, .int .i64 h] w fun e w' => e = .returned (.bool (inB n l h)) ∧ Ext w w' := by
 refine calls_of_wp Try.func39 rfl ?_
 refine wp_frame (a' := ⟨#[.int .i64 n, .int .i64 l, .int .i64 h, undef, undef, undef, undef, undef, undef, undef, undef, undef, undef, undef, undef], []⟩) (by kernel_rfl) ?_
 refine wsr ?_
 refine wv (.bool false) ?_
 refine wpList_nil (then_normal ?_)
 refine wsr ?_
 refine wv (.int .i64 n) ?_
 refine wv (.int .i64 l) ?_
 refine wv (.bool (decide (l ≤ n))) ?_
 refine wv (.bool (decide (l ≤ n))) ?_
 refine split_bool (decide (l ≤ n)) (fun h1 => ?_) (fun h1 => ?_)
 · skip
   refine wbl 10 true h1 ?_
   have h1d := dT h1
   refine wv (.int .i64 n) ?_
   refine wv (.int .i64 h) ?_
   refine wv (.bool (decide (n ≤ h))) ?_
   refine wv (.bool (decide (n ≤ h))) ?_
   refine wv (.bool (decide (n ≤ h))) ?_
   refine wpList_nil (then_normal ?_)
   refine wp_ret ?_
   refine ret1 (.bool (inB n l h)) rfl ?_ rfl ?_
   · refine (resT (v := .bool (decide (n ≤ h))) (by kernel_rfl)).trans ?_
     refine congrArg Value.bool ?_
     unfold inB; simp [*] <;> omega
   exact ⟨rfl, (Ext.refl w)⟩
 · skip
   refine wbl 10 false h1 ?_
   have h1d := dF h1
   refine wsk ?_
   refine wsk ?_
   refine wsk ?_
   refine wv (.bool false) ?_
   refine wv (.bool false) ?_
   refine wpList_nil (then_normal ?_)
   refine wp_ret ?_
   refine ret1 (.bool (inB n l h)) rfl ?_ rfl ?_
   · refine (resT (v := .bool false) (by kernel_rfl)).trans ?_
     refine congrArg Value.bool ?_
     unfold inB; simp [*] <;> omega
   exact ⟨rfl, (Ext.refl w)⟩


--# l00In_any
theorem l00In_any (n : Int) (l : Int) (h : Int) (w : World) :
 Calls Try.prog 58 #[.int .i64 n, .int .i64 l, .int .i64 h] w fun e w' => e = .returned (.bool (inB n l h)) ∧ Ext w w' := by
 refine calls_of_wp Try.func58 rfl ?_
 refine wp_frame (a' := ⟨#[.int .i64 n, .int .i64 l, .int .i64 h, undef, undef, undef, undef, undef, undef, undef, undef, undef, undef, undef, undef], []⟩) (by kernel_rfl) ?_
 refine wsr ?_
 refine wv (.bool false) ?_
 refine wpList_nil (then_normal ?_)
 refine wsr ?_
 refine wv (.int .i64 n) ?_
 refine wv (.int .i64 l) ?_
 refine wv (.bool (decide (l ≤ n))) ?_
 refine wv (.bool (decide (l ≤ n))) ?_
 refine split_bool (decide (l ≤ n)) (fun h1 => ?_) (fun h1 => ?_)
 · skip
   refine wbl 10 true h1 ?_
   have h1d := dT h1
   refine wv (.int .i64 n) ?_
   refine wv (.int .i64 h) ?_
   refine wv (.bool (decide (n ≤ h))) ?_
   refine wv (.bool (decide (n ≤ h))) ?_
   refine wv (.bool (decide (n ≤ h))) ?_
   refine wpList_nil (then_normal ?_)
   refine wp_ret ?_
   refine ret1 (.bool (inB n l h)) rfl ?_ rfl ?_
   · refine (resT (v := .bool (decide (n ≤ h))) (by kernel_rfl)).trans ?_
     refine congrArg Value.bool ?_
     unfold inB; simp [*] <;> omega
   exact ⟨rfl, (Ext.refl w)⟩
 · skip
   refine wbl 10 false h1 ?_
   have h1d := dF h1
   refine wsk ?_
   refine wsk ?_
   refine wsk ?_
   refine wv (.bool false) ?_
   refine wv (.bool false) ?_
   refine wpList_nil (then_normal ?_)
   refine wp_ret ?_
   refine ret1 (.bool (inB n l h)) rfl ?_ rfl ?_
   · refine (resT (v := .bool false) (by kernel_rfl)).trans ?_
     refine congrArg Value.bool ?_
     unfold inB; simp [*] <;> omega
   exact ⟨rfl, (Ext.refl w)⟩


--# isKind_any
theorem isKind_any (n : Int) (w : World) :
 Calls Try.prog 63 #[.int .i64 n] w fun e w' => e = .returned (.bool (inB n 0 3)) ∧ Ext w w' := by
 refine calls_of_wp Try.func63 rfl ?_
 refine wp_frame (a' := ⟨#[.int .i64 n, undef, undef, undef, undef], []⟩) (by kernel_rfl) ?_
 refine wsr ?_
 refine wv (.bool false) ?_
 refine wpList_nil (then_normal ?_)
 refine wsr ?_
 refine wv (.int .i64 n) ?_
 refine wcl (within_any n 0 3 _) ?_
 intro w1 E1
 refine wv (.bool (inB n 0 3)) ?_
 refine wpList_nil (then_normal ?_)
 refine wp_ret ?_
 have H1 := (Ext.refl w).trans E1
 refine ret1 (.bool (inB n 0 3)) rfl ?_ rfl ?_
 · exact resT (by kernel_rfl)
 exact ⟨rfl, H1⟩


--# l01Kind_any
theorem l01Kind_any (n : Int) (w : World) :
 Calls Try.prog 71 #[.int .i64 n] w fun e w' => e = .returned (.bool (inB n 0 3)) ∧ Ext w w' := by
 refine calls_of_wp Try.func71 rfl ?_
 refine wp_frame (a' := ⟨#[.int .i64 n, undef, undef, undef, undef], []⟩) (by kernel_rfl) ?_
 refine wsr ?_
 refine wv (.bool false) ?_
 refine wpList_nil (then_normal ?_)
 refine wsr ?_
 refine wv (.int .i64 n) ?_
 refine wcl (l00In_any n 0 3 _) ?_
 intro w1 E1
 refine wv (.bool (inB n 0 3)) ?_
 refine wpList_nil (then_normal ?_)
 refine wp_ret ?_
 have H1 := (Ext.refl w).trans E1
 refine ret1 (.bool (inB n 0 3)) rfl ?_ rfl ?_
 · exact resT (by kernel_rfl)
 exact ⟨rfl, H1⟩


--# l01Seeds_any
theorem l01Seeds_any (n : Int) (w : World) :
 Calls Try.prog 72 #[.int .i64 n] w fun e w' => e = .returned (.bool (inB n 0 1000)) ∧ Ext w w' := by
 refine calls_of_wp Try.func72 rfl ?_
 refine wp_frame (a' := ⟨#[.int .i64 n, undef, undef, undef, undef], []⟩) (by kernel_rfl) ?_
 refine wsr ?_
 refine wv (.bool false) ?_
 refine wpList_nil (then_normal ?_)
 refine wsr ?_
 refine wv (.int .i64 n) ?_
 refine wcl (l00In_any n 0 1000 _) ?_
 intro w1 E1
 refine wv (.bool (inB n 0 1000)) ?_
 refine wpList_nil (then_normal ?_)
 refine wp_ret ?_
 have H1 := (Ext.refl w).trans E1
 refine ret1 (.bool (inB n 0 1000)) rfl ?_ rfl ?_
 · exact resT (by kernel_rfl)
 exact ⟨rfl, H1⟩


--# has_any
theorem has_any (F : Fld) (hF : F.wf) (b : Nat) (t : TypeId) (c : Int) (w : World) (hb : Blk w b t F.cells) :
 Calls Try.prog 44 #[.pointer (some ⟨b, 0, none⟩), .int .i64 c] w fun e w' => e = .returned (.bool (isB F c)) ∧ Ext w w' := by
 have w1_ := hF.w1
 have w2_ := hF.w2
 have h1_ := hF.h1
 have h2_ := hF.h2
 refine calls_of_wp Try.func44 rfl ?_
 refine wp_frame (a' := ⟨#[.pointer (some ⟨b, 0, none⟩), .int .i64 c, undef, undef, undef, undef, undef, undef, undef, undef, undef, undef, undef, undef, undef, undef, undef, undef, undef, undef, undef, undef, undef, undef, undef, undef, undef], []⟩) (by kernel_rfl) ?_
 refine wsr ?_
 refine wv (.bool false) ?_
 refine wpList_nil (then_normal ?_)
 refine wsr ?_
 refine wv (.int .i64 c) ?_
 refine wcl (within_any c 0 99 _) ?_
 intro w1 E1
 refine wv (.bool (inB c 0 99)) ?_
 refine split_bool (inB c 0 99) (fun h1 => ?_) (fun h1 => ?_)
 · skip
   refine wbl 7 true h1 ?_
   have h1d := inT h1
   refine wv (.int .i64 c) ?_
   refine wrem c 10 ?_
   refine wv (.pointer (some ⟨b, 0, none⟩)) ?_
   refine wv (.pointer (some ⟨b, 0, none⟩)) ?_
   refine wv (.pointer (some ⟨b, 0, none⟩)) ?_
   replace hb := hb.ext E1
   refine wld b (0) scal_int8 (hb.get (Fld.get0 _)) ?_
   refine wi64 F.w ?_
   refine wv (.bool (decide ((c % 10) < F.w))) ?_
   refine wv (.bool (decide ((c % 10) < F.w))) ?_
   refine wv (.bool (decide ((c % 10) < F.w))) ?_
   refine split_bool (decide ((c % 10) < F.w)) (fun h2 => ?_) (fun h2 => ?_)
   · skip
     refine wbl 17 true h2 ?_
     have h2d := dT h2
     refine wv (.int .i64 c) ?_
     refine wquo c 10 ?_
     refine wv (.pointer (some ⟨b, 0, none⟩)) ?_
     refine wv (.pointer (some ⟨b, 0, none⟩)) ?_
     refine wv (.pointer (some ⟨b, 1, none⟩)) ?_
     refine wld b (1) scal_int8 (hb.get (Fld.get1 _)) ?_
     refine wi64 F.h ?_
     refine wv (.bool (decide ((c / 10) < F.h))) ?_
     refine wv (.bool (decide ((c / 10) < F.h))) ?_
     refine wv (.bool (decide ((c / 10) < F.h))) ?_
     refine wpList_nil (then_normal ?_)
     refine wp_ret ?_
     have H1 := (Ext.refl w).trans E1
     refine ret1 (.bool (isB F c)) rfl ?_ rfl ?_
     · refine (resT (v := .bool (decide ((c / 10) < F.h))) (by kernel_rfl)).trans ?_
       refine congrArg Value.bool ?_
       first | exact (isB_out (by omega)).symm | (rw [isB_eq]; simp [*] <;> (intros; omega))
     exact ⟨rfl, H1⟩
   · skip
     refine wbl 17 false h2 ?_
     have h2d := dF h2
     refine wsk ?_
     refine wsk ?_
     refine wsk ?_
     refine wsk ?_
     refine wsk ?_
     refine wsk ?_
     refine wsk ?_
     refine wsk ?_
     refine wv (.bool false) ?_
     refine wv (.bool false) ?_
     refine wpList_nil (then_normal ?_)
     refine wp_ret ?_
     have H2 := (Ext.refl w).trans E1
     refine ret1 (.bool (isB F c)) rfl ?_ rfl ?_
     · refine (resT (v := .bool false) (by kernel_rfl)).trans ?_
       refine congrArg Value.bool ?_
       first | exact (isB_out (by omega)).symm | (rw [isB_eq]; simp [*] <;> (intros; omega))
     exact ⟨rfl, H2⟩
 · skip
   refine wbl 7 false h1 ?_
   have h1d := inF h1
   refine wsk ?_
   refine wsk ?_
   refine wsk ?_
   refine wsk ?_
   refine wsk ?_
   refine wsk ?_
   refine wsk ?_
   refine wsk ?_
   refine wv (.bool false) ?_
   refine wv (.bool false) ?_
   refine wsk ?_
   refine wsk ?_
   refine wsk ?_
   refine wsk ?_
   refine wsk ?_
   refine wsk ?_
   refine wsk ?_
   refine wsk ?_
   refine wv (.bool false) ?_
   refine wv (.bool false) ?_
   refine wpList_nil (then_normal ?_)
   refine wp_ret ?_
   have H3 := (Ext.refl w).trans E1
   refine ret1 (.bool (isB F c)) rfl ?_ rfl ?_
   · refine (resT (v := .bool false) (by kernel_rfl)).trans ?_
     refine congrArg Value.bool ?_
     first | exact (isB_out (by omega)).symm | (rw [isB_eq]; simp [*] <;> (intros; omega))
   exact ⟨rfl, H3⟩


--# l01Is_any
theorem l01Is_any (F : Fld) (hF : F.wf) (b : Nat) (t : TypeId) (c : Int) (w : World) (hb : Blk w b t F.cells) :
 Calls Try.prog 54 #[.pointer (some ⟨b, 0, none⟩), .int .i64 c] w fun e w' => e = .returned (.bool (isB F c)) ∧ Ext w w' := by
 have w1_ := hF.w1
 have w2_ := hF.w2
 have h1_ := hF.h1
 have h2_ := hF.h2
 refine calls_of_wp Try.func54 rfl ?_
 refine wp_frame (a' := ⟨#[.pointer (some ⟨b, 0, none⟩), .int .i64 c, undef, undef, undef, undef, undef, undef, undef, undef, undef, undef, undef, undef, undef, undef, undef, undef, undef, undef, undef, undef, undef, undef, undef, undef, undef], []⟩) (by kernel_rfl) ?_
 refine wsr ?_
 refine wv (.bool false) ?_
 refine wpList_nil (then_normal ?_)
 refine wsr ?_
 refine wv (.int .i64 c) ?_
 refine wcl (l00In_any c 0 99 _) ?_
 intro w1 E1
 refine wv (.bool (inB c 0 99)) ?_
 refine split_bool (inB c 0 99) (fun h1 => ?_) (fun h1 => ?_)
 · skip
   refine wbl 7 true h1 ?_
   have h1d := inT h1
   refine wv (.int .i64 c) ?_
   refine wrem c 10 ?_
   refine wv (.pointer (some ⟨b, 0, none⟩)) ?_
   refine wv (.pointer (some ⟨b, 0, none⟩)) ?_
   refine wv (.pointer (some ⟨b, 0, none⟩)) ?_
   replace hb := hb.ext E1
   refine wld b (0) scal_int8 (hb.get (Fld.get0 _)) ?_
   refine wi64 F.w ?_
   refine wv (.bool (decide ((c % 10) < F.w))) ?_
   refine wv (.bool (decide ((c % 10) < F.w))) ?_
   refine wv (.bool (decide ((c % 10) < F.w))) ?_
   refine split_bool (decide ((c % 10) < F.w)) (fun h2 => ?_) (fun h2 => ?_)
   · skip
     refine wbl 17 true h2 ?_
     have h2d := dT h2
     refine wv (.int .i64 c) ?_
     refine wquo c 10 ?_
     refine wv (.pointer (some ⟨b, 0, none⟩)) ?_
     refine wv (.pointer (some ⟨b, 0, none⟩)) ?_
     refine wv (.pointer (some ⟨b, 1, none⟩)) ?_
     refine wld b (1) scal_int8 (hb.get (Fld.get1 _)) ?_
     refine wi64 F.h ?_
     refine wv (.bool (decide ((c / 10) < F.h))) ?_
     refine wv (.bool (decide ((c / 10) < F.h))) ?_
     refine wv (.bool (decide ((c / 10) < F.h))) ?_
     refine wpList_nil (then_normal ?_)
     refine wp_ret ?_
     have H1 := (Ext.refl w).trans E1
     refine ret1 (.bool (isB F c)) rfl ?_ rfl ?_
     · refine (resT (v := .bool (decide ((c / 10) < F.h))) (by kernel_rfl)).trans ?_
       refine congrArg Value.bool ?_
       first | exact (isB_out (by omega)).symm | (rw [isB_eq]; simp [*] <;> (intros; omega))
     exact ⟨rfl, H1⟩
   · skip
     refine wbl 17 false h2 ?_
     have h2d := dF h2
     refine wsk ?_
     refine wsk ?_
     refine wsk ?_
     refine wsk ?_
     refine wsk ?_
     refine wsk ?_
     refine wsk ?_
     refine wsk ?_
     refine wv (.bool false) ?_
     refine wv (.bool false) ?_
     refine wpList_nil (then_normal ?_)
     refine wp_ret ?_
     have H2 := (Ext.refl w).trans E1
     refine ret1 (.bool (isB F c)) rfl ?_ rfl ?_
     · refine (resT (v := .bool false) (by kernel_rfl)).trans ?_
       refine congrArg Value.bool ?_
       first | exact (isB_out (by omega)).symm | (rw [isB_eq]; simp [*] <;> (intros; omega))
     exact ⟨rfl, H2⟩
 · skip
   refine wbl 7 false h1 ?_
   have h1d := inF h1
   refine wsk ?_
   refine wsk ?_
   refine wsk ?_
   refine wsk ?_
   refine wsk ?_
   refine wsk ?_
   refine wsk ?_
   refine wsk ?_
   refine wv (.bool false) ?_
   refine wv (.bool false) ?_
   refine wsk ?_
   refine wsk ?_
   refine wsk ?_
   refine wsk ?_
   refine wsk ?_
   refine wsk ?_
   refine wsk ?_
   refine wsk ?_
   refine wv (.bool false) ?_
   refine wv (.bool false) ?_
   refine wpList_nil (then_normal ?_)
   refine wp_ret ?_
   have H3 := (Ext.refl w).trans E1
   refine ret1 (.bool (isB F c)) rfl ?_ rfl ?_
   · refine (resT (v := .bool false) (by kernel_rfl)).trans ?_
     refine congrArg Value.bool ?_
     first | exact (isB_out (by omega)).symm | (rw [isB_eq]; simp [*] <;> (intros; omega))
   exact ⟨rfl, H3⟩


--# l01Ok_any
theorem l01Ok_any (F : Fld) (hF : F.wf) (b : Nat) (t : TypeId) (w : World) (hb : Blk w b t F.cells) :
 Calls Try.prog 53 #[.pointer (some ⟨b, 0, none⟩)] w fun e w' => e = .returned (.bool (okB F)) ∧ Ext w w' := by
 have w1_ := hF.w1
 have w2_ := hF.w2
 have h1_ := hF.h1
 have h2_ := hF.h2
 refine calls_of_wp Try.func53 rfl ?_
 refine wp_frame (a' := ⟨#[.pointer (some ⟨b, 0, none⟩), undef, undef, undef, undef, undef, undef, undef, undef, undef, undef, undef, undef, undef, undef, undef, undef, undef, undef, undef, undef, undef, undef, undef, undef, undef, undef, undef, undef, undef, undef, undef, undef, undef, undef, undef, undef, undef, undef, undef, undef, undef, undef, undef, undef, undef, undef, undef, undef, undef, undef, undef, undef, undef, undef, undef, undef, undef, undef, undef, undef, undef, undef, undef, undef, undef, undef, undef], []⟩) (by kernel_rfl) ?_
 refine wsr ?_
 refine wv (.bool false) ?_
 refine wpList_nil (then_normal ?_)
 refine wp_seq ?_
 refine wsr ?_
 refine wv (.pointer (some ⟨b, 0, none⟩)) ?_
 refine wv (.pointer (some ⟨b, 0, none⟩)) ?_
 refine wv (.pointer (some ⟨b, 0, none⟩)) ?_
 refine wld b (0) scal_int8 (hb.get (Fld.get0 _)) ?_
 refine wi64 F.w ?_
 refine wcl (l00In_any F.w 1 10 _) ?_
 intro w1 E1
 refine wv (.bool (!(inB F.w 1 10))) ?_
 refine wv (.bool (!(inB F.w 1 10))) ?_
 refine split_bool (inB F.w 1 10) (fun h1 => ?_) (fun h1 => ?_)
 · skip
   refine wbl 13 false (bnT h1) ?_
   have h1d := inT h1
   refine wv (.pointer (some ⟨b, 0, none⟩)) ?_
   refine wv (.pointer (some ⟨b, 0, none⟩)) ?_
   refine wv (.pointer (some ⟨b, 1, none⟩)) ?_
   replace hb := hb.ext E1
   refine wld b (1) scal_int8 (hb.get (Fld.get1 _)) ?_
   refine wi64 F.h ?_
   refine wcl (l00In_any F.h 1 10 _) ?_
   intro w2 E2
   refine wv (.bool (!(inB F.h 1 10))) ?_
   refine wv (.bool (!(inB F.h 1 10))) ?_
   refine wpList_nil (then_normal ?_)
   have H1 := ((Ext.refl w).trans E1).trans E2
   refine wsplit (!(inB F.h 1 10)) (fun h2 => ?_) (fun h2 => ?_)
   · skip
     replace h2 := nbT h2
     have h2d := inF h2
     refine wsr ?_
     refine wv (.bool false) ?_
     refine wpList_nil (then_normal ?_)
     refine wp_ret ?_
     refine then_ret ?_
     refine ret1 (.bool (okB F)) rfl ?_ rfl ?_
     · refine (resT (v := .bool false) (by kernel_rfl)).trans ?_
       refine congrArg Value.bool ?_
       first | exact (okB_w (by omega)).symm | exact (okB_h (by omega)).symm | exact (okB_true.2 ⟨by omega, by omega, by omega, by omega, fun j hj => hall j (by omega)⟩).symm | skip
       all_goals (refine (okB_c i (by omega) ?_).symm)
       all_goals (first | (rw [celB_in (by assumption)]; exact decide_eq_false (by omega)) | (rw [celB_out (by assumption)]; exact decide_eq_false (by omega)) | (cases hq_ : isB F (i : Int) with | false => (rw [celB_out hq_]; exact decide_eq_false (by omega)) | true => (rw [celB_in hq_]; exact decide_eq_false (by omega))))
     exact ⟨rfl, H1⟩
   · skip
     replace h2 := nbF h2
     have h2d := inT h2
     refine wp_skip ?_
     refine then_normal ?_
     refine wp_seq ?_
     refine wsr ?_
     refine wv (.int .i64 0) ?_
     refine wpList_nil (then_normal ?_)
     refine wp_block ?_
     replace hb := hb.ext E2
     refine wp_loop_k (fun m1 a wl1 => ∃ (i : Nat), m1 = 100 - i ∧ i ≤ 100 ∧ (∀ j, j < i → celB F j = true) ∧ Ext w wl1 ∧ Blk wl1 b t F.cells ∧ (∃ J1 : Nat → Value, a = ⟨#[.pointer (some ⟨b, 0, none⟩), undef, J1 2, .int .i64 (i : Int), J1 4, J1 5, .pointer (some ⟨b, 0, none⟩), .pointer (some ⟨b, 0, none⟩), .pointer (some ⟨b, 0, none⟩), .int .i8 F.w, .int .i64 F.w, .bool (inB F.w 1 10), .bool (!(inB F.w 1 10)), .bool false, .pointer (some ⟨b, 0, none⟩), .pointer (some ⟨b, 0, none⟩), .pointer (some ⟨b, 1, none⟩), .int .i8 F.h, .int .i64 F.h, .bool (inB F.h 1 10), .bool (!(inB F.h 1 10)), .bool (!(inB F.h 1 10)), J1 22, J1 23, J1 24, J1 25, J1 26, J1 27, J1 28, J1 29, J1 30, J1 31, J1 32, J1 33, J1 34, J1 35, J1 36, J1 37, J1 38, J1 39, J1 40, J1 41, J1 42, J1 43, J1 44, J1 45, J1 46, J1 47, J1 48, J1 49, J1 50, J1 51, J1 52, J1 53, J1 54, J1 55, J1 56, J1 57, J1 58, J1 59, J1 60, J1 61, J1 62, J1 63, J1 64, J1 65, J1 66, J1 67], []⟩)) (100) ?_ ?_
     · refine ⟨0, rfl, ?_, ?_, H1, hb, exJ (by kernel_rfl)⟩
       · omega
       · intro j hj; omega
     intro m1 a wl1 hI
     obtain ⟨i, rfl, hi_, hall, HL1, hb, J1, rfl⟩ := hI
     have hk_ := hF.k1 i
     have hs_ := hF.s1 i
     refine wp_seq ?_
     refine wsr ?_
     refine wv (.int .i64 (i : Int)) ?_
     refine wv (.bool (decide ((i : Int) < 100))) ?_
     refine wpList_nil (then_normal ?_)
     refine wsplit (decide ((i : Int) < 100)) (fun h3 => ?_) (fun h3 => ?_)
     · skip
       have h3d := dT h3
       refine wp_skip ?_
       refine then_normal ?_
       refine wp_seq ?_
       refine wp_block ?_
       refine wsr ?_
       refine wv (.pointer (some ⟨b, 0, none⟩)) ?_
       refine wv (.int .i64 (i : Int)) ?_
       refine wv (.pointer (some ⟨b, 0, none⟩)) ?_
       refine wv (.pointer (some ⟨b, 2, none⟩)) ?_
       refine wixn b 2 i .i64 arrt__100_uint8 ?_
       have ce1 := hF.k1 i (by omega)
       refine wld b (2 + i) scal_uint8 (hb.get (Fld.getk _ _ (by omega))) ?_
       refine wi64 (F.k i) ?_
       refine wv (.int .i64 (F.k i)) ?_
       refine wpList_nil (then_normal ?_)
       refine wsr ?_
       refine wv (.pointer (some ⟨b, 0, none⟩)) ?_
       refine wv (.int .i64 (i : Int)) ?_
       refine wv (.pointer (some ⟨b, 0, none⟩)) ?_
       refine wv (.pointer (some ⟨b, 102, none⟩)) ?_
       refine wixn b 102 i .i64 arrt__100_int16 ?_
       have ce2 := hF.s1 i (by omega)
       refine wld b (102 + i) scal_int16 (hb.get (Fld.gets _ _ (by omega))) ?_
       refine wi64 (F.s i) ?_
       refine wv (.int .i64 (F.s i)) ?_
       refine wpList_nil (then_normal ?_)
       refine wp_seq ?_
       refine wsr ?_
       refine wv (.int .i64 (F.k i)) ?_
       refine wcl (l01Kind_any (F.k i) _) ?_
       intro w3 E3
       refine wv (.bool (!(inB (F.k i) 0 3))) ?_
       refine wv (.bool (!(inB (F.k i) 0 3))) ?_
       refine split_bool (inB (F.k i) 0 3) (fun h4 => ?_) (fun h4 => ?_)
       · skip
         refine wbl 43 false (bnT h4) ?_
         have h4d := inT h4
         refine wv (.int .i64 (F.s i)) ?_
         refine wcl (l01Seeds_any (F.s i) _) ?_
         intro w4 E4
         refine wv (.bool (!(inB (F.s i) 0 1000))) ?_
         refine wv (.bool (!(inB (F.s i) 0 1000))) ?_
         refine wv (.bool (!(inB (F.s i) 0 1000))) ?_
         have H2 := (HL1.trans E3).trans E4
         refine split_bool (inB (F.s i) 0 1000) (fun h5 => ?_) (fun h5 => ?_)
         · skip
           refine wbl 48 false (bnT h5) ?_
           have h5d := inT h5
           refine wv (.int .i64 (F.k i)) ?_
           refine wv (.bool ((F.k i) != 0)) ?_
           refine wv (.bool ((F.k i) != 0)) ?_
           refine split_bool ((F.k i) != 0) (fun h6 => ?_) (fun h6 => ?_)
           · skip
             refine wbl 51 true h6 ?_
             have h6d := nT h6
             refine wv (.int .i64 (F.s i)) ?_
             refine wv (.bool ((F.s i) != 0)) ?_
             refine wv (.bool ((F.s i) != 0)) ?_
             refine wv (.bool ((F.s i) != 0)) ?_
             refine wpList_nil (then_normal ?_)
             refine wp_frame (a' := ⟨#[.pointer (some ⟨b, 0, none⟩), undef, J1 2, .int .i64 (i : Int), .int .i64 (F.k i), .int .i64 (F.s i), .pointer (some ⟨b, 0, none⟩), .pointer (some ⟨b, 0, none⟩), .pointer (some ⟨b, 0, none⟩), .int .i8 F.w, .int .i64 F.w, .bool (inB F.w 1 10), .bool (!(inB F.w 1 10)), .bool false, .pointer (some ⟨b, 0, none⟩), .pointer (some ⟨b, 0, none⟩), .pointer (some ⟨b, 1, none⟩), .int .i8 F.h, .int .i64 F.h, .bool (inB F.h 1 10), .bool (!(inB F.h 1 10)), .bool (!(inB F.h 1 10)), .int .i64 (i : Int), .bool (decide ((i : Int) < 100)), J1 24, J1 25, .pointer (some ⟨b, 0, none⟩), .int .i64 (i : Int), .pointer (some ⟨b, 0, none⟩), .pointer (some ⟨b, 2, none⟩), .pointer (some ⟨b, 2 + i, none⟩), .int .u8 (F.k i), .int .i64 (F.k i), .pointer (some ⟨b, 0, none⟩), .int .i64 (i : Int), .pointer (some ⟨b, 0, none⟩), .pointer (some ⟨b, 102, none⟩), .pointer (some ⟨b, 102 + i, none⟩), .int .i16 (F.s i), .int .i64 (F.s i), .int .i64 (F.k i), .bool (inB (F.k i) 0 3), .bool (!(inB (F.k i) 0 3)), .bool false, .int .i64 (F.s i), .bool (inB (F.s i) 0 1000), .bool (!(inB (F.s i) 0 1000)), .bool (!(inB (F.s i) 0 1000)), .bool false, .int .i64 (F.k i), .bool ((F.k i) != 0), .bool true, .int .i64 (F.s i), .bool ((F.s i) != 0), .bool ((F.s i) != 0), .bool ((F.s i) != 0), J1 56, J1 57, J1 58, J1 59, J1 60, J1 61, J1 62, J1 63, J1 64, J1 65, J1 66, J1 67], []⟩) (by kernel_rfl) ?_
             refine wsplit ((F.s i) != 0) (fun h7 => ?_) (fun h7 => ?_)
             · skip
               have h7d := nT h7
               refine wsr ?_
               refine wv (.bool false) ?_
               refine wpList_nil (then_normal ?_)
               refine wp_ret ?_
               refine then_ret (block_ret (then_ret (then_ret (block_ret (then_ret ?_)))))
               refine ret1 (.bool (okB F)) rfl ?_ rfl ?_
               · refine (resT (v := .bool false) (by kernel_rfl)).trans ?_
                 refine congrArg Value.bool ?_
                 first | exact (okB_w (by omega)).symm | exact (okB_h (by omega)).symm | exact (okB_true.2 ⟨by omega, by omega, by omega, by omega, fun j hj => hall j (by omega)⟩).symm | skip
                 all_goals (refine (okB_c i (by omega) ?_).symm)
                 all_goals (first | (rw [celB_in (by assumption)]; exact decide_eq_false (by omega)) | (rw [celB_out (by assumption)]; exact decide_eq_false (by omega)) | (cases hq_ : isB F (i : Int) with | false => (rw [celB_out hq_]; exact decide_eq_false (by omega)) | true => (rw [celB_in hq_]; exact decide_eq_false (by omega))))
               exact ⟨rfl, H2⟩
             · skip
               have h7d := nF h7
               refine wp_skip ?_
               refine then_normal ?_
               refine wsr ?_
               refine wv (.pointer (some ⟨b, 0, none⟩)) ?_
               refine wv (.int .i64 (i : Int)) ?_
               replace hb := (hb.ext E3).ext E4
               refine wcl (l01Is_any F hF b _ (i : Int) _ hb) ?_
               intro w5 E5
               refine wv (.bool (!(isB F (i : Int)))) ?_
               refine wv (.bool (!(isB F (i : Int)))) ?_
               refine split_bool (isB F (i : Int)) (fun h8 => ?_) (fun h8 => ?_)
               · skip
                 refine wbl 60 false (bnT h8) ?_
                 have h8d := isB_true.1 h8
                 refine wsk ?_
                 refine wsk ?_
                 refine wsk ?_
                 refine wsk ?_
                 refine wsk ?_
                 refine wsk ?_
                 refine wv (.bool false) ?_
                 refine wpList_nil (then_normal ?_)
                 refine wcf ?_
                 refine wp_skip ?_
                 refine block_normal (then_normal ?_)
                 refine wp_region_lit ?_
                 refine wv (.int .i64 (i : Int)) ?_
                 refine wi64 ((i : Int) + 1) ?_
                 refine wv (.int .i64 ((i : Int) + 1)) ?_
                 refine wpList_nil (then_normal ?_)
                 replace hb := hb.ext E5
                 have H3 := H2.trans E5
                 refine ⟨_, ?_, i + 1, rfl, ?_, ?_, H3, hb, exJ (by kernel_rfl)⟩
                 · omega
                 · omega
                 · refine all_step hall ?_
                   first | (rw [celB_in (by assumption)]; exact decide_eq_true (by omega)) | (rw [celB_out (by assumption)]; exact decide_eq_true (by omega))
               · skip
                 refine wbl 60 true (bnF h8) ?_
                 refine wv (.int .i64 (F.k i)) ?_
                 refine wv (.bool ((F.k i) != 0)) ?_
                 refine wbl 62 true h6 ?_
                 refine wv (.bool true) ?_
                 refine wsk ?_
                 refine wsk ?_
                 refine wv (.bool true) ?_
                 refine wv (.bool true) ?_
                 refine wpList_nil (then_normal ?_)
                 refine wct ?_
                 refine wsr ?_
                 refine wv (.bool false) ?_
                 refine wpList_nil (then_normal ?_)
                 refine wp_ret ?_
                 refine block_ret (then_ret (then_ret (block_ret (then_ret ?_))))
                 have H4 := H2.trans E5
                 refine ret1 (.bool (okB F)) rfl ?_ rfl ?_
                 · refine (resT (v := .bool false) (by kernel_rfl)).trans ?_
                   refine congrArg Value.bool ?_
                   first | exact (okB_w (by omega)).symm | exact (okB_h (by omega)).symm | exact (okB_true.2 ⟨by omega, by omega, by omega, by omega, fun j hj => hall j (by omega)⟩).symm | skip
                   all_goals (refine (okB_c i (by omega) ?_).symm)
                   all_goals (first | (rw [celB_in (by assumption)]; exact decide_eq_false (by omega)) | (rw [celB_out (by assumption)]; exact decide_eq_false (by omega)) | (cases hq_ : isB F (i : Int) with | false => (rw [celB_out hq_]; exact decide_eq_false (by omega)) | true => (rw [celB_in hq_]; exact decide_eq_false (by omega))))
                 exact ⟨rfl, H4⟩
           · skip
             refine wbl 51 false h6 ?_
             have h6d := nF h6
             refine wsk ?_
             refine wsk ?_
             refine wv (.bool false) ?_
             refine wv (.bool false) ?_
             refine wpList_nil (then_normal ?_)
             refine wp_frame (a' := ⟨#[.pointer (some ⟨b, 0, none⟩), undef, J1 2, .int .i64 (i : Int), .int .i64 (F.k i), .int .i64 (F.s i), .pointer (some ⟨b, 0, none⟩), .pointer (some ⟨b, 0, none⟩), .pointer (some ⟨b, 0, none⟩), .int .i8 F.w, .int .i64 F.w, .bool (inB F.w 1 10), .bool (!(inB F.w 1 10)), .bool false, .pointer (some ⟨b, 0, none⟩), .pointer (some ⟨b, 0, none⟩), .pointer (some ⟨b, 1, none⟩), .int .i8 F.h, .int .i64 F.h, .bool (inB F.h 1 10), .bool (!(inB F.h 1 10)), .bool (!(inB F.h 1 10)), .int .i64 (i : Int), .bool (decide ((i : Int) < 100)), J1 24, J1 25, .pointer (some ⟨b, 0, none⟩), .int .i64 (i : Int), .pointer (some ⟨b, 0, none⟩), .pointer (some ⟨b, 2, none⟩), .pointer (some ⟨b, 2 + i, none⟩), .int .u8 (F.k i), .int .i64 (F.k i), .pointer (some ⟨b, 0, none⟩), .int .i64 (i : Int), .pointer (some ⟨b, 0, none⟩), .pointer (some ⟨b, 102, none⟩), .pointer (some ⟨b, 102 + i, none⟩), .int .i16 (F.s i), .int .i64 (F.s i), .int .i64 (F.k i), .bool (inB (F.k i) 0 3), .bool (!(inB (F.k i) 0 3)), .bool false, .int .i64 (F.s i), .bool (inB (F.s i) 0 1000), .bool (!(inB (F.s i) 0 1000)), .bool (!(inB (F.s i) 0 1000)), .bool false, .int .i64 (F.k i), .bool ((F.k i) != 0), .bool false, undef, undef, .bool false, .bool false, J1 56, J1 57, J1 58, J1 59, J1 60, J1 61, J1 62, J1 63, J1 64, J1 65, J1 66, J1 67], []⟩) (by kernel_rfl) ?_
             refine wcf ?_
             refine wp_skip ?_
             refine then_normal ?_
             refine wsr ?_
             refine wv (.pointer (some ⟨b, 0, none⟩)) ?_
             refine wv (.int .i64 (i : Int)) ?_
             replace hb := (hb.ext E3).ext E4
             refine wcl (l01Is_any F hF b _ (i : Int) _ hb) ?_
             intro w6 E6
             refine wv (.bool (!(isB F (i : Int)))) ?_
             refine wv (.bool (!(isB F (i : Int)))) ?_
             refine split_bool (isB F (i : Int)) (fun h9 => ?_) (fun h9 => ?_)
             · skip
               refine wbl 60 false (bnT h9) ?_
               have h9d := isB_true.1 h9
               refine wsk ?_
               refine wsk ?_
               refine wsk ?_
               refine wsk ?_
               refine wsk ?_
               refine wsk ?_
               refine wv (.bool false) ?_
               refine wpList_nil (then_normal ?_)
               refine wcf ?_
               refine wp_skip ?_
               refine block_normal (then_normal ?_)
               refine wp_region_lit ?_
               refine wv (.int .i64 (i : Int)) ?_
               refine wi64 ((i : Int) + 1) ?_
               refine wv (.int .i64 ((i : Int) + 1)) ?_
               refine wpList_nil (then_normal ?_)
               replace hb := hb.ext E6
               have H5 := H2.trans E6
               refine ⟨_, ?_, i + 1, rfl, ?_, ?_, H5, hb, exJ (by kernel_rfl)⟩
               · omega
               · omega
               · refine all_step hall ?_
                 first | (rw [celB_in (by assumption)]; exact decide_eq_true (by omega)) | (rw [celB_out (by assumption)]; exact decide_eq_true (by omega))
             · skip
               refine wbl 60 true (bnF h9) ?_
               refine wv (.int .i64 (F.k i)) ?_
               refine wv (.bool ((F.k i) != 0)) ?_
               refine wbl 62 false h6 ?_
               refine wv (.bool false) ?_
               refine wv (.int .i64 (F.s i)) ?_
               refine wv (.bool ((F.s i) != 0)) ?_
               refine wv (.bool ((F.s i) != 0)) ?_
               refine wv (.bool ((F.s i) != 0)) ?_
               refine wpList_nil (then_normal ?_)
               refine wsplit ((F.s i) != 0) (fun h10 => ?_) (fun h10 => ?_)
               · skip
                 have h10d := nT h10
                 refine wsr ?_
                 refine wv (.bool false) ?_
                 refine wpList_nil (then_normal ?_)
                 refine wp_ret ?_
                 refine block_ret (then_ret (then_ret (block_ret (then_ret ?_))))
                 have H6 := H2.trans E6
                 refine ret1 (.bool (okB F)) rfl ?_ rfl ?_
                 · refine (resT (v := .bool false) (by kernel_rfl)).trans ?_
                   refine congrArg Value.bool ?_
                   first | exact (okB_w (by omega)).symm | exact (okB_h (by omega)).symm | exact (okB_true.2 ⟨by omega, by omega, by omega, by omega, fun j hj => hall j (by omega)⟩).symm | skip
                   all_goals (refine (okB_c i (by omega) ?_).symm)
                   all_goals (first | (rw [celB_in (by assumption)]; exact decide_eq_false (by omega)) | (rw [celB_out (by assumption)]; exact decide_eq_false (by omega)) | (cases hq_ : isB F (i : Int) with | false => (rw [celB_out hq_]; exact decide_eq_false (by omega)) | true => (rw [celB_in hq_]; exact decide_eq_false (by omega))))
                 exact ⟨rfl, H6⟩
               · skip
                 have h10d := nF h10
                 refine wp_skip ?_
                 refine block_normal (then_normal ?_)
                 refine wp_region_lit ?_
                 refine wv (.int .i64 (i : Int)) ?_
                 refine wi64 ((i : Int) + 1) ?_
                 refine wv (.int .i64 ((i : Int) + 1)) ?_
                 refine wpList_nil (then_normal ?_)
                 replace hb := hb.ext E6
                 have H7 := H2.trans E6
                 refine ⟨_, ?_, i + 1, rfl, ?_, ?_, H7, hb, exJ (by kernel_rfl)⟩
                 · omega
                 · omega
                 · refine all_step hall ?_
                   first | (rw [celB_in (by assumption)]; exact decide_eq_true (by omega)) | (rw [celB_out (by assumption)]; exact decide_eq_true (by omega))
         · skip
           refine wbl 48 true (bnF h5) ?_
           have h5d := inF h5
           refine wsk ?_
           refine wsk ?_
           refine wsk ?_
           refine wsk ?_
           refine wsk ?_
           refine wsk ?_
           refine wv (.bool true) ?_
           refine wpList_nil (then_normal ?_)
           refine wp_frame (a' := ⟨#[.pointer (some ⟨b, 0, none⟩), undef, J1 2, .int .i64 (i : Int), .int .i64 (F.k i), .int .i64 (F.s i), .pointer (some ⟨b, 0, none⟩), .pointer (some ⟨b, 0, none⟩), .pointer (some ⟨b, 0, none⟩), .int .i8 F.w, .int .i64 F.w, .bool (inB F.w 1 10), .bool (!(inB F.w 1 10)), .bool false, .pointer (some ⟨b, 0, none⟩), .pointer (some ⟨b, 0, none⟩), .pointer (some ⟨b, 1, none⟩), .int .i8 F.h, .int .i64 F.h, .bool (inB F.h 1 10), .bool (!(inB F.h 1 10)), .bool (!(inB F.h 1 10)), .int .i64 (i : Int), .bool (decide ((i : Int) < 100)), J1 24, J1 25, .pointer (some ⟨b, 0, none⟩), .int .i64 (i : Int), .pointer (some ⟨b, 0, none⟩), .pointer (some ⟨b, 2, none⟩), .pointer (some ⟨b, 2 + i, none⟩), .int .u8 (F.k i), .int .i64 (F.k i), .pointer (some ⟨b, 0, none⟩), .int .i64 (i : Int), .pointer (some ⟨b, 0, none⟩), .pointer (some ⟨b, 102, none⟩), .pointer (some ⟨b, 102 + i, none⟩), .int .i16 (F.s i), .int .i64 (F.s i), .int .i64 (F.k i), .bool (inB (F.k i) 0 3), .bool (!(inB (F.k i) 0 3)), .bool false, .int .i64 (F.s i), .bool (inB (F.s i) 0 1000), .bool (!(inB (F.s i) 0 1000)), .bool (!(inB (F.s i) 0 1000)), .bool true, undef, undef, undef, undef, undef, undef, .bool true, J1 56, J1 57, J1 58, J1 59, J1 60, J1 61, J1 62, J1 63, J1 64, J1 65, J1 66, J1 67], []⟩) (by kernel_rfl) ?_
           refine wct ?_
           refine wsr ?_
           refine wv (.bool false) ?_
           refine wpList_nil (then_normal ?_)
           refine wp_ret ?_
           refine then_ret (block_ret (then_ret (then_ret (block_ret (then_ret ?_)))))
           refine ret1 (.bool (okB F)) rfl ?_ rfl ?_
           · refine (resT (v := .bool false) (by kernel_rfl)).trans ?_
             refine congrArg Value.bool ?_
             first | exact (okB_w (by omega)).symm | exact (okB_h (by omega)).symm | exact (okB_true.2 ⟨by omega, by omega, by omega, by omega, fun j hj => hall j (by omega)⟩).symm | skip
             all_goals (refine (okB_c i (by omega) ?_).symm)
             all_goals (first | (rw [celB_in (by assumption)]; exact decide_eq_false (by omega)) | (rw [celB_out (by assumption)]; exact decide_eq_false (by omega)) | (cases hq_ : isB F (i : Int) with | false => (rw [celB_out hq_]; exact decide_eq_false (by omega)) | true => (rw [celB_in hq_]; exact decide_eq_false (by omega))))
           exact ⟨rfl, H2⟩
       · skip
         refine wbl 43 true (bnF h4) ?_
         have h4d := inF h4
         refine wsk ?_
         refine wsk ?_
         refine wsk ?_
         refine wv (.bool true) ?_
         refine wv (.bool true) ?_
         refine wsk ?_
         refine wsk ?_
         refine wsk ?_
         refine wsk ?_
         refine wsk ?_
         refine wsk ?_
         refine wv (.bool true) ?_
         refine wpList_nil (then_normal ?_)
         refine wp_frame (a' := ⟨#[.pointer (some ⟨b, 0, none⟩), undef, J1 2, .int .i64 (i : Int), .int .i64 (F.k i), .int .i64 (F.s i), .pointer (some ⟨b, 0, none⟩), .pointer (some ⟨b, 0, none⟩), .pointer (some ⟨b, 0, none⟩), .int .i8 F.w, .int .i64 F.w, .bool (inB F.w 1 10), .bool (!(inB F.w 1 10)), .bool false, .pointer (some ⟨b, 0, none⟩), .pointer (some ⟨b, 0, none⟩), .pointer (some ⟨b, 1, none⟩), .int .i8 F.h, .int .i64 F.h, .bool (inB F.h 1 10), .bool (!(inB F.h 1 10)), .bool (!(inB F.h 1 10)), .int .i64 (i : Int), .bool (decide ((i : Int) < 100)), J1 24, J1 25, .pointer (some ⟨b, 0, none⟩), .int .i64 (i : Int), .pointer (some ⟨b, 0, none⟩), .pointer (some ⟨b, 2, none⟩), .pointer (some ⟨b, 2 + i, none⟩), .int .u8 (F.k i), .int .i64 (F.k i), .pointer (some ⟨b, 0, none⟩), .int .i64 (i : Int), .pointer (some ⟨b, 0, none⟩), .pointer (some ⟨b, 102, none⟩), .pointer (some ⟨b, 102 + i, none⟩), .int .i16 (F.s i), .int .i64 (F.s i), .int .i64 (F.k i), .bool (inB (F.k i) 0 3), .bool (!(inB (F.k i) 0 3)), .bool true, undef, undef, undef, .bool true, .bool true, undef, undef, undef, undef, undef, undef, .bool true, J1 56, J1 57, J1 58, J1 59, J1 60, J1 61, J1 62, J1 63, J1 64, J1 65, J1 66, J1 67], []⟩) (by kernel_rfl) ?_
         refine wct ?_
         refine wsr ?_
         refine wv (.bool false) ?_
         refine wpList_nil (then_normal ?_)
         refine wp_ret ?_
         refine then_ret (block_ret (then_ret (then_ret (block_ret (then_ret ?_)))))
         have H8 := HL1.trans E3
         refine ret1 (.bool (okB F)) rfl ?_ rfl ?_
         · refine (resT (v := .bool false) (by kernel_rfl)).trans ?_
           refine congrArg Value.bool ?_
           first | exact (okB_w (by omega)).symm | exact (okB_h (by omega)).symm | exact (okB_true.2 ⟨by omega, by omega, by omega, by omega, fun j hj => hall j (by omega)⟩).symm | skip
           all_goals (refine (okB_c i (by omega) ?_).symm)
           all_goals (first | (rw [celB_in (by assumption)]; exact decide_eq_false (by omega)) | (rw [celB_out (by assumption)]; exact decide_eq_false (by omega)) | (cases hq_ : isB F (i : Int) with | false => (rw [celB_out hq_]; exact decide_eq_false (by omega)) | true => (rw [celB_in hq_]; exact decide_eq_false (by omega))))
         exact ⟨rfl, H8⟩
     · skip
       have h3d := dF h3
       refine wp_exit ?_
       refine then_exit ?_
       refine then_exit ?_
       refine block_exit ?_
       refine then_normal ?_
       refine wsr ?_
       refine wv (.bool true) ?_
       refine wpList_nil (then_normal ?_)
       refine wp_ret ?_
       refine ret1 (.bool (okB F)) rfl ?_ rfl ?_
       · refine (resT (v := .bool true) (by kernel_rfl)).trans ?_
         refine congrArg Value.bool ?_
         first | exact (okB_w (by omega)).symm | exact (okB_h (by omega)).symm | exact (okB_true.2 ⟨by omega, by omega, by omega, by omega, fun j hj => hall j (by omega)⟩).symm | skip
         all_goals (refine (okB_c i (by omega) ?_).symm)
         all_goals (first | (rw [celB_in (by assumption)]; exact decide_eq_false (by omega)) | (rw [celB_out (by assumption)]; exact decide_eq_false (by omega)) | (cases hq_ : isB F (i : Int) with | false => (rw [celB_out hq_]; exact decide_eq_false (by omega)) | true => (rw [celB_in hq_]; exact decide_eq_false (by omega))))
       exact ⟨rfl, HL1⟩
 · skip
   refine wbl 13 true (bnF h1) ?_
   have h1d := inF h1
   refine wsk ?_
   refine wsk ?_
   refine wsk ?_
   refine wsk ?_
   refine wsk ?_
   refine wsk ?_
   refine wsk ?_
   refine wv (.bool true) ?_
   refine wpList_nil (then_normal ?_)
   refine wct ?_
   refine wsr ?_
   refine wv (.bool false) ?_
   refine wpList_nil (then_normal ?_)
   refine wp_ret ?_
   refine then_ret ?_
   have H9 := (Ext.refl w).trans E1
   refine ret1 (.bool (okB F)) rfl ?_ rfl ?_
   · refine (resT (v := .bool false) (by kernel_rfl)).trans ?_
     refine congrArg Value.bool ?_
     first | exact (okB_w (by omega)).symm | exact (okB_h (by omega)).symm | exact (okB_true.2 ⟨by omega, by omega, by omega, by omega, fun j hj => hall j (by omega)⟩).symm | skip
     all_goals (refine (okB_c i (by omega) ?_).symm)
     all_goals (first | (rw [celB_in (by assumption)]; exact decide_eq_false (by omega)) | (rw [celB_out (by assumption)]; exact decide_eq_false (by omega)) | (cases hq_ : isB F (i : Int) with | false => (rw [celB_out hq_]; exact decide_eq_false (by omega)) | true => (rw [celB_in hq_]; exact decide_eq_false (by omega))))
   exact ⟨rfl, H9⟩

end Go.Proofs.Ytdhidmigngmgjaa
