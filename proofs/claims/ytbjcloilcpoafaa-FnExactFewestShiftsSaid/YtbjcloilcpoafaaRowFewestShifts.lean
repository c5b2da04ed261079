/-
  For all arguments, the law FnExactFewestShifts returns true; its arguments read as they did. No conditions.
-/
import Derived.Test.YtbjcloilcpoafaaRows
import Derived.Test.YtbjcloilcpoafaaFn8
import Derived.Test.YtbjcloilcpoafaaRowk
import Derived.WalkKit
import Derived.ProofKit
import Derived.OpenShut
import Derived.ShutString
import Derived.ChangeOld
import Derived.Below
import Derived.SizedLaws
namespace Go.Proofs.Ytbjcloilcpoafaa
open Go.ChangeShapes Go.WideShapes Go.ChangeAt Go.RowKit
open Go.ChangeMaps (open_string shut_string)
set_option linter.unusedVariables false
theorem ownKnob_none : ownKnob Try.prog.godebug = none := by kernel_rfl
theorem laidOut_ : laidOutB Try.prog = true := by kernel_rfl
section
set_option maxHeartbeats 4000000
set_option maxRecDepth 100000
attribute [local irreducible] wpList Code.wp
--# walk FnExactFewestShifts
theorem FnExactFewestShifts_walk (need : List Int) (v : Value) (len : Int) (w : World) (hin : SlIn w v .i64 need) :
 Calls Try.prog 5 #[v, .int .i64 len] w fun e w' => e = .returned (.bool true) ∧ Ext w w' := by
 refine calls_of_wp Try.func5 rfl ?_
 refine wp_frame (a' := ⟨#[v, .int .i64 len, undef, undef, undef, undef, undef, undef, undef, undef, undef, undef, undef, undef, undef, undef, undef, undef, undef, undef, undef, undef, undef, undef, undef, undef, undef, undef, undef, undef, undef, undef, undef, undef, undef, undef, undef, undef, undef, undef, undef, undef, undef, undef, undef, undef, undef, undef, undef, undef, undef, undef, undef, undef, undef, undef, undef, undef, undef, undef, undef, undef, undef, undef, undef, undef, undef, undef, undef, undef, undef, undef, undef, undef, undef, undef, undef, undef, undef, undef, undef, undef, undef, undef, undef, undef, undef, undef, undef, undef, undef, undef, undef, undef, undef, undef, undef, undef], []⟩) (by kernel_rfl) ?_
 refine wsr ?_
 refine wv (.bool false) ?_
 refine wpList_nil (then_normal ?_)
 refine wp_seq ?_
 refine wsr ?_
 refine wv v ?_
 refine wlen (SlIn.ext hin (Ext.refl w)) ⟨_, slt__int64.1⟩ ?_
 refine wv (.bool (decide (1048576 < (need.length : Int)))) ?_
 refine wpList_nil (then_normal ?_)
 refine wsplit (decide (1048576 < (need.length : Int))) (fun h1 => ?_) (fun h1 => ?_)
 · skip
   have h1d := dT h1
   refine wsr ?_
   refine wv (.bool true) ?_
   refine wpList_nil (then_normal ?_)
   refine wp_ret ?_
   refine then_ret ?_
   refine ret1 (.bool true) rfl ?_ rfl ?_
   · exact resT (by kernel_rfl)
   exact ⟨rfl, (Ext.refl w)⟩
 · skip
   have h1d := dF h1
   refine wp_skip ?_
   refine then_normal ?_
   refine wsr ?_
   refine wv v ?_
   refine wcli (toInt64S_any need v (by omega) _ (SlIn.ext hin (Ext.refl w))) ?_
   intro g1 cap1 cs1 w1 B1 S1 E1 hg_
   have lo_g1 := Nat.le_trans ((Ext.refl w)).size hg_
   refine wv (.int .i64 len) ?_
   have H1 := (Ext.refl w).trans E1
   refine split_bool (shC need len [] == 0) (fun h2 => ?_) (fun h2 => ?_)
   · skip
     have h2d := eT h2
     refine wcli (sFewestShifts_t need need.length g1 cap1 cs1 S1 len (by omega) _ B1 (eT h2)) ?_
     intro g2 cap2 cs2 w2 B2 S2 E2 hg_
     have q_g1_g2 := Nat.ne_of_lt (Nat.lt_of_lt_of_le B1.lt hg_)
     have lo_g2 := Nat.le_trans (H1).size hg_
     have fl1 := fewL_b (need := need) (len := len) (eT h2)
     refine wv (.tuple #[.slice (some ⟨g2, 0, none⟩) ((fewL need len).length) cap2, .int .i64 0]) ?_
     refine wv (.slice (some ⟨g2, 0, none⟩) ((fewL need len).length) cap2) ?_
     refine wv (.int .i64 0) ?_
     refine wv (.slice (some ⟨g2, 0, none⟩) ((fewL need len).length) cap2) ?_
     refine wv (.int .i64 0) ?_
     refine wpList_nil (then_normal ?_)
     refine wsr ?_
     refine wv v ?_
     have H2 := H1.trans E2
     replace B1 := B1.ext E2
     refine wcli (toInt64S_any need v (by omega) _ (SlIn.ext hin H2)) ?_
     intro g3 cap3 cs3 w3 B3 S3 E3 hg_
     have q_g1_g3 := Nat.ne_of_lt (Nat.lt_of_lt_of_le B1.lt hg_)
     have q_g2_g3 := Nat.ne_of_lt (Nat.lt_of_lt_of_le B2.lt hg_)
     have lo_g3 := Nat.le_trans (H2).size hg_
     refine wv (.slice (some ⟨g3, 0, none⟩) need.length cap3) ?_
     refine wpList_nil (then_normal ?_)
     refine wsr ?_
     refine wv (.slice (some ⟨g3, 0, none⟩) need.length cap3) ?_
     refine wv (.int .i64 len) ?_
     replace B1 := B1.ext E3
     replace B2 := B2.ext E3
     have H3 := H2.trans E3
     refine wcli (iFewestShifts_t need need.length g3 cap3 cs3 S3 len (by omega) _ B3 (eT h2)) ?_
     intro g4 cap4 cs4 w4 B4 S4 E4 hg_
     have q_g1_g4 := Nat.ne_of_lt (Nat.lt_of_lt_of_le B1.lt hg_)
     have q_g2_g4 := Nat.ne_of_lt (Nat.lt_of_lt_of_le B2.lt hg_)
     have q_g3_g4 := Nat.ne_of_lt (Nat.lt_of_lt_of_le B3.lt hg_)
     have lo_g4 := Nat.le_trans (H3).size hg_
     have fl2 := fewL_b (need := need) (len := len) (eT h2)
     refine wv (.tuple #[.slice (some ⟨g4, 0, none⟩) ((fewL need len).length) cap4, .int .i64 0]) ?_
     refine wv (.slice (some ⟨g4, 0, none⟩) ((fewL need len).length) cap4) ?_
     refine wv (.int .i64 0) ?_
     refine wv (.slice (some ⟨g4, 0, none⟩) ((fewL need len).length) cap4) ?_
     refine wv (.int .i64 0) ?_
     refine wpList_nil (then_normal ?_)
     refine wp_seq ?_
     refine wsr ?_
     refine wv (.slice (some ⟨g4, 0, none⟩) ((fewL need len).length) cap4) ?_
     refine wv (.slice (some ⟨g2, 0, none⟩) ((fewL need len).length) cap2) ?_
     replace B2 := B2.ext E4
     refine wcl (eqInt64S_same (fewL need len) g4 cap4 cs4 S4 g2 cap2 cs2 S2 (by omega) _ B4 B2) ?_
     intro w5 E5
     refine wv (.bool false) ?_
     refine wv (.bool false) ?_
     refine wv (.int .i64 0) ?_
     refine wv (.int .i64 0) ?_
     refine wvv (.bool (0 != 0)) (.bool false) (by simp) ?_
     refine wv (.bool false) ?_
     refine wpList_nil (then_normal ?_)
     refine wp_frame (a' := ⟨#[v, .int .i64 len, undef, undef, .bool false, .slice (some ⟨g2, 0, none⟩) ((fewL need len).length) cap2, .int .i64 0, .slice (some ⟨g3, 0, none⟩) need.length cap3, .slice (some ⟨g4, 0, none⟩) ((fewL need len).length) cap4, .int .i64 0, undef, undef, undef, undef, undef, v, .int .i64 (need.length : Int), .bool (decide (1048576 < (need.length : Int))), .tuple #[.slice (some ⟨g2, 0, none⟩) ((fewL need len).length) cap2, .int .i64 0], v, .slice (some ⟨g1, 0, none⟩) need.length cap1, .int .i64 len, .tuple #[.slice (some ⟨g2, 0, none⟩) ((fewL need len).length) cap2, .int .i64 0], .slice (some ⟨g2, 0, none⟩) ((fewL need len).length) cap2, .int .i64 0, v, .slice (some ⟨g3, 0, none⟩) need.length cap3, .tuple #[.slice (some ⟨g4, 0, none⟩) ((fewL need len).length) cap4, .int .i64 0], .slice (some ⟨g3, 0, none⟩) need.length cap3, .int .i64 len, .tuple #[.slice (some ⟨g4, 0, none⟩) ((fewL need len).length) cap4, .int .i64 0], .slice (some ⟨g4, 0, none⟩) ((fewL need len).length) cap4, .int .i64 0, .slice (some ⟨g4, 0, none⟩) ((fewL need len).length) cap4, .slice (some ⟨g2, 0, none⟩) ((fewL need len).length) cap2, .bool true, .bool false, .bool false, .int .i64 0, .int .i64 0, .bool false, .bool false, undef, undef, undef, undef, undef, undef, undef, undef, undef, undef, undef, undef, undef, undef, undef, undef, undef, undef, undef, undef, undef, undef, undef, undef, undef, undef, undef, undef, undef, undef, undef, undef, undef, undef, undef, undef, undef, undef, undef, undef, undef, undef, undef, undef, undef, undef, undef, undef, undef, undef, undef, undef, undef, undef, undef, undef], []⟩) (by kernel_rfl) ?_
     refine wcf ?_
     refine wp_skip ?_
     refine then_normal ?_
     refine wp_seq ?_
     refine wsr ?_
     refine wv (.slice (some ⟨g3, 0, none⟩) need.length cap3) ?_
     refine wv v ?_
     have H4 := (H3.trans E4).trans E5
     replace B1 := (B1.ext E4).ext E5
     replace B2 := B2.ext E5
     replace B3 := (B3.ext E4).ext E5
     replace B4 := B4.ext E5
     refine wcli (toInt64S_any need v (by omega) _ (SlIn.ext hin H4)) ?_
     intro g5 cap5 cs5 w6 B5 S5 E6 hg_
     have q_g1_g5 := Nat.ne_of_lt (Nat.lt_of_lt_of_le B1.lt hg_)
     have q_g2_g5 := Nat.ne_of_lt (Nat.lt_of_lt_of_le B2.lt hg_)
     have q_g3_g5 := Nat.ne_of_lt (Nat.lt_of_lt_of_le B3.lt hg_)
     have q_g4_g5 := Nat.ne_of_lt (Nat.lt_of_lt_of_le B4.lt hg_)
     have lo_g5 := Nat.le_trans (H4).size hg_
     replace B3 := B3.ext E6
     refine wcl (eqInt64S_same need g3 cap3 cs3 S3 g5 cap5 cs5 S5 (by omega) _ B3 B5) ?_
     intro w7 E7
     refine wv (.bool false) ?_
     refine wpList_nil (then_normal ?_)
     refine wcf ?_
     refine wp_skip ?_
     refine then_normal ?_
     refine wsr ?_
     refine wv (.int .i64 1) ?_
     refine wpList_nil (then_normal ?_)
     refine wsr ?_
     refine wv (.slice (some ⟨g3, 0, none⟩) need.length cap3) ?_
     refine wv (.int .i64 1) ?_
     replace B3 := B3.ext E7
     refine wclx (fun v_ w_ => ∃ cs' ys, v_ = .int .i64 (1 + (need.length : Int)) ∧ Blk w_ g3 2 cs' ∧ SlI cs' need.length cap3 .i64 ys ∧ (ys.length = need.length ∧ ∀ j, j < need.length → atI ys j = 1 + (j : Int)) ∧ Wr g3 w7 w_) (markInt64S_any need g3 cap3 cs3 S3 1 (by omega) (by omega) _ B3) (fun e_ w_ ⟨c_, y_, h_, r_⟩ => ⟨_, h_, c_, y_, rfl, r_⟩) ?_
     rintro v_ w8 ⟨cs6, ys1, rfl, B3_, S6, hm1, X1⟩
     clear B3; have B3 := B3_; clear B3_
     refine wv (.int .i64 (1 + (need.length : Int))) ?_
     refine wpList_nil (then_normal ?_)
     refine wp_seq ?_
     refine wsr ?_
     refine wv (.int .i64 (1 + (need.length : Int))) ?_
     refine wv (.bool (decide ((1 + (need.length : Int)) < 0))) ?_
     refine wv (.bool (decide ((1 + (need.length : Int)) < 0))) ?_
     have H5 := X1.ext w lo_g3 ((H4.trans E6).trans E7)
     refine split_bool (decide ((1 + (need.length : Int)) < 0)) (fun h3 => ?_) (fun h3 => ?_)
     · skip
       refine wbl 52 true h3 ?_
       have h3d := dT h3
       refine wsk ?_
       refine wsk ?_
       refine wsk ?_
       refine wsk ?_
       refine wv (.bool true) ?_
       refine wv (.bool true) ?_
       refine wsk ?_
       refine wsk ?_
       refine wsk ?_
       refine wv (.bool true) ?_
       refine wpList_nil (then_normal ?_)
       refine wct ?_
       refine wsr ?_
       refine wv (.bool false) ?_
       refine wpList_nil (then_normal ?_)
       refine wp_ret ?_
       refine then_ret ?_
       refine ret1 (.bool true) rfl ?_ rfl ?_
       · refine (resT (v := .bool false) (by kernel_rfl)).trans ?_
         refine congrArg Value.bool ?_
         exfalso; omega
       exact ⟨rfl, H5⟩
     · skip
       refine wbl 52 false h3 ?_
       have h3d := dF h3
       refine wv (.slice (some ⟨g4, 0, none⟩) ((fewL need len).length) cap4) ?_
       refine wv (.slice (some ⟨g2, 0, none⟩) ((fewL need len).length) cap2) ?_
       replace B4 := X1.blk ((B4.ext E6).ext E7) (Ne.symm q_g3_g4)
       replace B2 := X1.blk ((B2.ext E6).ext E7) q_g2_g3
       refine wcl (eqInt64S_same (fewL need len) g4 cap4 cs4 S4 g2 cap2 cs2 S2 (by omega) _ B4 B2) ?_
       intro w9 E8
       refine wv (.bool false) ?_
       refine wv (.bool false) ?_
       refine wv (.bool false) ?_
       refine wv (.int .i64 0) ?_
       refine wv (.int .i64 0) ?_
       refine wvv (.bool (0 != 0)) (.bool false) (by simp) ?_
       refine wv (.bool false) ?_
       refine wpList_nil (then_normal ?_)
       refine wcf ?_
       refine wp_skip ?_
       refine then_normal ?_
       refine wsr ?_
       refine wv (.int .i64 1) ?_
       refine wpList_nil (then_normal ?_)
       refine wsr ?_
       refine wv (.slice (some ⟨g4, 0, none⟩) ((fewL need len).length) cap4) ?_
       refine wv (.int .i64 1) ?_
       replace B4 := B4.ext E8
       refine wclx (fun v_ w_ => ∃ cs' ys, v_ = .int .i64 (1 + ((fewL need len).length : Int)) ∧ Blk w_ g4 2 cs' ∧ SlI cs' (fewL need len).length cap4 .i64 ys ∧ (ys.length = (fewL need len).length ∧ ∀ j, j < (fewL need len).length → atI ys j = 1 + (j : Int)) ∧ Wr g4 w9 w_) (markInt64S_any (fewL need len) g4 cap4 cs4 S4 1 (by omega) (by omega) _ B4) (fun e_ w_ ⟨c_, y_, h_, r_⟩ => ⟨_, h_, c_, y_, rfl, r_⟩) ?_
       rintro v_ w10 ⟨cs7, ys2, rfl, B4_, S7, hm2, X2⟩
       clear B4; have B4 := B4_; clear B4_
       refine wv (.int .i64 (1 + ((fewL need len).length : Int))) ?_
       refine wpList_nil (then_normal ?_)
       refine wsr ?_
       refine wv (.int .i64 1) ?_
       refine wpList_nil (then_normal ?_)
       refine wsr ?_
       refine wv (.slice (some ⟨g4, 0, none⟩) ((fewL need len).length) cap4) ?_
       refine wv (.int .i64 1) ?_
       refine wcl (heldInt64S_any ys2 ((fewL need len).length) g4 cap4 cs7 S7 1 (by omega) (by omega) hm2.2 _ B4) ?_
       intro w11 E9
       refine wv (.int .i64 (1 + ((fewL need len).length : Int))) ?_
       refine wpList_nil (then_normal ?_)
       refine wp_frame (a' := ⟨#[v, .int .i64 len, undef, undef, .bool false, .slice (some ⟨g2, 0, none⟩) ((fewL need len).length) cap2, .int .i64 0, .slice (some ⟨g3, 0, none⟩) need.length cap3, .slice (some ⟨g4, 0, none⟩) ((fewL need len).length) cap4, .int .i64 0, .int .i64 (1 + (need.length : Int)), .int .i64 (1 + ((fewL need len).length : Int)), .int .i64 (1 + ((fewL need len).length : Int)), undef, undef, v, .int .i64 (need.length : Int), .bool (decide (1048576 < (need.length : Int))), .tuple #[.slice (some ⟨g2, 0, none⟩) ((fewL need len).length) cap2, .int .i64 0], v, .slice (some ⟨g1, 0, none⟩) need.length cap1, .int .i64 len, .tuple #[.slice (some ⟨g2, 0, none⟩) ((fewL need len).length) cap2, .int .i64 0], .slice (some ⟨g2, 0, none⟩) ((fewL need len).length) cap2, .int .i64 0, v, .slice (some ⟨g3, 0, none⟩) need.length cap3, .tuple #[.slice (some ⟨g4, 0, none⟩) ((fewL need len).length) cap4, .int .i64 0], .slice (some ⟨g3, 0, none⟩) need.length cap3, .int .i64 len, .tuple #[.slice (some ⟨g4, 0, none⟩) ((fewL need len).length) cap4, .int .i64 0], .slice (some ⟨g4, 0, none⟩) ((fewL need len).length) cap4, .int .i64 0, .slice (some ⟨g4, 0, none⟩) ((fewL need len).length) cap4, .slice (some ⟨g2, 0, none⟩) ((fewL need len).length) cap2, .bool true, .bool false, .bool false, .int .i64 0, .int .i64 0, .bool false, .bool false, .slice (some ⟨g3, 0, none⟩) need.length cap3, v, .slice (some ⟨g5, 0, none⟩) need.length cap5, .bool true, .bool false, .slice (some ⟨g3, 0, none⟩) need.length cap3, .int .i64 1, .int .i64 (1 + (need.length : Int)), .int .i64 (1 + (need.length : Int)), .bool (decide ((1 + (need.length : Int)) < 0)), .bool false, .slice (some ⟨g4, 0, none⟩) ((fewL need len).length) cap4, .slice (some ⟨g2, 0, none⟩) ((fewL need len).length) cap2, .bool true, .bool false, .bool false, .bool false, .int .i64 0, .int .i64 0, .bool false, .bool false, .slice (some ⟨g4, 0, none⟩) ((fewL need len).length) cap4, .int .i64 1, .int .i64 (1 + ((fewL need len).length : Int)), .slice (some ⟨g4, 0, none⟩) ((fewL need len).length) cap4, .int .i64 1, .int .i64 (1 + ((fewL need len).length : Int)), undef, undef, undef, undef, undef, undef, undef, undef, undef, undef, undef, undef, undef, undef, undef, undef, undef, undef, undef, undef, undef, undef, undef, undef, undef, undef, undef, undef, undef], []⟩) (by kernel_rfl) ?_
       refine wp_seq ?_
       refine wsr ?_
       refine wv (.int .i64 (1 + ((fewL need len).length : Int))) ?_
       refine wv (.bool (decide ((1 + ((fewL need len).length : Int)) < 0))) ?_
       refine wpList_nil (then_normal ?_)
       have H6 := (X2.ext w lo_g4 (H5.trans E8)).trans E9
       refine wsplit (decide ((1 + ((fewL need len).length : Int)) < 0)) (fun h4 => ?_) (fun h4 => ?_)
       · skip
         have h4d := dT h4
         refine wsr ?_
         refine wv (.bool false) ?_
         refine wpList_nil (then_normal ?_)
         refine wp_ret ?_
         refine then_ret ?_
         refine ret1 (.bool true) rfl ?_ rfl ?_
         · refine (resT (v := .bool false) (by kernel_rfl)).trans ?_
           refine congrArg Value.bool ?_
           exfalso; omega
         exact ⟨rfl, H6⟩
       · skip
         have h4d := dF h4
         refine wp_skip ?_
         refine then_normal ?_
         refine wp_seq ?_
         refine wsr ?_
         refine wv (.int .i64 (1 + ((fewL need len).length : Int))) ?_
         refine wv (.int .i64 (1 + ((fewL need len).length : Int))) ?_
         refine wvv (.bool ((1 + ((fewL need len).length : Int)) != (1 + ((fewL need len).length : Int)))) (.bool false) (by simp) ?_
         refine wpList_nil (then_normal ?_)
         refine wcf ?_
         refine wp_skip ?_
         refine then_normal ?_
         refine wsr ?_
         refine wv v ?_
         replace B1 := (X2.blk ((X1.blk ((B1.ext E6).ext E7) q_g1_g3).ext E8) q_g1_g4).ext E9
         replace B2 := (X2.blk (B2.ext E8) q_g2_g4).ext E9
         replace B3 := (X2.blk (B3.ext E8) q_g3_g4).ext E9
         replace B4 := B4.ext E9
         replace B5 := (X2.blk ((X1.blk (B5.ext E7) (Ne.symm q_g3_g5)).ext E8) (Ne.symm q_g4_g5)).ext E9
         refine wcli (toInt64S_any need v (by omega) _ (SlIn.ext hin H6)) ?_
         intro g6 cap6 cs8 w12 B6 S8 E10 hg_
         have q_g1_g6 := Nat.ne_of_lt (Nat.lt_of_lt_of_le B1.lt hg_)
         have q_g2_g6 := Nat.ne_of_lt (Nat.lt_of_lt_of_le B2.lt hg_)
         have q_g3_g6 := Nat.ne_of_lt (Nat.lt_of_lt_of_le B3.lt hg_)
         have q_g4_g6 := Nat.ne_of_lt (Nat.lt_of_lt_of_le B4.lt hg_)
         have q_g5_g6 := Nat.ne_of_lt (Nat.lt_of_lt_of_le B5.lt hg_)
         have lo_g6 := Nat.le_trans (H6).size hg_
         refine wv (.int .i64 len) ?_
         replace B1 := B1.ext E10
         replace B2 := B2.ext E10
         replace B3 := B3.ext E10
         replace B4 := B4.ext E10
         replace B5 := B5.ext E10
         have H7 := H6.trans E10
         refine wcli (iFewestShifts_t need need.length g6 cap6 cs8 S8 len (by omega) _ B6 (eT h2)) ?_
         intro g7 cap7 cs9 w13 B7 S9 E11 hg_
         have q_g1_g7 := Nat.ne_of_lt (Nat.lt_of_lt_of_le B1.lt hg_)
         have q_g2_g7 := Nat.ne_of_lt (Nat.lt_of_lt_of_le B2.lt hg_)
         have q_g3_g7 := Nat.ne_of_lt (Nat.lt_of_lt_of_le B3.lt hg_)
         have q_g4_g7 := Nat.ne_of_lt (Nat.lt_of_lt_of_le B4.lt hg_)
         have q_g5_g7 := Nat.ne_of_lt (Nat.lt_of_lt_of_le B5.lt hg_)
         have q_g6_g7 := Nat.ne_of_lt (Nat.lt_of_lt_of_le B6.lt hg_)
         have lo_g7 := Nat.le_trans (H7).size hg_
         have fl3 := fewL_b (need := need) (len := len) (eT h2)
         refine wv (.tuple #[.slice (some ⟨g7, 0, none⟩) ((fewL need len).length) cap7, .int .i64 0]) ?_
         refine wv (.slice (some ⟨g7, 0, none⟩) ((fewL need len).length) cap7) ?_
         refine wv (.int .i64 0) ?_
         refine wv (.slice (some ⟨g7, 0, none⟩) ((fewL need len).length) cap7) ?_
         refine wv (.int .i64 0) ?_
         refine wpList_nil (then_normal ?_)
         refine wp_seq ?_
         refine wsr ?_
         refine wv (.slice (some ⟨g7, 0, none⟩) ((fewL need len).length) cap7) ?_
         refine wv (.slice (some ⟨g2, 0, none⟩) ((fewL need len).length) cap2) ?_
         replace B2 := B2.ext E11
         refine wcl (eqInt64S_same (fewL need len) g7 cap7 cs9 S9 g2 cap2 cs2 S2 (by omega) _ B7 B2) ?_
         intro w14 E12
         refine wv (.bool false) ?_
         refine wv (.bool false) ?_
         refine wv (.int .i64 0) ?_
         refine wv (.int .i64 0) ?_
         refine wvv (.bool (0 != 0)) (.bool false) (by simp) ?_
         refine wv (.bool false) ?_
         refine wpList_nil (then_normal ?_)
         refine wcf ?_
         refine wp_skip ?_
         refine then_normal ?_
         refine wsr ?_
         refine wv (.int .i64 1) ?_
         refine wpList_nil (then_normal ?_)
         refine wsr ?_
         refine wv (.slice (some ⟨g4, 0, none⟩) ((fewL need len).length) cap4) ?_
         refine wv (.int .i64 1) ?_
         replace B4 := (B4.ext E11).ext E12
         refine wcl (heldInt64S_any ys2 ((fewL need len).length) g4 cap4 cs7 S7 1 (by omega) (by omega) hm2.2 _ B4) ?_
         intro w15 E13
         refine wv (.int .i64 (1 + ((fewL need len).length : Int))) ?_
         refine wpList_nil (then_normal ?_)
         refine wp_seq ?_
         refine wsr ?_
         refine wv (.int .i64 (1 + ((fewL need len).length : Int))) ?_
         refine wv (.bool (decide ((1 + ((fewL need len).length : Int)) < 0))) ?_
         refine wbl 94 false h4 ?_
         refine wpList_nil (then_normal ?_)
         refine wp_frame (a' := ⟨#[v, .int .i64 len, undef, undef, .bool false, .slice (some ⟨g2, 0, none⟩) ((fewL need len).length) cap2, .int .i64 0, .slice (some ⟨g3, 0, none⟩) need.length cap3, .slice (some ⟨g4, 0, none⟩) ((fewL need len).length) cap4, .int .i64 0, .int .i64 (1 + (need.length : Int)), .int .i64 (1 + ((fewL need len).length : Int)), .int .i64 (1 + ((fewL need len).length : Int)), .slice (some ⟨g7, 0, none⟩) ((fewL need len).length) cap7, .int .i64 0, v, .int .i64 (need.length : Int), .bool (decide (1048576 < (need.length : Int))), .tuple #[.slice (some ⟨g2, 0, none⟩) ((fewL need len).length) cap2, .int .i64 0], v, .slice (some ⟨g1, 0, none⟩) need.length cap1, .int .i64 len, .tuple #[.slice (some ⟨g2, 0, none⟩) ((fewL need len).length) cap2, .int .i64 0], .slice (some ⟨g2, 0, none⟩) ((fewL need len).length) cap2, .int .i64 0, v, .slice (some ⟨g3, 0, none⟩) need.length cap3, .tuple #[.slice (some ⟨g4, 0, none⟩) ((fewL need len).length) cap4, .int .i64 0], .slice (some ⟨g3, 0, none⟩) need.length cap3, .int .i64 len, .tuple #[.slice (some ⟨g4, 0, none⟩) ((fewL need len).length) cap4, .int .i64 0], .slice (some ⟨g4, 0, none⟩) ((fewL need len).length) cap4, .int .i64 0, .slice (some ⟨g4, 0, none⟩) ((fewL need len).length) cap4, .slice (some ⟨g2, 0, none⟩) ((fewL need len).length) cap2, .bool true, .bool false, .bool false, .int .i64 0, .int .i64 0, .bool false, .bool false, .slice (some ⟨g3, 0, none⟩) need.length cap3, v, .slice (some ⟨g5, 0, none⟩) need.length cap5, .bool true, .bool false, .slice (some ⟨g3, 0, none⟩) need.length cap3, .int .i64 1, .int .i64 (1 + (need.length : Int)), .int .i64 (1 + (need.length : Int)), .bool (decide ((1 + (need.length : Int)) < 0)), .bool false, .slice (some ⟨g4, 0, none⟩) ((fewL need len).length) cap4, .slice (some ⟨g2, 0, none⟩) ((fewL need len).length) cap2, .bool true, .bool false, .bool false, .bool false, .int .i64 0, .int .i64 0, .bool false, .bool false, .slice (some ⟨g4, 0, none⟩) ((fewL need len).length) cap4, .int .i64 1, .int .i64 (1 + ((fewL need len).length : Int)), .slice (some ⟨g4, 0, none⟩) ((fewL need len).length) cap4, .int .i64 1, .int .i64 (1 + ((fewL need len).length : Int)), .int .i64 (1 + ((fewL need len).length : Int)), .bool (decide ((1 + ((fewL need len).length : Int)) < 0)), .int .i64 (1 + ((fewL need len).length : Int)), .int .i64 (1 + ((fewL need len).length : Int)), .bool false, .tuple #[.slice (some ⟨g7, 0, none⟩) ((fewL need len).length) cap7, .int .i64 0], v, .slice (some ⟨g6, 0, none⟩) need.length cap6, .int .i64 len, .tuple #[.slice (some ⟨g7, 0, none⟩) ((fewL need len).length) cap7, .int .i64 0], .slice (some ⟨g7, 0, none⟩) ((fewL need len).length) cap7, .int .i64 0, .slice (some ⟨g7, 0, none⟩) ((fewL need len).length) cap7, .slice (some ⟨g2, 0, none⟩) ((fewL need len).length) cap2, .bool true, .bool false, .bool false, .int .i64 0, .int .i64 0, .bool false, .bool false, .slice (some ⟨g4, 0, none⟩) ((fewL need len).length) cap4, .int .i64 1, .int .i64 (1 + ((fewL need len).length : Int)), .int .i64 (1 + ((fewL need len).length : Int)), .bool false, undef, undef, undef], []⟩) (by kernel_rfl) ?_
         refine wcf ?_
         refine wp_skip ?_
         refine then_normal ?_
         refine wp_seq ?_
         refine wsr ?_
         refine wv (.int .i64 (1 + ((fewL need len).length : Int))) ?_
         refine wv (.int .i64 (1 + ((fewL need len).length : Int))) ?_
         refine wvv (.bool ((1 + ((fewL need len).length : Int)) != (1 + ((fewL need len).length : Int)))) (.bool false) (by simp) ?_
         refine wpList_nil (then_normal ?_)
         refine wcf ?_
         refine wp_skip ?_
         refine then_normal ?_
         refine wsr ?_
         refine wv (.bool true) ?_
         refine wpList_nil (then_normal ?_)
         refine wp_ret ?_
         have H8 := ((H7.trans E11).trans E12).trans E13
         refine ret1 (.bool true) rfl ?_ rfl ?_
         · exact resT (by kernel_rfl)
         exact ⟨rfl, H8⟩
   · skip
     have h2d := eF h2
     refine wcli (sFewestShifts_f need need.length g1 cap1 cs1 S1 len (by omega) _ B1 (eF h2)) ?_
     intro g8 cap8 cs10 w16 B8 S10 E14 hg_
     have q_g1_g8 := Nat.ne_of_lt (Nat.lt_of_lt_of_le B1.lt hg_)
     have lo_g8 := Nat.le_trans (H1).size hg_
     refine wv (.tuple #[.slice (some ⟨g8, 0, none⟩) (([] : List Int).length) cap8, .int .i64 (shC need len [])]) ?_
     refine wv (.slice (some ⟨g8, 0, none⟩) (([] : List Int).length) cap8) ?_
     refine wv (.int .i64 (shC need len [])) ?_
     refine wv (.slice (some ⟨g8, 0, none⟩) (([] : List Int).length) cap8) ?_
     refine wv (.int .i64 (shC need len [])) ?_
     refine wpList_nil (then_normal ?_)
     refine wsr ?_
     refine wv v ?_
     have H9 := H1.trans E14
     replace B1 := B1.ext E14
     refine wcli (toInt64S_any need v (by omega) _ (SlIn.ext hin H9)) ?_
     intro g9 cap9 cs11 w17 B9 S11 E15 hg_
     have q_g1_g9 := Nat.ne_of_lt (Nat.lt_of_lt_of_le B1.lt hg_)
     have q_g8_g9 := Nat.ne_of_lt (Nat.lt_of_lt_of_le B8.lt hg_)
     have lo_g9 := Nat.le_trans (H9).size hg_
     refine wv (.slice (some ⟨g9, 0, none⟩) need.length cap9) ?_
     refine wpList_nil (then_normal ?_)
     refine wsr ?_
     refine wv (.slice (some ⟨g9, 0, none⟩) need.length cap9) ?_
     refine wv (.int .i64 len) ?_
     refine wcl (iFewestShifts_f need need.length g9 cap9 cs11 S11 len (by omega) _ B9 (eF h2)) ?_
     intro w18 E16
     refine wv (.tuple #[.slice none 0 0, .int .i64 (shC need len [])]) ?_
     refine wv (.slice none 0 0) ?_
     refine wv (.int .i64 (shC need len [])) ?_
     refine wv (.slice none 0 0) ?_
     refine wv (.int .i64 (shC need len [])) ?_
     refine wpList_nil (then_normal ?_)
     refine wp_seq ?_
     refine wsr ?_
     refine wv (.slice none 0 0) ?_
     refine wv (.slice (some ⟨g8, 0, none⟩) (([] : List Int).length) cap8) ?_
     replace B8 := (B8.ext E15).ext E16
     refine wcl (eqInt64S_nil g8 cap8 _) ?_
     intro w19 E17
     refine wv (.bool false) ?_
     refine wv (.bool false) ?_
     refine wv (.int .i64 (shC need len [])) ?_
     refine wv (.int .i64 (shC need len [])) ?_
     refine wvv (.bool ((shC need len []) != (shC need len []))) (.bool false) (by simp) ?_
     refine wv (.bool false) ?_
     refine wpList_nil (then_normal ?_)
     refine wp_frame (a' := ⟨#[v, .int .i64 len, undef, undef, .bool false, .slice (some ⟨g8, 0, none⟩) (([] : List Int).length) cap8, .int .i64 (shC need len []), .slice (some ⟨g9, 0, none⟩) need.length cap9, .slice none 0 0, .int .i64 (shC need len []), undef, undef, undef, undef, undef, v, .int .i64 (need.length : Int), .bool (decide (1048576 < (need.length : Int))), .tuple #[.slice (some ⟨g8, 0, none⟩) (([] : List Int).length) cap8, .int .i64 (shC need len [])], v, .slice (some ⟨g1, 0, none⟩) need.length cap1, .int .i64 len, .tuple #[.slice (some ⟨g8, 0, none⟩) (([] : List Int).length) cap8, .int .i64 (shC need len [])], .slice (some ⟨g8, 0, none⟩) (([] : List Int).length) cap8, .int .i64 (shC need len []), v, .slice (some ⟨g9, 0, none⟩) need.length cap9, .tuple #[.slice none 0 0, .int .i64 (shC need len [])], .slice (some ⟨g9, 0, none⟩) need.length cap9, .int .i64 len, .tuple #[.slice none 0 0, .int .i64 (shC need len [])], .slice none 0 0, .int .i64 (shC need len []), .slice none 0 0, .slice (some ⟨g8, 0, none⟩) (([] : List Int).length) cap8, .bool true, .bool false, .bool false, .int .i64 (shC need len []), .int .i64 (shC need len []), .bool false, .bool false, undef, undef, undef, undef, undef, undef, undef, undef, undef, undef, undef, undef, undef, undef, undef, undef, undef, undef, undef, undef, undef, undef, undef, undef, undef, undef, undef, undef, undef, undef, undef, undef, undef, undef, undef, undef, undef, undef, undef, undef, undef, undef, undef, undef, undef, undef, undef, undef, undef, undef, undef, undef, undef, undef, undef, undef], []⟩) (by kernel_rfl) ?_
     refine wcf ?_
     refine wp_skip ?_
     refine then_normal ?_
     refine wp_seq ?_
     refine wsr ?_
     refine wv (.slice (some ⟨g9, 0, none⟩) need.length cap9) ?_
     refine wv v ?_
     have H10 := ((H9.trans E15).trans E16).trans E17
     replace B1 := ((B1.ext E15).ext E16).ext E17
     replace B8 := B8.ext E17
     replace B9 := (B9.ext E16).ext E17
     refine wcli (toInt64S_any need v (by omega) _ (SlIn.ext hin H10)) ?_
     intro g10 cap10 cs12 w20 B10 S12 E18 hg_
     have q_g1_g10 := Nat.ne_of_lt (Nat.lt_of_lt_of_le B1.lt hg_)
     have q_g8_g10 := Nat.ne_of_lt (Nat.lt_of_lt_of_le B8.lt hg_)
     have q_g9_g10 := Nat.ne_of_lt (Nat.lt_of_lt_of_le B9.lt hg_)
     have lo_g10 := Nat.le_trans (H10).size hg_
     replace B9 := B9.ext E18
     refine wcl (eqInt64S_same need g9 cap9 cs11 S11 g10 cap10 cs12 S12 (by omega) _ B9 B10) ?_
     intro w21 E19
     refine wv (.bool false) ?_
     refine wpList_nil (then_normal ?_)
     refine wcf ?_
     refine wp_skip ?_
     refine then_normal ?_
     refine wsr ?_
     refine wv (.int .i64 1) ?_
     refine wpList_nil (then_normal ?_)
     refine wsr ?_
     refine wv (.slice (some ⟨g9, 0, none⟩) need.length cap9) ?_
     refine wv (.int .i64 1) ?_
     replace B9 := B9.ext E19
     refine wclx (fun v_ w_ => ∃ cs' ys, v_ = .int .i64 (1 + (need.length : Int)) ∧ Blk w_ g9 2 cs' ∧ SlI cs' need.length cap9 .i64 ys ∧ (ys.length = need.length ∧ ∀ j, j < need.length → atI ys j = 1 + (j : Int)) ∧ Wr g9 w21 w_) (markInt64S_any need g9 cap9 cs11 S11 1 (by omega) (by omega) _ B9) (fun e_ w_ ⟨c_, y_, h_, r_⟩ => ⟨_, h_, c_, y_, rfl, r_⟩) ?_
     rintro v_ w22 ⟨cs13, ys3, rfl, B9_, S13, hm3, X3⟩
     clear B9; have B9 := B9_; clear B9_
     refine wv (.int .i64 (1 + (need.length : Int))) ?_
     refine wpList_nil (then_normal ?_)
     refine wp_seq ?_
     refine wsr ?_
     refine wv (.int .i64 (1 + (need.length : Int))) ?_
     refine wv (.bool (decide ((1 + (need.length : Int)) < 0))) ?_
     refine wv (.bool (decide ((1 + (need.length : Int)) < 0))) ?_
     have H11 := X3.ext w lo_g9 ((H10.trans E18).trans E19)
     refine split_bool (decide ((1 + (need.length : Int)) < 0)) (fun h5 => ?_) (fun h5 => ?_)
     · skip
       refine wbl 52 true h5 ?_
       have h5d := dT h5
       refine wsk ?_
       refine wsk ?_
       refine wsk ?_
       refine wsk ?_
       refine wv (.bool true) ?_
       refine wv (.bool true) ?_
       refine wsk ?_
       refine wsk ?_
       refine wsk ?_
       refine wv (.bool true) ?_
       refine wpList_nil (then_normal ?_)
       refine wct ?_
       refine wsr ?_
       refine wv (.bool false) ?_
       refine wpList_nil (then_normal ?_)
       refine wp_ret ?_
       refine then_ret ?_
       refine ret1 (.bool true) rfl ?_ rfl ?_
       · refine (resT (v := .bool false) (by kernel_rfl)).trans ?_
         refine congrArg Value.bool ?_
         exfalso; omega
       exact ⟨rfl, H11⟩
     · skip
       refine wbl 52 false h5 ?_
       have h5d := dF h5
       refine wv (.slice none 0 0) ?_
       refine wv (.slice (some ⟨g8, 0, none⟩) (([] : List Int).length) cap8) ?_
       replace B8 := X3.blk ((B8.ext E18).ext E19) q_g8_g9
       refine wcl (eqInt64S_nil g8 cap8 _) ?_
       intro w23 E20
       refine wv (.bool false) ?_
       refine wv (.bool false) ?_
       refine wv (.bool false) ?_
       refine wv (.int .i64 (shC need len [])) ?_
       refine wv (.int .i64 (shC need len [])) ?_
       refine wvv (.bool ((shC need len []) != (shC need len []))) (.bool false) (by simp) ?_
       refine wv (.bool false) ?_
       refine wpList_nil (then_normal ?_)
       refine wcf ?_
       refine wp_skip ?_
       refine then_normal ?_
       refine wsr ?_
       refine wv (.int .i64 1) ?_
       refine wpList_nil (then_normal ?_)
       refine wsr ?_
       refine wv (.slice none 0 0) ?_
       refine wv (.int .i64 1) ?_
       refine wcl (markInt64S_nil 1 _) ?_
       intro w24 E21
       refine wv (.int .i64 1) ?_
       refine wpList_nil (then_normal ?_)
       refine wsr ?_
       refine wv (.int .i64 1) ?_
       refine wpList_nil (then_normal ?_)
       refine wsr ?_
       refine wv (.slice none 0 0) ?_
       refine wv (.int .i64 1) ?_
       refine wcl (heldInt64S_nil 1 _) ?_
       intro w25 E22
       refine wv (.int .i64 1) ?_
       refine wpList_nil (then_normal ?_)
       refine wp_frame (a' := ⟨#[v, .int .i64 len, undef, undef, .bool false, .slice (some ⟨g8, 0, none⟩) (([] : List Int).length) cap8, .int .i64 (shC need len []), .slice (some ⟨g9, 0, none⟩) need.length cap9, .slice none 0 0, .int .i64 (shC need len []), .int .i64 (1 + (need.length : Int)), .int .i64 1, .int .i64 1, undef, undef, v, .int .i64 (need.length : Int), .bool (decide (1048576 < (need.length : Int))), .tuple #[.slice (some ⟨g8, 0, none⟩) (([] : List Int).length) cap8, .int .i64 (shC need len [])], v, .slice (some ⟨g1, 0, none⟩) need.length cap1, .int .i64 len, .tuple #[.slice (some ⟨g8, 0, none⟩) (([] : List Int).length) cap8, .int .i64 (shC need len [])], .slice (some ⟨g8, 0, none⟩) (([] : List Int).length) cap8, .int .i64 (shC need len []), v, .slice (some ⟨g9, 0, none⟩) need.length cap9, .tuple #[.slice none 0 0, .int .i64 (shC need len [])], .slice (some ⟨g9, 0, none⟩) need.length cap9, .int .i64 len, .tuple #[.slice none 0 0, .int .i64 (shC need len [])], .slice none 0 0, .int .i64 (shC need len []), .slice none 0 0, .slice (some ⟨g8, 0, none⟩) (([] : List Int).length) cap8, .bool true, .bool false, .bool false, .int .i64 (shC need len []), .int .i64 (shC need len []), .bool false, .bool false, .slice (some ⟨g9, 0, none⟩) need.length cap9, v, .slice (some ⟨g10, 0, none⟩) need.length cap10, .bool true, .bool false, .slice (some ⟨g9, 0, none⟩) need.length cap9, .int .i64 1, .int .i64 (1 + (need.length : Int)), .int .i64 (1 + (need.length : Int)), .bool (decide ((1 + (need.length : Int)) < 0)), .bool false, .slice none 0 0, .slice (some ⟨g8, 0, none⟩) (([] : List Int).length) cap8, .bool true, .bool false, .bool false, .bool false, .int .i64 (shC need len []), .int .i64 (shC need len []), .bool false, .bool false, .slice none 0 0, .int .i64 1, .int .i64 1, .slice none 0 0, .int .i64 1, .int .i64 1, undef, undef, undef, undef, undef, undef, undef, undef, undef, undef, undef, undef, undef, undef, undef, undef, undef, undef, undef, undef, undef, undef, undef, undef, undef, undef, undef, undef, undef], []⟩) (by kernel_rfl) ?_
       refine wp_seq ?_
       refine wsr ?_
       refine wv (.int .i64 1) ?_
       refine wv (.bool false) ?_
       refine wpList_nil (then_normal ?_)
       refine wcf ?_
       refine wp_skip ?_
       refine then_normal ?_
       refine wp_seq ?_
       refine wsr ?_
       refine wv (.int .i64 1) ?_
       refine wv (.int .i64 1) ?_
       refine wvv (.bool (1 != 1)) (.bool false) (by simp) ?_
       refine wpList_nil (then_normal ?_)
       refine wcf ?_
       refine wp_skip ?_
       refine then_normal ?_
       refine wsr ?_
       refine wv v ?_
       have H12 := ((H11.trans E20).trans E21).trans E22
       replace B1 := (((X3.blk ((B1.ext E18).ext E19) q_g1_g9).ext E20).ext E21).ext E22
       replace B8 := ((B8.ext E20).ext E21).ext E22
       replace B9 := ((B9.ext E20).ext E21).ext E22
       replace B10 := (((X3.blk (B10.ext E19) (Ne.symm q_g9_g10)).ext E20).ext E21).ext E22
       refine wcli (toInt64S_any need v (by omega) _ (SlIn.ext hin H12)) ?_
       intro g11 cap11 cs14 w26 B11 S14 E23 hg_
       have q_g1_g11 := Nat.ne_of_lt (Nat.lt_of_lt_of_le B1.lt hg_)
       have q_g8_g11 := Nat.ne_of_lt (Nat.lt_of_lt_of_le B8.lt hg_)
       have q_g9_g11 := Nat.ne_of_lt (Nat.lt_of_lt_of_le B9.lt hg_)
       have q_g10_g11 := Nat.ne_of_lt (Nat.lt_of_lt_of_le B10.lt hg_)
       have lo_g11 := Nat.le_trans (H12).size hg_
       refine wv (.int .i64 len) ?_
       refine wcl (iFewestShifts_f need need.length g11 cap11 cs14 S14 len (by omega) _ B11 (eF h2)) ?_
       intro w27 E24
       refine wv (.tuple #[.slice none 0 0, .int .i64 (shC need len [])]) ?_
       refine wv (.slice none 0 0) ?_
       refine wv (.int .i64 (shC need len [])) ?_
       refine wv (.slice none 0 0) ?_
       refine wv (.int .i64 (shC need len [])) ?_
       refine wpList_nil (then_normal ?_)
       refine wp_seq ?_
       refine wsr ?_
       refine wv (.slice none 0 0) ?_
       refine wv (.slice (some ⟨g8, 0, none⟩) (([] : List Int).length) cap8) ?_
       replace B8 := (B8.ext E23).ext E24
       refine wcl (eqInt64S_nil g8 cap8 _) ?_
       intro w28 E25
       refine wv (.bool false) ?_
       refine wv (.bool false) ?_
       refine wv (.int .i64 (shC need len [])) ?_
       refine wv (.int .i64 (shC need len [])) ?_
       refine wvv (.bool ((shC need len []) != (shC need len []))) (.bool false) (by simp) ?_
       refine wv (.bool false) ?_
       refine wpList_nil (then_normal ?_)
       refine wcf ?_
       refine wp_skip ?_
       refine then_normal ?_
       refine wsr ?_
       refine wv (.int .i64 1) ?_
       refine wpList_nil (then_normal ?_)
       refine wsr ?_
       refine wv (.slice none 0 0) ?_
       refine wv (.int .i64 1) ?_
       refine wcl (heldInt64S_nil 1 _) ?_
       intro w29 E26
       refine wv (.int .i64 1) ?_
       refine wpList_nil (then_normal ?_)
       refine wp_seq ?_
       refine wsr ?_
       refine wv (.int .i64 1) ?_
       refine wv (.bool false) ?_
       refine wpList_nil (then_normal ?_)
       refine wcf ?_
       refine wp_skip ?_
       refine then_normal ?_
       refine wp_seq ?_
       refine wsr ?_
       refine wv (.int .i64 1) ?_
       refine wv (.int .i64 1) ?_
       refine wvv (.bool (1 != 1)) (.bool false) (by simp) ?_
       refine wpList_nil (then_normal ?_)
       refine wp_frame (a' := ⟨#[v, .int .i64 len, undef, undef, .bool false, .slice (some ⟨g8, 0, none⟩) (([] : List Int).length) cap8, .int .i64 (shC need len []), .slice (some ⟨g9, 0, none⟩) need.length cap9, .slice none 0 0, .int .i64 (shC need len []), .int .i64 (1 + (need.length : Int)), .int .i64 1, .int .i64 1, .slice none 0 0, .int .i64 (shC need len []), v, .int .i64 (need.length : Int), .bool (decide (1048576 < (need.length : Int))), .tuple #[.slice (some ⟨g8, 0, none⟩) (([] : List Int).length) cap8, .int .i64 (shC need len [])], v, .slice (some ⟨g1, 0, none⟩) need.length cap1, .int .i64 len, .tuple #[.slice (some ⟨g8, 0, none⟩) (([] : List Int).length) cap8, .int .i64 (shC need len [])], .slice (some ⟨g8, 0, none⟩) (([] : List Int).length) cap8, .int .i64 (shC need len []), v, .slice (some ⟨g9, 0, none⟩) need.length cap9, .tuple #[.slice none 0 0, .int .i64 (shC need len [])], .slice (some ⟨g9, 0, none⟩) need.length cap9, .int .i64 len, .tuple #[.slice none 0 0, .int .i64 (shC need len [])], .slice none 0 0, .int .i64 (shC need len []), .slice none 0 0, .slice (some ⟨g8, 0, none⟩) (([] : List Int).length) cap8, .bool true, .bool false, .bool false, .int .i64 (shC need len []), .int .i64 (shC need len []), .bool false, .bool false, .slice (some ⟨g9, 0, none⟩) need.length cap9, v, .slice (some ⟨g10, 0, none⟩) need.length cap10, .bool true, .bool false, .slice (some ⟨g9, 0, none⟩) need.length cap9, .int .i64 1, .int .i64 (1 + (need.length : Int)), .int .i64 (1 + (need.length : Int)), .bool (decide ((1 + (need.length : Int)) < 0)), .bool false, .slice none 0 0, .slice (some ⟨g8, 0, none⟩) (([] : List Int).length) cap8, .bool true, .bool false, .bool false, .bool false, .int .i64 (shC need len []), .int .i64 (shC need len []), .bool false, .bool false, .slice none 0 0, .int .i64 1, .int .i64 1, .slice none 0 0, .int .i64 1, .int .i64 1, .int .i64 1, .bool false, .int .i64 1, .int .i64 1, .bool false, .tuple #[.slice none 0 0, .int .i64 (shC need len [])], v, .slice (some ⟨g11, 0, none⟩) need.length cap11, .int .i64 len, .tuple #[.slice none 0 0, .int .i64 (shC need len [])], .slice none 0 0, .int .i64 (shC need len []), .slice none 0 0, .slice (some ⟨g8, 0, none⟩) (([] : List Int).length) cap8, .bool true, .bool false, .bool false, .int .i64 (shC need len []), .int .i64 (shC need len []), .bool false, .bool false, .slice none 0 0, .int .i64 1, .int .i64 1, .int .i64 1, .bool false, .int .i64 1, .int .i64 1, .bool false], []⟩) (by kernel_rfl) ?_
       refine wcf ?_
       refine wp_skip ?_
       refine then_normal ?_
       refine wsr ?_
       refine wv (.bool true) ?_
       refine wpList_nil (then_normal ?_)
       refine wp_ret ?_
       have H13 := (((H12.trans E23).trans E24).trans E25).trans E26
       refine ret1 (.bool true) rfl ?_ rfl ?_
       · exact resT (by kernel_rfl)
       exact ⟨rfl, H13⟩
end
--# row FnExactFewestShifts
set_option maxRecDepth 100000 in
theorem fnExactFewestShifts_lifted (os : Os) (started : os.Started) (H : Type) (enc : TypeId × Value → H) :
    ReturnsInHanded {} Try.checked os 5 .any (Rows.fnExactFewestShiftsSpec.pre6 enc Try.prog Try.f5 Rows.fnExactFewestShiftsRow.domain false) (Rows.fnExactFewestShiftsSpec.post enc Try.prog Try.f5 false true false false) := by
  refine returnsInHanded_of_change (C := Try.checked) ownKnob_none started (by kernel_rfl) Try.func5
    (ChangeSpec.witness6 (enc := enc) (C := Try.checked) false ⟨#[], #[.slice none 0 0, .int .i64 0], []⟩ 8 (by kernel_rfl) (by kernel_rfl) (by kernel_rfl) (by kernel_rfl)) ?_
  intro W base args ds gs before hval0 hW hcnd _
  have hval : ∀ (j : Nat) t v, Try.f5.params[j]? = some t → args[j]? = some v → Value.okWide Try.prog W .any base t v := hval0
  have hW' := hW
  obtain ⟨p, q, hA0, hV, rfl, hfz, hnd⟩ := hW
  have hA : DataW.TrodAll enc Try.prog W 0 (fun _ => true) true Try.f5.params.toList args.toList ds p := hA0
  rw [Try.params5] at hA hval
  obtain ⟨v0, vs0, d0, ds0, p0, q0, hargs, rfl, rfl, h0, r0⟩ := trodAll_cons hA
  obtain ⟨v1, vs1, d1, ds1, p1, q1, rfl, rfl, rfl, h1, r1⟩ := trodAll_cons r0
  obtain ⟨rfl, rfl, rfl⟩ := trodAll_nil r1
  obtain rfl : args = #[v0, v1] := by cases args; simp_all
  obtain ⟨rfl, rfl⟩ := trodVars_none hV
  have k0 := h0
  have lt0 : ∀ x ∈ p0, x.block < W.heap.size := by obtain ⟨m, hm⟩ := k0; exact DataW.trod_lt m _ _ _ hm
  obtain ⟨need, hin0, hwl0⟩ := open_slin (k := .i64) Try.underlying22 Try.underlying2 (by kernel_rfl) (hval 0 22 v0 rfl rfl) h0
  have k1 := h1
  have lt1 : ∀ x ∈ p1, x.block < W.heap.size := by obtain ⟨m, hm⟩ := k1; exact DataW.trod_lt m _ _ _ hm
  obtain ⟨len, rfl, rfl, rfl, wlen⟩ := open_int Try.underlying2 (hval 1 2 v1 rfl rfl) h1
  have hblen := bounds_i64 wlen
  clear hA0 hval0
  refine (FnExactFewestShifts_walk need v0 len W hin0).mono fun e W' ⟨he, hx⟩ => ?_
  have bel := hx.below
  subst he
  exact ⟨_, rfl, _, _, _, [], _, [], hW', trodAll_mk1 (shut_bool Try.underlying4 _), (trodAll_cons_mk (Below.trod laidOut_ (by kernel_rfl) (of_decide_eq_true (by kernel_rfl)) k0 bel lt0) (trodAll_cons_mk (Below.trod laidOut_ (by kernel_rfl) (of_decide_eq_true (by kernel_rfl)) k1 bel lt1) trodAll_mk0)), rfl, bel.frame _, fun h => by cases h⟩
theorem fnExactFewestShifts_holds : Rows.FnExactFewestShiftsSaid :=
  OpenClaim.holds_of_wide 5 Try.f5 rfl rfl rfl rfl rfl rfl rfl ⟨rfl, rfl, rfl, rfl, rfl⟩ rfl rfl rfl rfl rfl (by kernel_rfl) Try.func5 (by kernel_rfl)
    (of_decide_eq_true (by kernel_rfl)) (by unfold Func.isWrapper; first | (rw [if_pos (by decide +kernel)]; kernel_rfl) | (rw [if_neg (by decide +kernel)]; exact ⟨rfl, rfl⟩))
    (fun os started H enc _ => fnExactFewestShifts_lifted os started H enc)
end Go.Proofs.Ytbjcloilcpoafaa
