/-
  For all arguments, the law FnExactNeighboursOf returns true; its arguments read as they did. No conditions.
-/
import Derived.Test.YthiiampknelbjaaRows
import Derived.Test.YthiiampknelbjaaFn7
import Derived.Test.YthiiampknelbjaaRowk
import Derived.WalkKit
import Derived.ProofKit
import Derived.OpenShut
import Derived.ShutString
import Derived.ChangeOld
import Derived.Below
import Derived.SizedLaws
namespace Go.Proofs.Ythiiampknelbjaa
open Go.ChangeShapes Go.WideShapes Go.ChangeAt Go.RowKit
open Go.ChangeMaps (open_string shut_string)
set_option linter.unusedVariables false
theorem ownKnob_none : ownKnob Try.prog.godebug = none := by kernel_rfl
theorem laidOut_ : laidOutB Try.prog = true := by kernel_rfl
section
set_option maxHeartbeats 4000000
set_option maxRecDepth 100000
attribute [local irreducible] wpList Code.wp
--# walk FnExactNeighboursOf
theorem FnExactNeighboursOf_walk (F : Fld) (hF : F.wf) (c : Int) (w : World) :
 Calls Try.prog 7 #[.agg F.cells, .int .i64 c] w fun e w' => e = .returned (.bool true) ∧ Ext w w' := by
 refine calls_of_wp Try.func7 rfl ?_
 refine wp_frame (a' := ⟨#[.agg F.cells, .int .i64 c, undef, undef, undef, undef, undef, undef, undef, undef, undef, undef, undef, undef, undef, undef, undef, undef, undef, undef, undef, undef, undef, undef, undef, undef, undef, undef, undef, undef, undef, undef, undef, undef, undef, undef, undef, undef, undef, undef, undef, undef, undef, undef, undef, undef, undef, undef, undef, undef, undef, undef, undef, undef, undef, undef, undef, undef, undef, undef, undef, undef, undef, undef, undef, undef, undef, undef, undef, undef, undef], []⟩) (by kernel_rfl) ?_
 refine wsr ?_
 refine wbox F.cells ?_
 intro g1 w1 B1 E1 hg_
 have lo_g1 := Nat.le_trans ((Ext.refl w)).size hg_
 refine wv (.bool false) ?_
 refine wpList_nil (then_normal ?_)
 refine wsr ?_
 refine wrow row_laws_Field B1 (by exact Fld.size_cells _) ?_
 refine wcl (toField_any F hF _) ?_
 intro w2 E2
 refine wv (.int .i64 c) ?_
 have H1 := ((Ext.refl w).trans E1).trans E2
 refine split_bool (code F (isB F c) == 0) (fun h1 => ?_) (fun h1 => ?_)
 · skip
   have h1d := eT h1
   have h1o := (code_zero h1d).1
   have h1z := (code_zero h1d).2
   have h1zd := isB_true.1 h1z
   replace B1 := B1.ext E2
   refine wcli (sNeighboursOf_t F hF c _ (eT h1)) ?_
   intro g2 cap1 cs1 w3 B2 S1 E3 hg_
   have q_g1_g2 := Nat.ne_of_lt (Nat.lt_of_lt_of_le B1.lt hg_)
   have lo_g2 := Nat.le_trans (H1).size hg_
   have nl1 := nbL_length F c
   refine wv (.tuple #[.slice (some ⟨g2, 0, none⟩) ((nbL F c).length) cap1, .int .i64 0]) ?_
   refine wv (.slice (some ⟨g2, 0, none⟩) ((nbL F c).length) cap1) ?_
   refine wv (.int .i64 0) ?_
   refine wv (.slice (some ⟨g2, 0, none⟩) ((nbL F c).length) cap1) ?_
   refine wv (.int .i64 0) ?_
   refine wpList_nil (then_normal ?_)
   refine wsr ?_
   replace B1 := B1.ext E3
   refine wrow row_laws_Field B1 (by exact Fld.size_cells _) ?_
   refine wcl (toField_any F hF _) ?_
   intro w4 E4
   refine wv (.int .i64 c) ?_
   replace B1 := B1.ext E4
   replace B2 := B2.ext E4
   have H2 := (H1.trans E3).trans E4
   refine wcli (iNeighboursOf_t F hF c _ (eT h1)) ?_
   intro g3 cap2 cs2 w5 B3 S2 E5 hg_
   have q_g1_g3 := Nat.ne_of_lt (Nat.lt_of_lt_of_le B1.lt hg_)
   have q_g2_g3 := Nat.ne_of_lt (Nat.lt_of_lt_of_le B2.lt hg_)
   have lo_g3 := Nat.le_trans (H2).size hg_
   have nl2 := nbL_length F c
   refine wv (.tuple #[.slice (some ⟨g3, 0, none⟩) ((nbL F c).length) cap2, .int .i64 0]) ?_
   refine wv (.slice (some ⟨g3, 0, none⟩) ((nbL F c).length) cap2) ?_
   refine wv (.int .i64 0) ?_
   refine wv (.slice (some ⟨g3, 0, none⟩) ((nbL F c).length) cap2) ?_
   refine wv (.int .i64 0) ?_
   refine wpList_nil (then_normal ?_)
   refine wp_seq ?_
   refine wsr ?_
   refine wv (.slice (some ⟨g3, 0, none⟩) ((nbL F c).length) cap2) ?_
   refine wv (.slice (some ⟨g2, 0, none⟩) ((nbL F c).length) cap1) ?_
   replace B2 := B2.ext E5
   refine wcl (eqInt64S_same (nbL F c) g3 cap2 cs2 S2 g2 cap1 cs1 S1 (by omega) _ B3 B2) ?_
   intro w6 E6
   refine wv (.bool false) ?_
   refine wv (.bool false) ?_
   refine wv (.int .i64 0) ?_
   refine wv (.int .i64 0) ?_
   refine wvv (.bool (0 != 0)) (.bool false) (by simp) ?_
   refine wv (.bool false) ?_
   refine wpList_nil (then_normal ?_)
   refine wcf ?_
   refine wp_skip ?_
   refine then_normal ?_
   refine wsr ?_
   refine wv (.int .i64 1) ?_
   refine wpList_nil (then_normal ?_)
   refine wsr ?_
   refine wv (.slice (some ⟨g3, 0, none⟩) ((nbL F c).length) cap2) ?_
   refine wv (.int .i64 1) ?_
   replace B3 := B3.ext E6
   refine wclx (fun v_ w_ => ∃ cs' ys, v_ = .int .i64 (1 + ((nbL F c).length : Int)) ∧ Blk w_ g3 2 cs' ∧ SlI cs' (nbL F c).length cap2 .i64 ys ∧ (ys.length = (nbL F c).length ∧ ∀ j, j < (nbL F c).length → atI ys j = 1 + (j : Int)) ∧ Wr g3 w6 w_) (markInt64S_any (nbL F c) g3 cap2 cs2 S2 1 (by omega) (by omega) _ B3) (fun e_ w_ ⟨c_, y_, h_, r_⟩ => ⟨_, h_, c_, y_, rfl, r_⟩) ?_
   rintro v_ w7 ⟨cs3, ys1, rfl, B3_, S3, hm1, X1⟩
   clear B3; have B3 := B3_; clear B3_
   refine wv (.int .i64 (1 + ((nbL F c).length : Int))) ?_
   refine wpList_nil (then_normal ?_)
   refine wp_frame (a' := ⟨#[.agg F.cells, .int .i64 c, .pointer (some ⟨g1, 0, none⟩), undef, .bool false, .slice (some ⟨g2, 0, none⟩) ((nbL F c).length) cap1, .int .i64 0, .slice (some ⟨g3, 0, none⟩) ((nbL F c).length) cap2, .int .i64 0, .int .i64 (1 + ((nbL F c).length : Int)), undef, undef, undef, .tuple #[.slice (some ⟨g2, 0, none⟩) ((nbL F c).length) cap1, .int .i64 0], .agg F.cells, .agg F.cells, .int .i64 c, .tuple #[.slice (some ⟨g2, 0, none⟩) ((nbL F c).length) cap1, .int .i64 0], .slice (some ⟨g2, 0, none⟩) ((nbL F c).length) cap1, .int .i64 0, .tuple #[.slice (some ⟨g3, 0, none⟩) ((nbL F c).length) cap2, .int .i64 0], .agg F.cells, .agg F.cells, .int .i64 c, .tuple #[.slice (some ⟨g3, 0, none⟩) ((nbL F c).length) cap2, .int .i64 0], .slice (some ⟨g3, 0, none⟩) ((nbL F c).length) cap2, .int .i64 0, .slice (some ⟨g3, 0, none⟩) ((nbL F c).length) cap2, .slice (some ⟨g2, 0, none⟩) ((nbL F c).length) cap1, .bool true, .bool false, .bool false, .int .i64 0, .int .i64 0, .bool false, .bool false, .slice (some ⟨g3, 0, none⟩) ((nbL F c).length) cap2, .int .i64 1, .int .i64 (1 + ((nbL F c).length : Int)), undef, undef, undef, undef, undef, undef, undef, undef, undef, undef, undef, undef, undef, undef, undef, undef, undef, undef, undef, undef, undef, undef, undef, undef, undef, undef, undef, undef, undef, undef, undef, undef], []⟩) (by kernel_rfl) ?_
   refine wsr ?_
   refine wv (.int .i64 1) ?_
   refine wpList_nil (then_normal ?_)
   refine wsr ?_
   refine wv (.slice (some ⟨g3, 0, none⟩) ((nbL F c).length) cap2) ?_
   refine wv (.int .i64 1) ?_
   refine wcl (heldInt64S_any ys1 ((nbL F c).length) g3 cap2 cs3 S3 1 (by omega) (by omega) hm1.2 _ B3) ?_
   intro w8 E7
   refine wv (.int .i64 (1 + ((nbL F c).length : Int))) ?_
   refine wpList_nil (then_normal ?_)
   refine wp_seq ?_
   refine wsr ?_
   refine wv (.int .i64 (1 + ((nbL F c).length : Int))) ?_
   refine wv (.bool (decide ((1 + ((nbL F c).length : Int)) < 0))) ?_
   refine wpList_nil (then_normal ?_)
   have H3 := (X1.ext w lo_g3 ((H2.trans E5).trans E6)).trans E7
   refine wsplit (decide ((1 + ((nbL F c).length : Int)) < 0)) (fun h2 => ?_) (fun h2 => ?_)
   · skip
     have h2d := dT h2
     refine wsr ?_
     refine wv (.bool false) ?_
     refine wpList_nil (then_normal ?_)
     refine wp_ret ?_
     refine then_ret ?_
     refine ret1 (.bool true) rfl ?_ rfl ?_
     · refine (resT (v := .bool false) (by kernel_rfl)).trans ?_
       refine congrArg Value.bool ?_
       exfalso; omega
     exact ⟨rfl, H3⟩
   · skip
     have h2d := dF h2
     refine wp_skip ?_
     refine then_normal ?_
     refine wp_seq ?_
     refine wsr ?_
     refine wv (.int .i64 (1 + ((nbL F c).length : Int))) ?_
     refine wv (.int .i64 (1 + ((nbL F c).length : Int))) ?_
     refine wvv (.bool ((1 + ((nbL F c).length : Int)) != (1 + ((nbL F c).length : Int)))) (.bool false) (by simp) ?_
     refine wpList_nil (then_normal ?_)
     refine wcf ?_
     refine wp_skip ?_
     refine then_normal ?_
     refine wsr ?_
     replace B1 := (X1.blk ((B1.ext E5).ext E6) q_g1_g3).ext E7
     refine wrow row_laws_Field B1 (by exact Fld.size_cells _) ?_
     refine wcl (toField_any F hF _) ?_
     intro w9 E8
     refine wv (.int .i64 c) ?_
     replace B1 := B1.ext E8
     replace B2 := ((X1.blk (B2.ext E6) q_g2_g3).ext E7).ext E8
     replace B3 := (B3.ext E7).ext E8
     have H4 := H3.trans E8
     refine wcli (iNeighboursOf_t F hF c _ (eT h1)) ?_
     intro g4 cap3 cs4 w10 B4 S4 E9 hg_
     have q_g1_g4 := Nat.ne_of_lt (Nat.lt_of_lt_of_le B1.lt hg_)
     have q_g2_g4 := Nat.ne_of_lt (Nat.lt_of_lt_of_le B2.lt hg_)
     have q_g3_g4 := Nat.ne_of_lt (Nat.lt_of_lt_of_le B3.lt hg_)
     have lo_g4 := Nat.le_trans (H4).size hg_
     have nl3 := nbL_length F c
     refine wv (.tuple #[.slice (some ⟨g4, 0, none⟩) ((nbL F c).length) cap3, .int .i64 0]) ?_
     refine wv (.slice (some ⟨g4, 0, none⟩) ((nbL F c).length) cap3) ?_
     refine wv (.int .i64 0) ?_
     refine wv (.slice (some ⟨g4, 0, none⟩) ((nbL F c).length) cap3) ?_
     refine wv (.int .i64 0) ?_
     refine wpList_nil (then_normal ?_)
     refine wp_seq ?_
     refine wsr ?_
     refine wv (.slice (some ⟨g4, 0, none⟩) ((nbL F c).length) cap3) ?_
     refine wv (.slice (some ⟨g2, 0, none⟩) ((nbL F c).length) cap1) ?_
     replace B2 := B2.ext E9
     refine wcl (eqInt64S_same (nbL F c) g4 cap3 cs4 S4 g2 cap1 cs1 S1 (by omega) _ B4 B2) ?_
     intro w11 E10
     refine wv (.bool false) ?_
     refine wv (.bool false) ?_
     refine wv (.int .i64 0) ?_
     refine wv (.int .i64 0) ?_
     refine wvv (.bool (0 != 0)) (.bool false) (by simp) ?_
     refine wv (.bool false) ?_
     refine wpList_nil (then_normal ?_)
     refine wcf ?_
     refine wp_skip ?_
     refine then_normal ?_
     refine wsr ?_
     refine wv (.int .i64 1) ?_
     refine wpList_nil (then_normal ?_)
     refine wsr ?_
     refine wv (.slice (some ⟨g3, 0, none⟩) ((nbL F c).length) cap2) ?_
     refine wv (.int .i64 1) ?_
     replace B3 := (B3.ext E9).ext E10
     refine wcl (heldInt64S_any ys1 ((nbL F c).length) g3 cap2 cs3 S3 1 (by omega) (by omega) hm1.2 _ B3) ?_
     intro w12 E11
     refine wv (.int .i64 (1 + ((nbL F c).length : Int))) ?_
     refine wpList_nil (then_normal ?_)
     refine wp_frame (a' := ⟨#[.agg F.cells, .int .i64 c, .pointer (some ⟨g1, 0, none⟩), undef, .bool false, .slice (some ⟨g2, 0, none⟩) ((nbL F c).length) cap1, .int .i64 0, .slice (some ⟨g3, 0, none⟩) ((nbL F c).length) cap2, .int .i64 0, .int .i64 (1 + ((nbL F c).length : Int)), .int .i64 (1 + ((nbL F c).length : Int)), .slice (some ⟨g4, 0, none⟩) ((nbL F c).length) cap3, .int .i64 0, .tuple #[.slice (some ⟨g2, 0, none⟩) ((nbL F c).length) cap1, .int .i64 0], .agg F.cells, .agg F.cells, .int .i64 c, .tuple #[.slice (some ⟨g2, 0, none⟩) ((nbL F c).length) cap1, .int .i64 0], .slice (some ⟨g2, 0, none⟩) ((nbL F c).length) cap1, .int .i64 0, .tuple #[.slice (some ⟨g3, 0, none⟩) ((nbL F c).length) cap2, .int .i64 0], .agg F.cells, .agg F.cells, .int .i64 c, .tuple #[.slice (some ⟨g3, 0, none⟩) ((nbL F c).length) cap2, .int .i64 0], .slice (some ⟨g3, 0, none⟩) ((nbL F c).length) cap2, .int .i64 0, .slice (some ⟨g3, 0, none⟩) ((nbL F c).length) cap2, .slice (some ⟨g2, 0, none⟩) ((nbL F c).length) cap1, .bool true, .bool false, .bool false, .int .i64 0, .int .i64 0, .bool false, .bool false, .slice (some ⟨g3, 0, none⟩) ((nbL F c).length) cap2, .int .i64 1, .int .i64 (1 + ((nbL F c).length : Int)), .slice (some ⟨g3, 0, none⟩) ((nbL F c).length) cap2, .int .i64 1, .int .i64 (1 + ((nbL F c).length : Int)), .int .i64 (1 + ((nbL F c).length : Int)), .bool (decide ((1 + ((nbL F c).length : Int)) < 0)), .int .i64 (1 + ((nbL F c).length : Int)), .int .i64 (1 + ((nbL F c).length : Int)), .bool false, .tuple #[.slice (some ⟨g4, 0, none⟩) ((nbL F c).length) cap3, .int .i64 0], .agg F.cells, .agg F.cells, .int .i64 c, .tuple #[.slice (some ⟨g4, 0, none⟩) ((nbL F c).length) cap3, .int .i64 0], .slice (some ⟨g4, 0, none⟩) ((nbL F c).length) cap3, .int .i64 0, .slice (some ⟨g4, 0, none⟩) ((nbL F c).length) cap3, .slice (some ⟨g2, 0, none⟩) ((nbL F c).length) cap1, .bool true, .bool false, .bool false, .int .i64 0, .int .i64 0, .bool false, .bool false, .slice (some ⟨g3, 0, none⟩) ((nbL F c).length) cap2, .int .i64 1, .int .i64 (1 + ((nbL F c).length : Int)), undef, undef, undef, undef, undef], []⟩) (by kernel_rfl) ?_
     refine wp_seq ?_
     refine wsr ?_
     refine wv (.int .i64 (1 + ((nbL F c).length : Int))) ?_
     refine wv (.bool (decide ((1 + ((nbL F c).length : Int)) < 0))) ?_
     refine wbl 67 false h2 ?_
     refine wpList_nil (then_normal ?_)
     refine wcf ?_
     refine wp_skip ?_
     refine then_normal ?_
     refine wp_seq ?_
     refine wsr ?_
     refine wv (.int .i64 (1 + ((nbL F c).length : Int))) ?_
     refine wv (.int .i64 (1 + ((nbL F c).length : Int))) ?_
     refine wvv (.bool ((1 + ((nbL F c).length : Int)) != (1 + ((nbL F c).length : Int)))) (.bool false) (by simp) ?_
     refine wpList_nil (then_normal ?_)
     refine wcf ?_
     refine wp_skip ?_
     refine then_normal ?_
     refine wsr ?_
     refine wv (.bool true) ?_
     refine wpList_nil (then_normal ?_)
     refine wp_ret ?_
     have H5 := ((H4.trans E9).trans E10).trans E11
     refine ret1 (.bool true) rfl ?_ rfl ?_
     · exact resT (by kernel_rfl)
     exact ⟨rfl, H5⟩
 · skip
   have h1d := eF h1
   replace B1 := B1.ext E2
   refine wcli (sNeighboursOf_f F hF c _ (eF h1)) ?_
   intro g5 cap4 cs5 w13 B5 S5 E12 hg_
   have q_g1_g5 := Nat.ne_of_lt (Nat.lt_of_lt_of_le B1.lt hg_)
   have lo_g5 := Nat.le_trans (H1).size hg_
   refine wv (.tuple #[.slice (some ⟨g5, 0, none⟩) (([] : List Int).length) cap4, .int .i64 (code F (isB F c))]) ?_
   refine wv (.slice (some ⟨g5, 0, none⟩) (([] : List Int).length) cap4) ?_
   refine wv (.int .i64 (code F (isB F c))) ?_
   refine wv (.slice (some ⟨g5, 0, none⟩) (([] : List Int).length) cap4) ?_
   refine wv (.int .i64 (code F (isB F c))) ?_
   refine wpList_nil (then_normal ?_)
   refine wsr ?_
   replace B1 := B1.ext E12
   refine wrow row_laws_Field B1 (by exact Fld.size_cells _) ?_
   refine wcl (toField_any F hF _) ?_
   intro w14 E13
   refine wv (.int .i64 c) ?_
   refine wcl (iNeighboursOf_f F hF c _ (eF h1)) ?_
   intro w15 E14
   refine wv (.tuple #[.slice none 0 0, .int .i64 (code F (isB F c))]) ?_
   refine wv (.slice none 0 0) ?_
   refine wv (.int .i64 (code F (isB F c))) ?_
   refine wv (.slice none 0 0) ?_
   refine wv (.int .i64 (code F (isB F c))) ?_
   refine wpList_nil (then_normal ?_)
   refine wp_seq ?_
   refine wsr ?_
   refine wv (.slice none 0 0) ?_
   refine wv (.slice (some ⟨g5, 0, none⟩) (([] : List Int).length) cap4) ?_
   replace B5 := (B5.ext E13).ext E14
   refine wcl (eqInt64S_nil g5 cap4 _) ?_
   intro w16 E15
   refine wv (.bool false) ?_
   refine wv (.bool false) ?_
   refine wv (.int .i64 (code F (isB F c))) ?_
   refine wv (.int .i64 (code F (isB F c))) ?_
   refine wvv (.bool ((code F (isB F c)) != (code F (isB F c)))) (.bool false) (by simp) ?_
   refine wv (.bool false) ?_
   refine wpList_nil (then_normal ?_)
   refine wcf ?_
   refine wp_skip ?_
   refine then_normal ?_
   refine wsr ?_
   refine wv (.int .i64 1) ?_
   refine wpList_nil (then_normal ?_)
   refine wsr ?_
   refine wv (.slice none 0 0) ?_
   refine wv (.int .i64 1) ?_
   refine wcl (markInt64S_nil 1 _) ?_
   intro w17 E16
   refine wv (.int .i64 1) ?_
   refine wpList_nil (then_normal ?_)
   refine wp_frame (a' := ⟨#[.agg F.cells, .int .i64 c, .pointer (some ⟨g1, 0, none⟩), undef, .bool false, .slice (some ⟨g5, 0, none⟩) (([] : List Int).length) cap4, .int .i64 (code F (isB F c)), .slice none 0 0, .int .i64 (code F (isB F c)), .int .i64 1, undef, undef, undef, .tuple #[.slice (some ⟨g5, 0, none⟩) (([] : List Int).length) cap4, .int .i64 (code F (isB F c))], .agg F.cells, .agg F.cells, .int .i64 c, .tuple #[.slice (some ⟨g5, 0, none⟩) (([] : List Int).length) cap4, .int .i64 (code F (isB F c))], .slice (some ⟨g5, 0, none⟩) (([] : List Int).length) cap4, .int .i64 (code F (isB F c)), .tuple #[.slice none 0 0, .int .i64 (code F (isB F c))], .agg F.cells, .agg F.cells, .int .i64 c, .tuple #[.slice none 0 0, .int .i64 (code F (isB F c))], .slice none 0 0, .int .i64 (code F (isB F c)), .slice none 0 0, .slice (some ⟨g5, 0, none⟩) (([] : List Int).length) cap4, .bool true, .bool false, .bool false, .int .i64 (code F (isB F c)), .int .i64 (code F (isB F c)), .bool false, .bool false, .slice none 0 0, .int .i64 1, .int .i64 1, undef, undef, undef, undef, undef, undef, undef, undef, undef, undef, undef, undef, undef, undef, undef, undef, undef, undef, undef, undef, undef, undef, undef, undef, undef, undef, undef, undef, undef, undef, undef, undef], []⟩) (by kernel_rfl) ?_
   refine wsr ?_
   refine wv (.int .i64 1) ?_
   refine wpList_nil (then_normal ?_)
   refine wsr ?_
   refine wv (.slice none 0 0) ?_
   refine wv (.int .i64 1) ?_
   refine wcl (heldInt64S_nil 1 _) ?_
   intro w18 E17
   refine wv (.int .i64 1) ?_
   refine wpList_nil (then_normal ?_)
   refine wp_seq ?_
   refine wsr ?_
   refine wv (.int .i64 1) ?_
   refine wv (.bool false) ?_
   refine wpList_nil (then_normal ?_)
   refine wcf ?_
   refine wp_skip ?_
   refine then_normal ?_
   refine wp_seq ?_
   refine wsr ?_
   refine wv (.int .i64 1) ?_
   refine wv (.int .i64 1) ?_
   refine wvv (.bool (1 != 1)) (.bool false) (by simp) ?_
   refine wpList_nil (then_normal ?_)
   refine wcf ?_
   refine wp_skip ?_
   refine then_normal ?_
   refine wsr ?_
   replace B1 := ((((B1.ext E13).ext E14).ext E15).ext E16).ext E17
   refine wrow row_laws_Field B1 (by exact Fld.size_cells _) ?_
   refine wcl (toField_any F hF _) ?_
   intro w19 E18
   refine wv (.int .i64 c) ?_
   refine wcl (iNeighboursOf_f F hF c _ (eF h1)) ?_
   intro w20 E19
   refine wv (.tuple #[.slice none 0 0, .int .i64 (code F (isB F c))]) ?_
   refine wv (.slice none 0 0) ?_
   refine wv (.int .i64 (code F (isB F c))) ?_
   refine wv (.slice none 0 0) ?_
   refine wv (.int .i64 (code F (isB F c))) ?_
   refine wpList_nil (then_normal ?_)
   refine wp_seq ?_
   refine wsr ?_
   refine wv (.slice none 0 0) ?_
   refine wv (.slice (some ⟨g5, 0, none⟩) (([] : List Int).length) cap4) ?_
   replace B5 := ((((B5.ext E15).ext E16).ext E17).ext E18).ext E19
   refine wcl (eqInt64S_nil g5 cap4 _) ?_
   intro w21 E20
   refine wv (.bool false) ?_
   refine wv (.bool false) ?_
   refine wv (.int .i64 (code F (isB F c))) ?_
   refine wv (.int .i64 (code F (isB F c))) ?_
   refine wvv (.bool ((code F (isB F c)) != (code F (isB F c)))) (.bool false) (by simp) ?_
   refine wv (.bool false) ?_
   refine wpList_nil (then_normal ?_)
   refine wcf ?_
   refine wp_skip ?_
   refine then_normal ?_
   refine wsr ?_
   refine wv (.int .i64 1) ?_
   refine wpList_nil (then_normal ?_)
   refine wsr ?_
   refine wv (.slice none 0 0) ?_
   refine wv (.int .i64 1) ?_
   refine wcl (heldInt64S_nil 1 _) ?_
   intro w22 E21
   refine wv (.int .i64 1) ?_
   refine wpList_nil (then_normal ?_)
   refine wp_frame (a' := ⟨#[.agg F.cells, .int .i64 c, .pointer (some ⟨g1, 0, none⟩), undef, .bool false, .slice (some ⟨g5, 0, none⟩) (([] : List Int).length) cap4, .int .i64 (code F (isB F c)), .slice none 0 0, .int .i64 (code F (isB F c)), .int .i64 1, .int .i64 1, .slice none 0 0, .int .i64 (code F (isB F c)), .tuple #[.slice (some ⟨g5, 0, none⟩) (([] : List Int).length) cap4, .int .i64 (code F (isB F c))], .agg F.cells, .agg F.cells, .int .i64 c, .tuple #[.slice (some ⟨g5, 0, none⟩) (([] : List Int).length) cap4, .int .i64 (code F (isB F c))], .slice (some ⟨g5, 0, none⟩) (([] : List Int).length) cap4, .int .i64 (code F (isB F c)), .tuple #[.slice none 0 0, .int .i64 (code F (isB F c))], .agg F.cells, .agg F.cells, .int .i64 c, .tuple #[.slice none 0 0, .int .i64 (code F (isB F c))], .slice none 0 0, .int .i64 (code F (isB F c)), .slice none 0 0, .slice (some ⟨g5, 0, none⟩) (([] : List Int).length) cap4, .bool true, .bool false, .bool false, .int .i64 (code F (isB F c)), .int .i64 (code F (isB F c)), .bool false, .bool false, .slice none 0 0, .int .i64 1, .int .i64 1, .slice none 0 0, .int .i64 1, .int .i64 1, .int .i64 1, .bool false, .int .i64 1, .int .i64 1, .bool false, .tuple #[.slice none 0 0, .int .i64 (code F (isB F c))], .agg F.cells, .agg F.cells, .int .i64 c, .tuple #[.slice none 0 0, .int .i64 (code F (isB F c))], .slice none 0 0, .int .i64 (code F (isB F c)), .slice none 0 0, .slice (some ⟨g5, 0, none⟩) (([] : List Int).length) cap4, .bool true, .bool false, .bool false, .int .i64 (code F (isB F c)), .int .i64 (code F (isB F c)), .bool false, .bool false, .slice none 0 0, .int .i64 1, .int .i64 1, undef, undef, undef, undef, undef], []⟩) (by kernel_rfl) ?_
   refine wp_seq ?_
   refine wsr ?_
   refine wv (.int .i64 1) ?_
   refine wv (.bool false) ?_
   refine wpList_nil (then_normal ?_)
   refine wcf ?_
   refine wp_skip ?_
   refine then_normal ?_
   refine wp_seq ?_
   refine wsr ?_
   refine wv (.int .i64 1) ?_
   refine wv (.int .i64 1) ?_
   refine wvv (.bool (1 != 1)) (.bool false) (by simp) ?_
   refine wpList_nil (then_normal ?_)
   refine wcf ?_
   refine wp_skip ?_
   refine then_normal ?_
   refine wsr ?_
   refine wv (.bool true) ?_
   refine wpList_nil (then_normal ?_)
   refine wp_ret ?_
   have H6 := (((((((((H1.trans E12).trans E13).trans E14).trans E15).trans E16).trans E17).trans E18).trans E19).trans E20).trans E21
   refine ret1 (.bool true) rfl ?_ rfl ?_
   · exact resT (by kernel_rfl)
   exact ⟨rfl, H6⟩
end
--# row FnExactNeighboursOf
set_option maxRecDepth 100000 in
theorem fnExactNeighboursOf_lifted (os : Os) (started : os.Started) (H : Type) (enc : TypeId × Value → H) :
    ReturnsInHanded {} Try.checked os 7 .any (Rows.fnExactNeighboursOfSpec.pre6 enc Try.prog Try.f7 Rows.fnExactNeighboursOfRow.domain false) (Rows.fnExactNeighboursOfSpec.post enc Try.prog Try.f7 false true false false) := by
  refine returnsInHanded_of_change (C := Try.checked) ownKnob_none started (by kernel_rfl) Try.func7
    (ChangeSpec.witness6 (enc := enc) (C := Try.checked) false ⟨#[], #[.agg Try.zeroCells27, .int .i64 0], []⟩ 8 (by kernel_rfl) (by kernel_rfl) (by kernel_rfl) (by kernel_rfl)) ?_
  intro W base args ds gs before hval0 hW hcnd _
  have hval : ∀ (j : Nat) t v, Try.f7.params[j]? = some t → args[j]? = some v → Value.okWide Try.prog W .any base t v := hval0
  have hW' := hW
  obtain ⟨p, q, hA0, hV, rfl, hfz, hnd⟩ := hW
  have hA : DataW.TrodAll enc Try.prog W 0 (fun _ => true) true Try.f7.params.toList args.toList ds p := hA0
  rw [Try.params7] at hA hval
  obtain ⟨v0, vs0, d0, ds0, p0, q0, hargs, rfl, rfl, h0, r0⟩ := trodAll_cons hA
  obtain ⟨v1, vs1, d1, ds1, p1, q1, rfl, rfl, rfl, h1, r1⟩ := trodAll_cons r0
  obtain ⟨rfl, rfl, rfl⟩ := trodAll_nil r1
  obtain rfl : args = #[v0, v1] := by cases args; simp_all
  obtain ⟨rfl, rfl⟩ := trodVars_none hV
  have k0 := h0
  have lt0 : ∀ x ∈ p0, x.block < W.heap.size := by obtain ⟨m, hm⟩ := k0; exact DataW.trod_lt m _ _ _ hm
  obtain ⟨F, rfl, hF⟩ := open_field Try.underlying27 (by kernel_rfl) (by kernel_rfl) Try.underlying22 Try.underlying5 Try.underlying24 (hval 0 27 v0 rfl rfl)
  have k1 := h1
  have lt1 : ∀ x ∈ p1, x.block < W.heap.size := by obtain ⟨m, hm⟩ := k1; exact DataW.trod_lt m _ _ _ hm
  obtain ⟨c, rfl, rfl, rfl, wc⟩ := open_int Try.underlying2 (hval 1 2 v1 rfl rfl) h1
  have hbc := bounds_i64 wc
  clear hA0 hval0
  refine (FnExactNeighboursOf_walk F hF c W).mono fun e W' ⟨he, hx⟩ => ?_
  have bel := hx.below
  subst he
  exact ⟨_, rfl, _, _, _, [], _, [], hW', trodAll_mk1 (shut_bool Try.underlying4 _), (trodAll_cons_mk (Below.trod laidOut_ (by kernel_rfl) (of_decide_eq_true (by kernel_rfl)) k0 bel lt0) (trodAll_cons_mk (Below.trod laidOut_ (by kernel_rfl) (of_decide_eq_true (by kernel_rfl)) k1 bel lt1) trodAll_mk0)), rfl, bel.frame _, fun h => by cases h⟩
theorem fnExactNeighboursOf_holds : Rows.FnExactNeighboursOfSaid :=
  OpenClaim.holds_of_wide 7 Try.f7 rfl rfl rfl rfl rfl rfl rfl ⟨rfl, rfl, rfl, rfl, rfl⟩ rfl rfl rfl rfl rfl (by kernel_rfl) Try.func7 (by kernel_rfl)
    (of_decide_eq_true (by kernel_rfl)) (by unfold Func.isWrapper; first | (rw [if_pos (by decide +kernel)]; kernel_rfl) | (rw [if_neg (by decide +kernel)]; exact ⟨rfl, rfl⟩))
    (fun os started H enc _ => fnExactNeighboursOf_lifted os started H enc)
end Go.Proofs.Ythiiampknelbjaa
