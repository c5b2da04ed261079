/-
  For all arguments, the law FnFields returns true; its arguments read as they did. No conditions. The tied card: the listed variables hold what the program lays.
-/
import Derived.Test.YteiplklloajjaaaGreatDoorRows
import Derived.Test.YteiplklloajjaaaGreatDoorCards
import Derived.Test.YteiplklloajjaaaGreatDoorTie
import Derived.Test.YteiplklloajjaaaGreatDoorFn34
import Derived.Test.YteiplklloajjaaaGreatDoorCdk
import Derived.Test.YteiplklloajjaaaGreatDoorRowk
import Derived.WalkKit
import Derived.ProofKit
import Derived.OpenShut
import Derived.ShutString
import Derived.ChangeOld
import Derived.Below
import Derived.SizedLaws
import Derived.SevenTiedAt
namespace Go.Proofs.YteiplklloajjaaaGreatDoor
open Go.ChangeShapes Go.WideShapes Go.ChangeAt Go.RowKit
open Go.ChangeMaps (open_string shut_string)
set_option linter.unusedVariables false
theorem ownKnob_none : ownKnob Tryz.prog.godebug = none := by kernel_rfl
theorem laidOut_ : laidOutB Tryz.prog = true := by kernel_rfl
theorem atI_u8 {xs : List Int} (h : ∀ n ∈ xs, (Lit.int .u8 n).wf = true) (i : Nat) (hi : i < xs.length) : 0 ≤ atI xs i ∧ atI xs i ≤ 255 := bounds_u8 (h _ (atI_mem hi))
section
set_option maxHeartbeats 4000000
set_option maxRecDepth 100000
attribute [local irreducible] wpList Code.wp OpRun
--# walk FnFields
theorem FnFields_walk (xs : List Int) (v : Value) (ys : List Int) (v2 : Value) (hxb : ∀ i, i < xs.length → 0 ≤ atI xs i ∧ atI xs i ≤ 255) (hyb : ∀ i, i < ys.length → 0 ≤ atI ys i ∧ atI ys i ≤ 255) (w : World) (hT : TW w) (hin : SlIn w v .u8 xs) (hin2 : SlIn w v2 .u8 ys) :
 Calls Tryz.prog 3 #[v, v2] w fun e w' => e = .returned (.bool true) ∧ Ext w w' := by
 have hbx_ := hxb
 have hby_ := hyb
 refine calls_of_wp Tryz.func3 rfl ?_
 refine wp_frame (a' := ⟨#[v, v2, undef, undef, undef, undef, undef, undef, undef, undef, undef, undef, undef, undef, undef, undef, undef, undef, undef, undef, undef, undef, undef, undef, undef, undef, undef, undef, undef, undef, undef, undef, undef, undef, undef, undef, undef, undef, undef, undef, undef, undef, undef, undef, undef, undef, undef, undef, undef, undef, undef, undef, undef, undef, undef, undef, undef, undef, undef, undef, undef, undef, undef, undef, undef, undef, undef, undef, undef, undef, undef, undef, undef, undef, undef, undef, undef, undef, undef, undef, undef, undef, undef, undef, undef, undef, undef, undef, undef, undef, undef, undef, undef, undef, undef, undef, undef, undef, undef, undef, undef, undef, undef, undef, undef, undef, undef, undef, undef, undef, undef, undef, undef, undef, undef, undef, undef, undef, undef, undef, undef, undef, undef, undef, undef, undef, undef, undef, undef, undef, undef, undef, undef, undef, undef, undef, undef, undef, undef, undef, undef, undef, undef, undef, undef, undef, undef, undef, undef, undef, undef, undef, undef, undef, undef, undef, undef, undef, undef, undef, undef, undef, undef, undef, undef, undef, undef, undef, undef, undef, undef, undef, undef, undef, undef, undef, undef, undef, undef, undef, undef, undef, undef, undef, undef, undef, undef, undef, undef, undef, undef, undef, undef, undef, undef, undef, undef, undef, undef, undef, undef, undef, undef, undef, undef, undef, undef, undef, undef, undef, undef, undef, undef, undef, undef, undef, undef, undef, undef, undef, undef, undef, undef, undef, undef, undef, undef, undef, undef, undef, undef, undef, undef, undef, undef, undef, undef, undef, undef, undef, undef, undef, undef, undef, undef, undef, undef, undef, undef, undef, undef, undef, undef, undef, undef, undef, undef, undef, undef, undef, undef, undef, undef, undef, undef, undef, undef, undef, undef, undef, undef, undef, undef, undef, undef, undef, undef, undef, undef, undef, undef, undef, undef, undef, undef, undef, undef, undef, undef, undef, undef, undef, undef, undef, undef, undef, undef, undef, undef, undef, undef, undef, undef, undef, undef, undef, undef, undef, undef, undef, undef, undef, undef, undef, undef, undef, undef, undef, undef, undef, undef, undef, undef, undef, undef, undef, undef, undef, undef, undef, undef, undef, undef, undef, undef, undef, undef, undef, undef, undef, undef, undef, undef, undef, undef, undef, undef, undef, undef, undef, undef, undef, undef, undef, undef, undef, undef, undef, undef, undef, undef, undef, undef, undef, undef, undef, undef, undef, undef, undef, undef, undef, undef], []⟩) (by kernel_rfl) ?_
 refine wsr ?_
 refine wv (.bool false) ?_
 refine wpList_nil (then_normal ?_)
 refine wp_seq ?_
 refine wsr ?_
 refine wv v ?_
 refine wcl (f6big_any xs v _ (SlIn.ext hin (Ext.refl w))) ?_
 intro w1 E1
 refine wv (.bool (decide (4096 < (xs.length : Int)))) ?_
 have H1 := (Ext.refl w).trans E1
 refine split_bool (decide (4096 < (xs.length : Int))) (fun h1 => ?_) (fun h1 => ?_)
 · skip
   refine wbl 52 true h1 ?_
   have h1d := dT h1
   refine wsk ?_
   refine wsk ?_
   refine wv (.bool true) ?_
   refine wpList_nil (then_normal ?_)
   refine wct ?_
   refine wsr ?_
   refine wv (.bool true) ?_
   refine wpList_nil (then_normal ?_)
   refine wp_ret ?_
   refine then_ret ?_
   refine ret1 (.bool true) rfl ?_ rfl ?_
   · exact resT (by kernel_rfl)
   exact ⟨rfl, H1⟩
 · skip
   refine wbl 52 false h1 ?_
   have h1d := dF h1
   refine wv v2 ?_
   refine wcl (f6big_any ys v2 _ (SlIn.ext hin2 H1)) ?_
   intro w2 E2
   refine wv (.bool (decide (4096 < (ys.length : Int)))) ?_
   refine wpList_nil (then_normal ?_)
   have H2 := H1.trans E2
   refine wsplit (decide (4096 < (ys.length : Int))) (fun h2 => ?_) (fun h2 => ?_)
   · skip
     have h2d := dT h2
     refine wsr ?_
     refine wv (.bool true) ?_
     refine wpList_nil (then_normal ?_)
     refine wp_ret ?_
     refine then_ret ?_
     refine ret1 (.bool true) rfl ?_ rfl ?_
     · exact resT (by kernel_rfl)
     exact ⟨rfl, H2⟩
   · skip
     have h2d := dF h2
     refine wp_skip ?_
     refine then_normal ?_
     refine wsr ?_
     refine wv v ?_
     refine wfld (P6Field_any xs v (by omega) hxb _ (SlIn.ext hin H2)) ?_
     intro Fd w3 hd_ E3
     have hF_ := hd_.wf
     have wh_ := ok_wh hd_.ok
     have sb_ := sumN_b hF_.s1 100 (Nat.le_refl _)
     have H3 := H2.trans E3
     refine wnew (Fld.cells Fld.zero) Tryz.zeroValue29 zero_impl_Field ?_
     intro g1 w4 B1 E4 hg_
     have lo_g1 := Nat.le_trans (H3).size hg_
     refine wput Fd.cells row_impl_Field B1 (by exact Fld.size_cells _) (by exact Fld.size_cells _) (by exact Fld.one_cells _) ?_
     intro w5 B1_ X1
     clear B1; have B1 := B1_; clear B1_
     refine wpList_nil (then_normal ?_)
     refine wsr ?_
     refine wv v2 ?_
     refine wrow row_impl_Field B1 (by exact Fld.size_cells _) ?_
     have H4 := X1.ext w lo_g1 (H3.trans E4)
     refine wcel (P6Cell_any ys v2 (by omega) hyb Fd hF_ hd_.ok _ (SlIn.ext hin2 H4)) ?_
     intro c_ w6 hc_ E5
     have hcr_ := isB_true.1 hc_
     have ce_ := cel hd_.ok hc_
     refine wv (.int .i64 c_) ?_
     refine wpList_nil (then_normal ?_)
     refine wsr ?_
     replace B1 := B1.ext E5
     refine wrow row_impl_Field B1 (by exact Fld.size_cells _) ?_
     have H5 := H4.trans E5
     refine wcl (iFieldText_ok Fd hF_ hd_.ok _ (TW.t (TW.ext hT H5))) ?_
     intro w7 E6
     have H6 := H5.trans E6
     refine wcl (iReadField_ok Fd hF_ hd_.ok _ (TW.ext hT H6)) ?_
     intro w8 E7
     refine wv (.tuple #[.agg Fd.cells, .int .i64 0]) ?_
     refine wv (.agg Fd.cells) ?_
     refine wv (.int .i64 0) ?_
     have H7 := H6.trans E7
     replace B1 := (B1.ext E6).ext E7
     refine wnew (Fld.cells Fld.zero) Tryz.zeroValue29 zero_impl_Field ?_
     intro g2 w9 B2 E8 hg_
     have q_g1_g2 := Nat.ne_of_lt (Nat.lt_of_lt_of_le B1.lt hg_)
     have lo_g2 := Nat.le_trans (H7).size hg_
     refine wput Fd.cells row_impl_Field B2 (by exact Fld.size_cells _) (by exact Fld.size_cells _) (by exact Fld.one_cells _) ?_
     intro w10 B2_ X2
     clear B2; have B2 := B2_; clear B2_
     refine wv (.int .i64 0) ?_
     refine wpList_nil (then_normal ?_)
     refine wsr ?_
     replace B1 := X2.blk (B1.ext E8) q_g1_g2
     refine wrow row_impl_Field B1 (by exact Fld.size_cells _) ?_
     refine wcl (iMirror_ok Fd hF_ hd_.ok (cs := Fld.cells (mirF Fd)) rfl _) ?_
     intro w11 E9
     refine wv (.tuple #[.agg (Fld.cells (mirF Fd)), .int .i64 0]) ?_
     refine wv (.agg (Fld.cells (mirF Fd))) ?_
     refine wv (.int .i64 0) ?_
     have H8 := (X2.ext w lo_g2 (H7.trans E8)).trans E9
     replace B1 := B1.ext E9
     replace B2 := B2.ext E9
     refine wnew (Fld.cells Fld.zero) Tryz.zeroValue29 zero_impl_Field ?_
     intro g3 w12 B3 E10 hg_
     have q_g1_g3 := Nat.ne_of_lt (Nat.lt_of_lt_of_le B1.lt hg_)
     have q_g2_g3 := Nat.ne_of_lt (Nat.lt_of_lt_of_le B2.lt hg_)
     have lo_g3 := Nat.le_trans (H8).size hg_
     refine wput (Fld.cells (mirF Fd)) row_impl_Field B3 (by exact Fld.size_cells _) (by exact Fld.size_cells _) (by exact Fld.one_cells _) ?_
     intro w13 B3_ X3
     clear B3; have B3 := B3_; clear B3_
     refine wv (.int .i64 0) ?_
     refine wpList_nil (then_normal ?_)
     refine wp_frame (a' := ⟨#[v, v2, undef, undef, .bool false, .pointer (some ⟨g1, 0, none⟩), .int .i64 c_, .pointer (some ⟨g2, 0, none⟩), .int .i64 0, .pointer (some ⟨g3, 0, none⟩), .int .i64 0, undef, undef, undef, undef, undef, undef, undef, undef, undef, undef, undef, undef, undef, undef, undef, undef, undef, undef, undef, undef, undef, undef, undef, undef, undef, undef, undef, undef, undef, undef, undef, undef, undef, undef, undef, undef, undef, undef, undef, v, .bool (decide (4096 < (xs.length : Int))), .bool false, v2, .bool (decide (4096 < (ys.length : Int))), .bool (decide (4096 < (ys.length : Int))), v, .agg Fd.cells, v2, .agg Fd.cells, .int .i64 c_, .tuple #[.agg Fd.cells, .int .i64 0], .agg Fd.cells, .string (bs (fieldT Fd)), .tuple #[.agg Fd.cells, .int .i64 0], .agg Fd.cells, .int .i64 0, .tuple #[.agg (Fld.cells (mirF Fd)), .int .i64 0], .agg Fd.cells, .tuple #[.agg (Fld.cells (mirF Fd)), .int .i64 0], .agg (Fld.cells (mirF Fd)), .int .i64 0, undef, undef, undef, undef, undef, undef, undef, undef, undef, undef, undef, undef, undef, undef, undef, undef, undef, undef, undef, undef, undef, undef, undef, undef, undef, undef, undef, undef, undef, undef, undef, undef, undef, undef, undef, undef, undef, undef, undef, undef, undef, undef, undef, undef, undef, undef, undef, undef, undef, undef, undef, undef, undef, undef, undef, undef, undef, undef, undef, undef, undef, undef, undef, undef, undef, undef, undef, undef, undef, undef, undef, undef, undef, undef, undef, undef, undef, undef, undef, undef, undef, undef, undef, undef, undef, undef, undef, undef, undef, undef, undef, undef, undef, undef, undef, undef, undef, undef, undef, undef, undef, undef, undef, undef, undef, undef, undef, undef, undef, undef, undef, undef, undef, undef, undef, undef, undef, undef, undef, undef, undef, undef, undef, undef, undef, undef, undef, undef, undef, undef, undef, undef, undef, undef, undef, undef, undef, undef, undef, undef, undef, undef, undef, undef, undef, undef, undef, undef, undef, undef, undef, undef, undef, undef, undef, undef, undef, undef, undef, undef, undef, undef, undef, undef, undef, undef, undef, undef, undef, undef, undef, undef, undef, undef, undef, undef, undef, undef, undef, undef, undef, undef, undef, undef, undef, undef, undef, undef, undef, undef, undef, undef, undef, undef, undef, undef, undef, undef, undef, undef, undef, undef, undef, undef, undef, undef, undef, undef, undef, undef, undef, undef, undef, undef, undef, undef, undef, undef, undef, undef, undef, undef, undef, undef, undef, undef, undef, undef, undef, undef, undef, undef, undef, undef, undef, undef, undef, undef, undef, undef, undef, undef, undef, undef, undef, undef, undef, undef, undef, undef, undef, undef, undef, undef, undef, undef, undef, undef, undef, undef, undef, undef, undef, undef, undef, undef, undef, undef, undef, undef, undef, undef, undef, undef, undef, undef, undef, undef, undef, undef, undef, undef, undef, undef, undef, undef, undef, undef, undef, undef, undef, undef, undef, undef, undef, undef, undef, undef, undef, undef, undef], []⟩) (by kernel_rfl) ?_
     refine wsr ?_
     replace B1 := X3.blk (B1.ext E10) q_g1_g3
     refine wrow row_impl_Field B1 (by exact Fld.size_cells _) ?_
     refine wcl (sMirror_ok Fd hF_ hd_.ok (cs := Fld.cells (mirF Fd)) rfl _) ?_
     intro w14 E11
     refine wv (.tuple #[.agg (Fld.cells (mirF Fd)), .int .i64 0]) ?_
     refine wv (.agg (Fld.cells (mirF Fd))) ?_
     refine wv (.int .i64 0) ?_
     have H9 := (X3.ext w lo_g3 (H8.trans E10)).trans E11
     replace B1 := B1.ext E11
     replace B2 := (X3.blk (B2.ext E10) q_g2_g3).ext E11
     replace B3 := B3.ext E11
     refine wnew (Fld.cells Fld.zero) Tryz.zeroValue29 zero_impl_Field ?_
     intro g4 w15 B4 E12 hg_
     have q_g1_g4 := Nat.ne_of_lt (Nat.lt_of_lt_of_le B1.lt hg_)
     have q_g2_g4 := Nat.ne_of_lt (Nat.lt_of_lt_of_le B2.lt hg_)
     have q_g3_g4 := Nat.ne_of_lt (Nat.lt_of_lt_of_le B3.lt hg_)
     have lo_g4 := Nat.le_trans (H9).size hg_
     refine wput (Fld.cells (mirF Fd)) row_impl_Field B4 (by exact Fld.size_cells _) (by exact Fld.size_cells _) (by exact Fld.one_cells _) ?_
     intro w16 B4_ X4
     clear B4; have B4 := B4_; clear B4_
     refine wv (.int .i64 0) ?_
     refine wpList_nil (then_normal ?_)
     refine wsr ?_
     refine wrow row_impl_Field B4 (by exact Fld.size_cells _) ?_
     refine wcl (iMirror_ok (mirF Fd) (mir_wf hd_.ok hF_) (mir_ok hd_.ok) (cs := Fld.cells Fd) (mir_mir hd_.ok) _) ?_
     intro w17 E13
     refine wv (.tuple #[.agg Fd.cells, .int .i64 0]) ?_
     refine wv (.agg Fd.cells) ?_
     refine wv (.int .i64 0) ?_
     have H10 := (X4.ext w lo_g4 (H9.trans E12)).trans E13
     replace B1 := (X4.blk (B1.ext E12) q_g1_g4).ext E13
     replace B2 := (X4.blk (B2.ext E12) q_g2_g4).ext E13
     replace B3 := (X4.blk (B3.ext E12) q_g3_g4).ext E13
     replace B4 := B4.ext E13
     refine wnew (Fld.cells Fld.zero) Tryz.zeroValue29 zero_impl_Field ?_
     intro g5 w18 B5 E14 hg_
     have q_g1_g5 := Nat.ne_of_lt (Nat.lt_of_lt_of_le B1.lt hg_)
     have q_g2_g5 := Nat.ne_of_lt (Nat.lt_of_lt_of_le B2.lt hg_)
     have q_g3_g5 := Nat.ne_of_lt (Nat.lt_of_lt_of_le B3.lt hg_)
     have q_g4_g5 := Nat.ne_of_lt (Nat.lt_of_lt_of_le B4.lt hg_)
     have lo_g5 := Nat.le_trans (H10).size hg_
     refine wput Fd.cells row_impl_Field B5 (by exact Fld.size_cells _) (by exact Fld.size_cells _) (by exact Fld.one_cells _) ?_
     intro w19 B5_ X5
     clear B5; have B5 := B5_; clear B5_
     refine wv (.int .i64 0) ?_
     refine wpList_nil (then_normal ?_)
     refine wsr ?_
     replace B1 := X5.blk (B1.ext E14) q_g1_g5
     refine wrow row_impl_Field B1 (by exact Fld.size_cells _) ?_
     refine wcl (iSeedsIn_ok Fd hF_ hd_.ok (v := sumN Fd.s 100) rfl _) ?_
     intro w20 E15
     refine wv (.tuple #[.int .i64 (sumN Fd.s 100), .int .i64 0]) ?_
     refine wv (.int .i64 (sumN Fd.s 100)) ?_
     refine wv (.int .i64 0) ?_
     refine wv (.int .i64 (sumN Fd.s 100)) ?_
     refine wv (.int .i64 0) ?_
     refine wpList_nil (then_normal ?_)
     refine wp_seq ?_
     refine wsr ?_
     refine wv (.int .i64 0) ?_
     refine wvv (.bool (0 != 0)) (.bool false) (by simp) ?_
     refine wv (.bool false) ?_
     replace B2 := (X5.blk (B2.ext E14) q_g2_g5).ext E15
     refine wrow row_impl_Field B2 (by exact Fld.size_cells _) ?_
     replace B1 := B1.ext E15
     refine wrow row_impl_Field B1 (by exact Fld.size_cells _) ?_
     refine wneA fldt_impl_Field.eg (equalIn_fld fldt_impl_Field 9997 Fd Fd) ?_
     refine wbl 92 false (bnT (eqFld_s Fd)) ?_
     refine wv (.bool false) ?_
     refine wv (.bool false) ?_
     refine wrow row_impl_Field B2 (by exact Fld.size_cells _) ?_
     refine wrow row_impl_Field B1 (by exact Fld.size_cells _) ?_
     refine wcl (iSameField_any Fd Fd _) ?_
     intro w21 E16
     refine wbl 97 true (eqFld_s Fd) ?_
     refine wv (.bool false) ?_
     refine wv (.bool false) ?_
     refine wv (.bool false) ?_
     replace B1 := B1.ext E16
     refine wrow row_impl_Field B1 (by exact Fld.size_cells _) ?_
     refine wcl (iValidField_any Fd hF_ _) ?_
     intro w22 E17
     refine wbl 102 true hd_.ok ?_
     refine wv (.bool false) ?_
     refine wv (.bool false) ?_
     refine wv (.bool false) ?_
     refine wv (.int .i64 0) ?_
     refine wpl_frame (a' := ⟨#[v, v2, undef, undef, .bool false, .pointer (some ⟨g1, 0, none⟩), .int .i64 c_, .pointer (some ⟨g2, 0, none⟩), .int .i64 0, .pointer (some ⟨g3, 0, none⟩), .int .i64 0, .pointer (some ⟨g4, 0, none⟩), .int .i64 0, .pointer (some ⟨g5, 0, none⟩), .int .i64 0, .int .i64 (sumN Fd.s 100), .int .i64 0, undef, undef, undef, undef, undef, undef, undef, undef, undef, undef, undef, undef, undef, undef, undef, undef, undef, undef, undef, undef, undef, undef, undef, undef, undef, undef, undef, undef, undef, undef, undef, undef, undef, v, .bool (decide (4096 < (xs.length : Int))), .bool false, v2, .bool (decide (4096 < (ys.length : Int))), .bool (decide (4096 < (ys.length : Int))), v, .agg Fd.cells, v2, .agg Fd.cells, .int .i64 c_, .tuple #[.agg Fd.cells, .int .i64 0], .agg Fd.cells, .string (bs (fieldT Fd)), .tuple #[.agg Fd.cells, .int .i64 0], .agg Fd.cells, .int .i64 0, .tuple #[.agg (Fld.cells (mirF Fd)), .int .i64 0], .agg Fd.cells, .tuple #[.agg (Fld.cells (mirF Fd)), .int .i64 0], .agg (Fld.cells (mirF Fd)), .int .i64 0, .tuple #[.agg (Fld.cells (mirF Fd)), .int .i64 0], .agg Fd.cells, .tuple #[.agg (Fld.cells (mirF Fd)), .int .i64 0], .agg (Fld.cells (mirF Fd)), .int .i64 0, .tuple #[.agg Fd.cells, .int .i64 0], .agg (Fld.cells (mirF Fd)), .tuple #[.agg Fd.cells, .int .i64 0], .agg Fd.cells, .int .i64 0, .tuple #[.int .i64 (sumN Fd.s 100), .int .i64 0], .agg Fd.cells, .tuple #[.int .i64 (sumN Fd.s 100), .int .i64 0], .int .i64 (sumN Fd.s 100), .int .i64 0, .int .i64 0, .bool false, .bool false, .agg Fd.cells, .agg Fd.cells, .bool false, .bool false, .bool false, .agg Fd.cells, .agg Fd.cells, .bool true, .bool false, .bool false, .bool false, .agg Fd.cells, .bool true, .bool false, .bool false, .bool false, .int .i64 0, undef, undef, undef, undef, undef, undef, undef, undef, undef, undef, undef, undef, undef, undef, undef, undef, undef, undef, undef, undef, undef, undef, undef, undef, undef, undef, undef, undef, undef, undef, undef, undef, undef, undef, undef, undef, undef, undef, undef, undef, undef, undef, undef, undef, undef, undef, undef, undef, undef, undef, undef, undef, undef, undef, undef, undef, undef, undef, undef, undef, undef, undef, undef, undef, undef, undef, undef, undef, undef, undef, undef, undef, undef, undef, undef, undef, undef, undef, undef, undef, undef, undef, undef, undef, undef, undef, undef, undef, undef, undef, undef, undef, undef, undef, undef, undef, undef, undef, undef, undef, undef, undef, undef, undef, undef, undef, undef, undef, undef, undef, undef, undef, undef, undef, undef, undef, undef, undef, undef, undef, undef, undef, undef, undef, undef, undef, undef, undef, undef, undef, undef, undef, undef, undef, undef, undef, undef, undef, undef, undef, undef, undef, undef, undef, undef, undef, undef, undef, undef, undef, undef, undef, undef, undef, undef, undef, undef, undef, undef, undef, undef, undef, undef, undef, undef, undef, undef, undef, undef, undef, undef, undef, undef, undef, undef, undef, undef, undef, undef, undef, undef, undef, undef, undef, undef, undef, undef, undef, undef, undef, undef, undef, undef, undef, undef, undef, undef, undef, undef, undef, undef, undef, undef, undef, undef, undef, undef, undef, undef, undef, undef, undef, undef, undef, undef, undef, undef, undef, undef, undef, undef, undef, undef, undef, undef, undef, undef, undef, undef, undef, undef, undef, undef, undef, undef, undef, undef, undef, undef, undef, undef, undef, undef, undef, undef, undef, undef, undef, undef, undef, undef, undef, undef, undef, undef, undef, undef, undef, undef, undef, undef, undef, undef, undef, undef, undef], []⟩) (by kernel_rfl) ?_
     refine wv (.int .i64 0) ?_
     refine wvv (.bool (0 != 0)) (.bool false) (by simp) ?_
     refine wv (.bool false) ?_
     refine wv (.bool false) ?_
     refine wv (.int .i64 0) ?_
     refine wvv (.bool (0 != 0)) (.bool false) (by simp) ?_
     refine wv (.bool false) ?_
     refine wv (.bool false) ?_
     replace B3 := (((X5.blk (B3.ext E14) q_g3_g5).ext E15).ext E16).ext E17
     refine wrow row_impl_Field B3 (by exact Fld.size_cells _) ?_
     replace B4 := (((X5.blk (B4.ext E14) q_g4_g5).ext E15).ext E16).ext E17
     refine wrow row_impl_Field B4 (by exact Fld.size_cells _) ?_
     refine wneA fldt_impl_Field.eg (equalIn_fld fldt_impl_Field 9997 (mirF Fd) (mirF Fd)) ?_
     refine wbl 117 false (bnT (eqFld_s (mirF Fd))) ?_
     refine wv (.bool false) ?_
     refine wv (.bool false) ?_
     refine wv (.int .i64 0) ?_
     refine wvv (.bool (0 != 0)) (.bool false) (by simp) ?_
     refine wv (.bool false) ?_
     refine wv (.bool false) ?_
     replace B5 := ((B5.ext E15).ext E16).ext E17
     refine wrow row_impl_Field B5 (by exact Fld.size_cells _) ?_
     replace B1 := B1.ext E17
     refine wrow row_impl_Field B1 (by exact Fld.size_cells _) ?_
     refine wneA fldt_impl_Field.eg (equalIn_fld fldt_impl_Field 9997 Fd Fd) ?_
     refine wbl 126 false (bnT (eqFld_s Fd)) ?_
     refine wv (.bool false) ?_
     refine wv (.bool false) ?_
     refine wv (.int .i64 0) ?_
     refine wvv (.bool (0 != 0)) (.bool false) (by simp) ?_
     refine wv (.bool false) ?_
     refine wpList_nil (then_normal ?_)
     refine wcf ?_
     refine wp_skip ?_
     refine then_normal ?_
     refine wsr ?_
     refine wrow row_impl_Field B1 (by exact Fld.size_cells _) ?_
     have H11 := (((X5.ext w lo_g5 (H10.trans E14)).trans E15).trans E16).trans E17
     replace B2 := (B2.ext E16).ext E17
     refine wnew (Fld.cells Fld.zero) Tryz.zeroValue29 zero_impl_Field ?_
     intro g6 w23 B6 E18 hg_
     have q_g1_g6 := Nat.ne_of_lt (Nat.lt_of_lt_of_le B1.lt hg_)
     have q_g2_g6 := Nat.ne_of_lt (Nat.lt_of_lt_of_le B2.lt hg_)
     have q_g3_g6 := Nat.ne_of_lt (Nat.lt_of_lt_of_le B3.lt hg_)
     have q_g4_g6 := Nat.ne_of_lt (Nat.lt_of_lt_of_le B4.lt hg_)
     have q_g5_g6 := Nat.ne_of_lt (Nat.lt_of_lt_of_le B5.lt hg_)
     have lo_g6 := Nat.le_trans (H11).size hg_
     refine wput Fd.cells row_impl_Field B6 (by exact Fld.size_cells _) (by exact Fld.size_cells _) (by exact Fld.one_cells _) ?_
     intro w24 B6_ X6
     clear B6; have B6 := B6_; clear B6_
     refine wpList_nil (then_normal ?_)
     refine wp_seq ?_
     refine wsr ?_
     refine wv (.int .i64 0) ?_
     refine wpList_nil (then_normal ?_)
     refine wp_frame (a' := ⟨#[v, v2, undef, undef, .bool false, .pointer (some ⟨g1, 0, none⟩), .int .i64 c_, .pointer (some ⟨g2, 0, none⟩), .int .i64 0, .pointer (some ⟨g3, 0, none⟩), .int .i64 0, .pointer (some ⟨g4, 0, none⟩), .int .i64 0, .pointer (some ⟨g5, 0, none⟩), .int .i64 0, .int .i64 (sumN Fd.s 100), .int .i64 0, .pointer (some ⟨g6, 0, none⟩), .int .i64 0, undef, undef, undef, undef, undef, undef, undef, undef, undef, undef, undef, undef, undef, undef, undef, undef, undef, undef, undef, undef, undef, undef, undef, undef, undef, undef, undef, undef, undef, undef, undef, v, .bool (decide (4096 < (xs.length : Int))), .bool false, v2, .bool (decide (4096 < (ys.length : Int))), .bool (decide (4096 < (ys.length : Int))), v, .agg Fd.cells, v2, .agg Fd.cells, .int .i64 c_, .tuple #[.agg Fd.cells, .int .i64 0], .agg Fd.cells, .string (bs (fieldT Fd)), .tuple #[.agg Fd.cells, .int .i64 0], .agg Fd.cells, .int .i64 0, .tuple #[.agg (Fld.cells (mirF Fd)), .int .i64 0], .agg Fd.cells, .tuple #[.agg (Fld.cells (mirF Fd)), .int .i64 0], .agg (Fld.cells (mirF Fd)), .int .i64 0, .tuple #[.agg (Fld.cells (mirF Fd)), .int .i64 0], .agg Fd.cells, .tuple #[.agg (Fld.cells (mirF Fd)), .int .i64 0], .agg (Fld.cells (mirF Fd)), .int .i64 0, .tuple #[.agg Fd.cells, .int .i64 0], .agg (Fld.cells (mirF Fd)), .tuple #[.agg Fd.cells, .int .i64 0], .agg Fd.cells, .int .i64 0, .tuple #[.int .i64 (sumN Fd.s 100), .int .i64 0], .agg Fd.cells, .tuple #[.int .i64 (sumN Fd.s 100), .int .i64 0], .int .i64 (sumN Fd.s 100), .int .i64 0, .int .i64 0, .bool false, .bool false, .agg Fd.cells, .agg Fd.cells, .bool false, .bool false, .bool false, .agg Fd.cells, .agg Fd.cells, .bool true, .bool false, .bool false, .bool false, .agg Fd.cells, .bool true, .bool false, .bool false, .bool false, .int .i64 0, .int .i64 0, .bool false, .bool false, .bool false, .int .i64 0, .bool false, .bool false, .bool false, .agg (Fld.cells (mirF Fd)), .agg (Fld.cells (mirF Fd)), .bool false, .bool false, .bool false, .int .i64 0, .bool false, .bool false, .bool false, .agg Fd.cells, .agg Fd.cells, .bool false, .bool false, .bool false, .int .i64 0, .bool false, .bool false, .agg Fd.cells, undef, undef, undef, undef, undef, undef, undef, undef, undef, undef, undef, undef, undef, undef, undef, undef, undef, undef, undef, undef, undef, undef, undef, undef, undef, undef, undef, undef, undef, undef, undef, undef, undef, undef, undef, undef, undef, undef, undef, undef, undef, undef, undef, undef, undef, undef, undef, undef, undef, undef, undef, undef, undef, undef, undef, undef, undef, undef, undef, undef, undef, undef, undef, undef, undef, undef, undef, undef, undef, undef, undef, undef, undef, undef, undef, undef, undef, undef, undef, undef, undef, undef, undef, undef, undef, undef, undef, undef, undef, undef, undef, undef, undef, undef, undef, undef, undef, undef, undef, undef, undef, undef, undef, undef, undef, undef, undef, undef, undef, undef, undef, undef, undef, undef, undef, undef, undef, undef, undef, undef, undef, undef, undef, undef, undef, undef, undef, undef, undef, undef, undef, undef, undef, undef, undef, undef, undef, undef, undef, undef, undef, undef, undef, undef, undef, undef, undef, undef, undef, undef, undef, undef, undef, undef, undef, undef, undef, undef, undef, undef, undef, undef, undef, undef, undef, undef, undef, undef, undef, undef, undef, undef, undef, undef, undef, undef, undef, undef, undef, undef, undef, undef, undef, undef, undef, undef, undef, undef, undef, undef, undef, undef, undef, undef, undef, undef, undef, undef, undef, undef, undef, undef, undef, undef, undef, undef, undef, undef, undef, undef, undef, undef, undef, undef, undef, undef, undef, undef, undef, undef, undef, undef, undef, undef, undef, undef, undef, undef, undef, undef, undef, undef, undef, undef, undef, undef, undef, undef, undef, undef], []⟩) (by kernel_rfl) ?_
     refine wp_block ?_
     refine wp_loop_rounds 5 ?_
     refine rounds_s ?_
     refine wp_seq ?_
     refine wsr ?_
     refine wv (.int .i64 0) ?_
     refine wv (.bool true) ?_
     refine wpList_nil (then_normal ?_)
     refine wct ?_
     refine wp_skip ?_
     refine then_normal ?_
     refine wp_seq ?_
     refine wp_block ?_
     refine wsr ?_
     refine wrow row_impl_Field B6 (by exact Fld.size_cells _) ?_
     refine wcl (iTurn_ok Fd hF_ hd_.ok (cs := Fld.cells (turF Fd)) rfl _) ?_
     intro w25 E19
     refine wv (.tuple #[.agg (Fld.cells (turF Fd)), .int .i64 0]) ?_
     refine wv (.agg (Fld.cells (turF Fd))) ?_
     refine wv (.int .i64 0) ?_
     have H12 := (X6.ext w lo_g6 (H11.trans E18)).trans E19
     replace B1 := (X6.blk (B1.ext E18) q_g1_g6).ext E19
     replace B2 := (X6.blk (B2.ext E18) q_g2_g6).ext E19
     replace B3 := (X6.blk (B3.ext E18) q_g3_g6).ext E19
     replace B4 := (X6.blk (B4.ext E18) q_g4_g6).ext E19
     replace B5 := (X6.blk (B5.ext E18) q_g5_g6).ext E19
     replace B6 := B6.ext E19
     refine wnew (Fld.cells Fld.zero) Tryz.zeroValue29 zero_impl_Field ?_
     intro g7 w26 B7 E20 hg_
     have q_g1_g7 := Nat.ne_of_lt (Nat.lt_of_lt_of_le B1.lt hg_)
     have q_g2_g7 := Nat.ne_of_lt (Nat.lt_of_lt_of_le B2.lt hg_)
     have q_g3_g7 := Nat.ne_of_lt (Nat.lt_of_lt_of_le B3.lt hg_)
     have q_g4_g7 := Nat.ne_of_lt (Nat.lt_of_lt_of_le B4.lt hg_)
     have q_g5_g7 := Nat.ne_of_lt (Nat.lt_of_lt_of_le B5.lt hg_)
     have q_g6_g7 := Nat.ne_of_lt (Nat.lt_of_lt_of_le B6.lt hg_)
     have lo_g7 := Nat.le_trans (H12).size hg_
     refine wput (Fld.cells (turF Fd)) row_impl_Field B7 (by exact Fld.size_cells _) (by exact Fld.size_cells _) (by exact Fld.one_cells _) ?_
     intro w27 B7_ X7
     clear B7; have B7 := B7_; clear B7_
     refine wv (.int .i64 0) ?_
     refine wpList_nil (then_normal ?_)
     refine wsr ?_
     replace B6 := X7.blk (B6.ext E20) q_g6_g7
     refine wrow row_impl_Field B6 (by exact Fld.size_cells _) ?_
     refine wcl (sTurn_ok Fd hF_ hd_.ok (cs := Fld.cells (turF Fd)) rfl _) ?_
     intro w28 E21
     refine wv (.tuple #[.agg (Fld.cells (turF Fd)), .int .i64 0]) ?_
     refine wv (.agg (Fld.cells (turF Fd))) ?_
     refine wv (.int .i64 0) ?_
     have H13 := (X7.ext w lo_g7 (H12.trans E20)).trans E21
     replace B1 := (X7.blk (B1.ext E20) q_g1_g7).ext E21
     replace B2 := (X7.blk (B2.ext E20) q_g2_g7).ext E21
     replace B3 := (X7.blk (B3.ext E20) q_g3_g7).ext E21
     replace B4 := (X7.blk (B4.ext E20) q_g4_g7).ext E21
     replace B5 := (X7.blk (B5.ext E20) q_g5_g7).ext E21
     replace B6 := B6.ext E21
     replace B7 := B7.ext E21
     refine wnew (Fld.cells Fld.zero) Tryz.zeroValue29 zero_impl_Field ?_
     intro g8 w29 B8 E22 hg_
     have q_g1_g8 := Nat.ne_of_lt (Nat.lt_of_lt_of_le B1.lt hg_)
     have q_g2_g8 := Nat.ne_of_lt (Nat.lt_of_lt_of_le B2.lt hg_)
     have q_g3_g8 := Nat.ne_of_lt (Nat.lt_of_lt_of_le B3.lt hg_)
     have q_g4_g8 := Nat.ne_of_lt (Nat.lt_of_lt_of_le B4.lt hg_)
     have q_g5_g8 := Nat.ne_of_lt (Nat.lt_of_lt_of_le B5.lt hg_)
     have q_g6_g8 := Nat.ne_of_lt (Nat.lt_of_lt_of_le B6.lt hg_)
     have q_g7_g8 := Nat.ne_of_lt (Nat.lt_of_lt_of_le B7.lt hg_)
     have lo_g8 := Nat.le_trans (H13).size hg_
     refine wput (Fld.cells (turF Fd)) row_impl_Field B8 (by exact Fld.size_cells _) (by exact Fld.size_cells _) (by exact Fld.one_cells _) ?_
     intro w30 B8_ X8
     clear B8; have B8 := B8_; clear B8_
     refine wv (.int .i64 0) ?_
     refine wpList_nil (then_normal ?_)
     refine wsr ?_
     refine wrow row_impl_Field B8 (by exact Fld.size_cells _) ?_
     refine wcl (iSeedsIn_ok (turF Fd) (tur_wf hd_.ok hF_) (tur_ok hd_.ok) (v := sumN Fd.s 100) ((sum_tur hd_.ok).trans rfl) _) ?_
     intro w31 E23
     refine wv (.tuple #[.int .i64 (sumN Fd.s 100), .int .i64 0]) ?_
     refine wv (.int .i64 (sumN Fd.s 100)) ?_
     refine wv (.int .i64 0) ?_
     refine wv (.int .i64 (sumN Fd.s 100)) ?_
     refine wv (.int .i64 0) ?_
     refine wpList_nil (then_normal ?_)
     refine wp_seq ?_
     refine wsr ?_
     refine wv (.int .i64 0) ?_
     refine wv (.int .i64 0) ?_
     refine wvv (.bool (0 != 0)) (.bool false) (by simp) ?_
     refine wv (.bool false) ?_
     refine wv (.int .i64 0) ?_
     refine wvv (.bool (0 != 0)) (.bool false) (by simp) ?_
     refine wv (.bool false) ?_
     refine wv (.bool false) ?_
     replace B7 := (X8.blk (B7.ext E22) q_g7_g8).ext E23
     refine wrow row_impl_Field B7 (by exact Fld.size_cells _) ?_
     replace B8 := B8.ext E23
     refine wrow row_impl_Field B8 (by exact Fld.size_cells _) ?_
     refine wneA fldt_impl_Field.eg (equalIn_fld fldt_impl_Field 9997 (turF Fd) (turF Fd)) ?_
     refine wbl 162 false (bnT (eqFld_s (turF Fd))) ?_
     refine wv (.bool false) ?_
     refine wv (.bool false) ?_
     refine wv (.int .i64 0) ?_
     refine wvv (.bool (0 != 0)) (.bool false) (by simp) ?_
     refine wv (.bool false) ?_
     refine wv (.bool false) ?_
     refine wv (.int .i64 (sumN Fd.s 100)) ?_
     refine wv (.int .i64 (sumN Fd.s 100)) ?_
     refine wpl_frame (a' := ⟨#[v, v2, undef, undef, .bool false, .pointer (some ⟨g1, 0, none⟩), .int .i64 c_, .pointer (some ⟨g2, 0, none⟩), .int .i64 0, .pointer (some ⟨g3, 0, none⟩), .int .i64 0, .pointer (some ⟨g4, 0, none⟩), .int .i64 0, .pointer (some ⟨g5, 0, none⟩), .int .i64 0, .int .i64 (sumN Fd.s 100), .int .i64 0, .pointer (some ⟨g6, 0, none⟩), .int .i64 0, .pointer (some ⟨g7, 0, none⟩), .int .i64 0, .pointer (some ⟨g8, 0, none⟩), .int .i64 0, .int .i64 (sumN Fd.s 100), .int .i64 0, undef, undef, undef, undef, undef, undef, undef, undef, undef, undef, undef, undef, undef, undef, undef, undef, undef, undef, undef, undef, undef, undef, undef, undef, undef, v, .bool (decide (4096 < (xs.length : Int))), .bool false, v2, .bool (decide (4096 < (ys.length : Int))), .bool (decide (4096 < (ys.length : Int))), v, .agg Fd.cells, v2, .agg Fd.cells, .int .i64 c_, .tuple #[.agg Fd.cells, .int .i64 0], .agg Fd.cells, .string (bs (fieldT Fd)), .tuple #[.agg Fd.cells, .int .i64 0], .agg Fd.cells, .int .i64 0, .tuple #[.agg (Fld.cells (mirF Fd)), .int .i64 0], .agg Fd.cells, .tuple #[.agg (Fld.cells (mirF Fd)), .int .i64 0], .agg (Fld.cells (mirF Fd)), .int .i64 0, .tuple #[.agg (Fld.cells (mirF Fd)), .int .i64 0], .agg Fd.cells, .tuple #[.agg (Fld.cells (mirF Fd)), .int .i64 0], .agg (Fld.cells (mirF Fd)), .int .i64 0, .tuple #[.agg Fd.cells, .int .i64 0], .agg (Fld.cells (mirF Fd)), .tuple #[.agg Fd.cells, .int .i64 0], .agg Fd.cells, .int .i64 0, .tuple #[.int .i64 (sumN Fd.s 100), .int .i64 0], .agg Fd.cells, .tuple #[.int .i64 (sumN Fd.s 100), .int .i64 0], .int .i64 (sumN Fd.s 100), .int .i64 0, .int .i64 0, .bool false, .bool false, .agg Fd.cells, .agg Fd.cells, .bool false, .bool false, .bool false, .agg Fd.cells, .agg Fd.cells, .bool true, .bool false, .bool false, .bool false, .agg Fd.cells, .bool true, .bool false, .bool false, .bool false, .int .i64 0, .int .i64 0, .bool false, .bool false, .bool false, .int .i64 0, .bool false, .bool false, .bool false, .agg (Fld.cells (mirF Fd)), .agg (Fld.cells (mirF Fd)), .bool false, .bool false, .bool false, .int .i64 0, .bool false, .bool false, .bool false, .agg Fd.cells, .agg Fd.cells, .bool false, .bool false, .bool false, .int .i64 0, .bool false, .bool false, .agg Fd.cells, .int .i64 0, .bool true, undef, undef, .tuple #[.agg (Fld.cells (turF Fd)), .int .i64 0], .agg Fd.cells, .tuple #[.agg (Fld.cells (turF Fd)), .int .i64 0], .agg (Fld.cells (turF Fd)), .int .i64 0, .tuple #[.agg (Fld.cells (turF Fd)), .int .i64 0], .agg Fd.cells, .tuple #[.agg (Fld.cells (turF Fd)), .int .i64 0], .agg (Fld.cells (turF Fd)), .int .i64 0, .tuple #[.int .i64 (sumN Fd.s 100), .int .i64 0], .agg (Fld.cells (turF Fd)), .tuple #[.int .i64 (sumN Fd.s 100), .int .i64 0], .int .i64 (sumN Fd.s 100), .int .i64 0, .int .i64 0, .int .i64 0, .bool false, .bool false, .int .i64 0, .bool false, .bool false, .bool false, .agg (Fld.cells (turF Fd)), .agg (Fld.cells (turF Fd)), .bool false, .bool false, .bool false, .int .i64 0, .bool false, .bool false, .bool false, .int .i64 (sumN Fd.s 100), .int .i64 (sumN Fd.s 100), undef, undef, undef, undef, undef, undef, undef, undef, undef, undef, undef, undef, undef, undef, undef, undef, undef, undef, undef, undef, undef, undef, undef, undef, undef, undef, undef, undef, undef, undef, undef, undef, undef, undef, undef, undef, undef, undef, undef, undef, undef, undef, undef, undef, undef, undef, undef, undef, undef, undef, undef, undef, undef, undef, undef, undef, undef, undef, undef, undef, undef, undef, undef, undef, undef, undef, undef, undef, undef, undef, undef, undef, undef, undef, undef, undef, undef, undef, undef, undef, undef, undef, undef, undef, undef, undef, undef, undef, undef, undef, undef, undef, undef, undef, undef, undef, undef, undef, undef, undef, undef, undef, undef, undef, undef, undef, undef, undef, undef, undef, undef, undef, undef, undef, undef, undef, undef, undef, undef, undef, undef, undef, undef, undef, undef, undef, undef, undef, undef, undef, undef, undef, undef, undef, undef, undef, undef, undef, undef, undef, undef, undef, undef, undef, undef, undef, undef, undef, undef, undef, undef, undef, undef, undef, undef, undef, undef, undef, undef, undef, undef, undef, undef, undef, undef, undef, undef, undef, undef, undef, undef, undef, undef, undef, undef, undef, undef, undef, undef, undef, undef, undef, undef, undef, undef, undef, undef, undef, undef, undef, undef, undef, undef, undef, undef, undef, undef, undef, undef, undef, undef, undef], []⟩) (by kernel_rfl) ?_
     refine wvv (.bool ((sumN Fd.s 100) != (sumN Fd.s 100))) (.bool false) (by simp) ?_
     refine wv (.bool false) ?_
     refine wpList_nil (then_normal ?_)
     refine wcf ?_
     refine wp_skip ?_
     refine then_normal ?_
     refine wp_region_lit ?_
     refine wrow row_impl_Field B8 (by exact Fld.size_cells _) ?_
     replace B6 := (X8.blk (B6.ext E22) q_g6_g8).ext E23
     refine wput (Fld.cells (turF Fd)) row_impl_Field B6 (by exact Fld.size_cells _) (by exact Fld.size_cells _) (by exact Fld.one_cells _) ?_
     intro w32 B6_ X9
     clear B6; have B6 := B6_; clear B6_
     refine wpList_nil (block_normal (then_normal ?_))
     refine wp_region_lit ?_
     refine wv (.int .i64 0) ?_
     refine wv (.int .i64 1) ?_
     refine wv (.int .i64 1) ?_
     refine wpList_nil (then_normal ?_)
     refine rounds_s ?_
     refine wp_frame (a' := ⟨#[v, v2, undef, undef, .bool false, .pointer (some ⟨g1, 0, none⟩), .int .i64 c_, .pointer (some ⟨g2, 0, none⟩), .int .i64 0, .pointer (some ⟨g3, 0, none⟩), .int .i64 0, .pointer (some ⟨g4, 0, none⟩), .int .i64 0, .pointer (some ⟨g5, 0, none⟩), .int .i64 0, .int .i64 (sumN Fd.s 100), .int .i64 0, .pointer (some ⟨g6, 0, none⟩), .int .i64 1, .pointer (some ⟨g7, 0, none⟩), .int .i64 0, .pointer (some ⟨g8, 0, none⟩), .int .i64 0, .int .i64 (sumN Fd.s 100), .int .i64 0, undef, undef, undef, undef, undef, undef, undef, undef, undef, undef, undef, undef, undef, undef, undef, undef, undef, undef, undef, undef, undef, undef, undef, undef, undef, v, .bool (decide (4096 < (xs.length : Int))), .bool false, v2, .bool (decide (4096 < (ys.length : Int))), .bool (decide (4096 < (ys.length : Int))), v, .agg Fd.cells, v2, .agg Fd.cells, .int .i64 c_, .tuple #[.agg Fd.cells, .int .i64 0], .agg Fd.cells, .string (bs (fieldT Fd)), .tuple #[.agg Fd.cells, .int .i64 0], .agg Fd.cells, .int .i64 0, .tuple #[.agg (Fld.cells (mirF Fd)), .int .i64 0], .agg Fd.cells, .tuple #[.agg (Fld.cells (mirF Fd)), .int .i64 0], .agg (Fld.cells (mirF Fd)), .int .i64 0, .tuple #[.agg (Fld.cells (mirF Fd)), .int .i64 0], .agg Fd.cells, .tuple #[.agg (Fld.cells (mirF Fd)), .int .i64 0], .agg (Fld.cells (mirF Fd)), .int .i64 0, .tuple #[.agg Fd.cells, .int .i64 0], .agg (Fld.cells (mirF Fd)), .tuple #[.agg Fd.cells, .int .i64 0], .agg Fd.cells, .int .i64 0, .tuple #[.int .i64 (sumN Fd.s 100), .int .i64 0], .agg Fd.cells, .tuple #[.int .i64 (sumN Fd.s 100), .int .i64 0], .int .i64 (sumN Fd.s 100), .int .i64 0, .int .i64 0, .bool false, .bool false, .agg Fd.cells, .agg Fd.cells, .bool false, .bool false, .bool false, .agg Fd.cells, .agg Fd.cells, .bool true, .bool false, .bool false, .bool false, .agg Fd.cells, .bool true, .bool false, .bool false, .bool false, .int .i64 0, .int .i64 0, .bool false, .bool false, .bool false, .int .i64 0, .bool false, .bool false, .bool false, .agg (Fld.cells (mirF Fd)), .agg (Fld.cells (mirF Fd)), .bool false, .bool false, .bool false, .int .i64 0, .bool false, .bool false, .bool false, .agg Fd.cells, .agg Fd.cells, .bool false, .bool false, .bool false, .int .i64 0, .bool false, .bool false, .agg Fd.cells, .int .i64 0, .bool true, .int .i64 0, .int .i64 1, .tuple #[.agg (Fld.cells (turF Fd)), .int .i64 0], .agg Fd.cells, .tuple #[.agg (Fld.cells (turF Fd)), .int .i64 0], .agg (Fld.cells (turF Fd)), .int .i64 0, .tuple #[.agg (Fld.cells (turF Fd)), .int .i64 0], .agg Fd.cells, .tuple #[.agg (Fld.cells (turF Fd)), .int .i64 0], .agg (Fld.cells (turF Fd)), .int .i64 0, .tuple #[.int .i64 (sumN Fd.s 100), .int .i64 0], .agg (Fld.cells (turF Fd)), .tuple #[.int .i64 (sumN Fd.s 100), .int .i64 0], .int .i64 (sumN Fd.s 100), .int .i64 0, .int .i64 0, .int .i64 0, .bool false, .bool false, .int .i64 0, .bool false, .bool false, .bool false, .agg (Fld.cells (turF Fd)), .agg (Fld.cells (turF Fd)), .bool false, .bool false, .bool false, .int .i64 0, .bool false, .bool false, .bool false, .int .i64 (sumN Fd.s 100), .int .i64 (sumN Fd.s 100), .bool false, .bool false, .agg (Fld.cells (turF Fd)), undef, undef, undef, undef, undef, undef, undef, undef, undef, undef, undef, undef, undef, undef, undef, undef, undef, undef, undef, undef, undef, undef, undef, undef, undef, undef, undef, undef, undef, undef, undef, undef, undef, undef, undef, undef, undef, undef, undef, undef, undef, undef, undef, undef, undef, undef, undef, undef, undef, undef, undef, undef, undef, undef, undef, undef, undef, undef, undef, undef, undef, undef, undef, undef, undef, undef, undef, undef, undef, undef, undef, undef, undef, undef, undef, undef, undef, undef, undef, undef, undef, undef, undef, undef, undef, undef, undef, undef, undef, undef, undef, undef, undef, undef, undef, undef, undef, undef, undef, undef, undef, undef, undef, undef, undef, undef, undef, undef, undef, undef, undef, undef, undef, undef, undef, undef, undef, undef, undef, undef, undef, undef, undef, undef, undef, undef, undef, undef, undef, undef, undef, undef, undef, undef, undef, undef, undef, undef, undef, undef, undef, undef, undef, undef, undef, undef, undef, undef, undef, undef, undef, undef, undef, undef, undef, undef, undef, undef, undef, undef, undef, undef, undef, undef, undef, undef, undef, undef, undef, undef, undef, undef, undef, undef, undef, undef, undef, undef, undef, undef, undef, undef, undef, undef, undef, undef, undef, undef, undef, undef, undef, undef, undef, undef, undef, undef, undef, undef, undef], []⟩) (by kernel_rfl) ?_
     refine wp_seq ?_
     refine wsr ?_
     refine wv (.int .i64 1) ?_
     refine wv (.bool true) ?_
     refine wpList_nil (then_normal ?_)
     refine wct ?_
     refine wp_skip ?_
     refine then_normal ?_
     refine wp_seq ?_
     refine wp_block ?_
     refine wsr ?_
     refine wrow row_impl_Field B6 (by exact Fld.size_cells _) ?_
     refine wcl (iTurn_ok (turF Fd) (tur_wf hd_.ok hF_) (tur_ok hd_.ok) (cs := Fld.cells (turF (turF Fd))) rfl _) ?_
     intro w33 E24
     refine wv (.tuple #[.agg (Fld.cells (turF (turF Fd))), .int .i64 0]) ?_
     refine wv (.agg (Fld.cells (turF (turF Fd)))) ?_
     refine wv (.int .i64 0) ?_
     have H14 := (X9.ext w lo_g6 ((X8.ext w lo_g8 (H13.trans E22)).trans E23)).trans E24
     replace B1 := (X9.blk ((X8.blk (B1.ext E22) q_g1_g8).ext E23) q_g1_g6).ext E24
     replace B2 := (X9.blk ((X8.blk (B2.ext E22) q_g2_g8).ext E23) q_g2_g6).ext E24
     replace B3 := (X9.blk ((X8.blk (B3.ext E22) q_g3_g8).ext E23) q_g3_g6).ext E24
     replace B4 := (X9.blk ((X8.blk (B4.ext E22) q_g4_g8).ext E23) q_g4_g6).ext E24
     replace B5 := (X9.blk ((X8.blk (B5.ext E22) q_g5_g8).ext E23) q_g5_g6).ext E24
     replace B6 := B6.ext E24
     replace B7 := (X9.blk B7 (Ne.symm q_g6_g7)).ext E24
     replace B8 := (X9.blk B8 (Ne.symm q_g6_g8)).ext E24
     refine wnew (Fld.cells Fld.zero) Tryz.zeroValue29 zero_impl_Field ?_
     intro g9 w34 B9 E25 hg_
     have q_g1_g9 := Nat.ne_of_lt (Nat.lt_of_lt_of_le B1.lt hg_)
     have q_g2_g9 := Nat.ne_of_lt (Nat.lt_of_lt_of_le B2.lt hg_)
     have q_g3_g9 := Nat.ne_of_lt (Nat.lt_of_lt_of_le B3.lt hg_)
     have q_g4_g9 := Nat.ne_of_lt (Nat.lt_of_lt_of_le B4.lt hg_)
     have q_g5_g9 := Nat.ne_of_lt (Nat.lt_of_lt_of_le B5.lt hg_)
     have q_g6_g9 := Nat.ne_of_lt (Nat.lt_of_lt_of_le B6.lt hg_)
     have q_g7_g9 := Nat.ne_of_lt (Nat.lt_of_lt_of_le B7.lt hg_)
     have q_g8_g9 := Nat.ne_of_lt (Nat.lt_of_lt_of_le B8.lt hg_)
     have lo_g9 := Nat.le_trans (H14).size hg_
     refine wput (Fld.cells (turF (turF Fd))) row_impl_Field B9 (by exact Fld.size_cells _) (by exact Fld.size_cells _) (by exact Fld.one_cells _) ?_
     intro w35 B9_ X10
     clear B9; have B9 := B9_; clear B9_
     refine wv (.int .i64 0) ?_
     refine wpList_nil (then_normal ?_)
     refine wsr ?_
     replace B6 := X10.blk (B6.ext E25) q_g6_g9
     refine wrow row_impl_Field B6 (by exact Fld.size_cells _) ?_
     refine wcl (sTurn_ok (turF Fd) (tur_wf hd_.ok hF_) (tur_ok hd_.ok) (cs := Fld.cells (turF (turF Fd))) rfl _) ?_
     intro w36 E26
     refine wv (.tuple #[.agg (Fld.cells (turF (turF Fd))), .int .i64 0]) ?_
     refine wv (.agg (Fld.cells (turF (turF Fd)))) ?_
     refine wv (.int .i64 0) ?_
     have H15 := (X10.ext w lo_g9 (H14.trans E25)).trans E26
     replace B1 := (X10.blk (B1.ext E25) q_g1_g9).ext E26
     replace B2 := (X10.blk (B2.ext E25) q_g2_g9).ext E26
     replace B3 := (X10.blk (B3.ext E25) q_g3_g9).ext E26
     replace B4 := (X10.blk (B4.ext E25) q_g4_g9).ext E26
     replace B5 := (X10.blk (B5.ext E25) q_g5_g9).ext E26
     replace B6 := B6.ext E26
     replace B7 := (X10.blk (B7.ext E25) q_g7_g9).ext E26
     replace B8 := (X10.blk (B8.ext E25) q_g8_g9).ext E26
     replace B9 := B9.ext E26
     refine wnew (Fld.cells Fld.zero) Tryz.zeroValue29 zero_impl_Field ?_
     intro g10 w37 B10 E27 hg_
     have q_g1_g10 := Nat.ne_of_lt (Nat.lt_of_lt_of_le B1.lt hg_)
     have q_g2_g10 := Nat.ne_of_lt (Nat.lt_of_lt_of_le B2.lt hg_)
     have q_g3_g10 := Nat.ne_of_lt (Nat.lt_of_lt_of_le B3.lt hg_)
     have q_g4_g10 := Nat.ne_of_lt (Nat.lt_of_lt_of_le B4.lt hg_)
     have q_g5_g10 := Nat.ne_of_lt (Nat.lt_of_lt_of_le B5.lt hg_)
     have q_g6_g10 := Nat.ne_of_lt (Nat.lt_of_lt_of_le B6.lt hg_)
     have q_g7_g10 := Nat.ne_of_lt (Nat.lt_of_lt_of_le B7.lt hg_)
     have q_g8_g10 := Nat.ne_of_lt (Nat.lt_of_lt_of_le B8.lt hg_)
     have q_g9_g10 := Nat.ne_of_lt (Nat.lt_of_lt_of_le B9.lt hg_)
     have lo_g10 := Nat.le_trans (H15).size hg_
     refine wput (Fld.cells (turF (turF Fd))) row_impl_Field B10 (by exact Fld.size_cells _) (by exact Fld.size_cells _) (by exact Fld.one_cells _) ?_
     intro w38 B10_ X11
     clear B10; have B10 := B10_; clear B10_
     refine wv (.int .i64 0) ?_
     refine wpList_nil (then_normal ?_)
     refine wsr ?_
     refine wrow row_impl_Field B10 (by exact Fld.size_cells _) ?_
     refine wcl (iSeedsIn_ok (turF (turF Fd)) (tur_wf (tur_ok hd_.ok) (tur_wf hd_.ok hF_)) (tur_ok (tur_ok hd_.ok)) (v := sumN Fd.s 100) ((sum_tur (tur_ok hd_.ok)).trans ((sum_tur hd_.ok).trans rfl)) _) ?_
     intro w39 E28
     refine wv (.tuple #[.int .i64 (sumN Fd.s 100), .int .i64 0]) ?_
     refine wv (.int .i64 (sumN Fd.s 100)) ?_
     refine wv (.int .i64 0) ?_
     refine wv (.int .i64 (sumN Fd.s 100)) ?_
     refine wv (.int .i64 0) ?_
     refine wpList_nil (then_normal ?_)
     refine wp_seq ?_
     refine wsr ?_
     refine wv (.int .i64 0) ?_
     refine wv (.int .i64 0) ?_
     refine wvv (.bool (0 != 0)) (.bool false) (by simp) ?_
     refine wv (.bool false) ?_
     refine wv (.int .i64 0) ?_
     refine wvv (.bool (0 != 0)) (.bool false) (by simp) ?_
     refine wv (.bool false) ?_
     refine wv (.bool false) ?_
     replace B9 := (X11.blk (B9.ext E27) q_g9_g10).ext E28
     refine wrow row_impl_Field B9 (by exact Fld.size_cells _) ?_
     replace B10 := B10.ext E28
     refine wrow row_impl_Field B10 (by exact Fld.size_cells _) ?_
     refine wneA fldt_impl_Field.eg (equalIn_fld fldt_impl_Field 9997 (turF (turF Fd)) (turF (turF Fd))) ?_
     refine wbl 162 false (bnT (eqFld_s (turF (turF Fd)))) ?_
     refine wv (.bool false) ?_
     refine wv (.bool false) ?_
     refine wv (.int .i64 0) ?_
     refine wvv (.bool (0 != 0)) (.bool false) (by simp) ?_
     refine wv (.bool false) ?_
     refine wv (.bool false) ?_
     refine wv (.int .i64 (sumN Fd.s 100)) ?_
     refine wv (.int .i64 (sumN Fd.s 100)) ?_
     refine wvv (.bool ((sumN Fd.s 100) != (sumN Fd.s 100))) (.bool false) (by simp) ?_
     refine wpl_frame (a' := ⟨#[v, v2, undef, undef, .bool false, .pointer (some ⟨g1, 0, none⟩), .int .i64 c_, .pointer (some ⟨g2, 0, none⟩), .int .i64 0, .pointer (some ⟨g3, 0, none⟩), .int .i64 0, .pointer (some ⟨g4, 0, none⟩), .int .i64 0, .pointer (some ⟨g5, 0, none⟩), .int .i64 0, .int .i64 (sumN Fd.s 100), .int .i64 0, .pointer (some ⟨g6, 0, none⟩), .int .i64 1, .pointer (some ⟨g9, 0, none⟩), .int .i64 0, .pointer (some ⟨g10, 0, none⟩), .int .i64 0, .int .i64 (sumN Fd.s 100), .int .i64 0, undef, undef, undef, undef, undef, undef, undef, undef, undef, undef, undef, undef, undef, undef, undef, undef, undef, undef, undef, undef, undef, undef, undef, undef, undef, v, .bool (decide (4096 < (xs.length : Int))), .bool false, v2, .bool (decide (4096 < (ys.length : Int))), .bool (decide (4096 < (ys.length : Int))), v, .agg Fd.cells, v2, .agg Fd.cells, .int .i64 c_, .tuple #[.agg Fd.cells, .int .i64 0], .agg Fd.cells, .string (bs (fieldT Fd)), .tuple #[.agg Fd.cells, .int .i64 0], .agg Fd.cells, .int .i64 0, .tuple #[.agg (Fld.cells (mirF Fd)), .int .i64 0], .agg Fd.cells, .tuple #[.agg (Fld.cells (mirF Fd)), .int .i64 0], .agg (Fld.cells (mirF Fd)), .int .i64 0, .tuple #[.agg (Fld.cells (mirF Fd)), .int .i64 0], .agg Fd.cells, .tuple #[.agg (Fld.cells (mirF Fd)), .int .i64 0], .agg (Fld.cells (mirF Fd)), .int .i64 0, .tuple #[.agg Fd.cells, .int .i64 0], .agg (Fld.cells (mirF Fd)), .tuple #[.agg Fd.cells, .int .i64 0], .agg Fd.cells, .int .i64 0, .tuple #[.int .i64 (sumN Fd.s 100), .int .i64 0], .agg Fd.cells, .tuple #[.int .i64 (sumN Fd.s 100), .int .i64 0], .int .i64 (sumN Fd.s 100), .int .i64 0, .int .i64 0, .bool false, .bool false, .agg Fd.cells, .agg Fd.cells, .bool false, .bool false, .bool false, .agg Fd.cells, .agg Fd.cells, .bool true, .bool false, .bool false, .bool false, .agg Fd.cells, .bool true, .bool false, .bool false, .bool false, .int .i64 0, .int .i64 0, .bool false, .bool false, .bool false, .int .i64 0, .bool false, .bool false, .bool false, .agg (Fld.cells (mirF Fd)), .agg (Fld.cells (mirF Fd)), .bool false, .bool false, .bool false, .int .i64 0, .bool false, .bool false, .bool false, .agg Fd.cells, .agg Fd.cells, .bool false, .bool false, .bool false, .int .i64 0, .bool false, .bool false, .agg Fd.cells, .int .i64 1, .bool true, .int .i64 0, .int .i64 1, .tuple #[.agg (Fld.cells (turF (turF Fd))), .int .i64 0], .agg (Fld.cells (turF Fd)), .tuple #[.agg (Fld.cells (turF (turF Fd))), .int .i64 0], .agg (Fld.cells (turF (turF Fd))), .int .i64 0, .tuple #[.agg (Fld.cells (turF (turF Fd))), .int .i64 0], .agg (Fld.cells (turF Fd)), .tuple #[.agg (Fld.cells (turF (turF Fd))), .int .i64 0], .agg (Fld.cells (turF (turF Fd))), .int .i64 0, .tuple #[.int .i64 (sumN Fd.s 100), .int .i64 0], .agg (Fld.cells (turF (turF Fd))), .tuple #[.int .i64 (sumN Fd.s 100), .int .i64 0], .int .i64 (sumN Fd.s 100), .int .i64 0, .int .i64 0, .int .i64 0, .bool false, .bool false, .int .i64 0, .bool false, .bool false, .bool false, .agg (Fld.cells (turF (turF Fd))), .agg (Fld.cells (turF (turF Fd))), .bool false, .bool false, .bool false, .int .i64 0, .bool false, .bool false, .bool false, .int .i64 (sumN Fd.s 100), .int .i64 (sumN Fd.s 100), .bool false, .bool false, .agg (Fld.cells (turF Fd)), undef, undef, undef, undef, undef, undef, undef, undef, undef, undef, undef, undef, undef, undef, undef, undef, undef, undef, undef, undef, undef, undef, undef, undef, undef, undef, undef, undef, undef, undef, undef, undef, undef, undef, undef, undef, undef, undef, undef, undef, undef, undef, undef, undef, undef, undef, undef, undef, undef, undef, undef, undef, undef, undef, undef, undef, undef, undef, undef, undef, undef, undef, undef, undef, undef, undef, undef, undef, undef, undef, undef, undef, undef, undef, undef, undef, undef, undef, undef, undef, undef, undef, undef, undef, undef, undef, undef, undef, undef, undef, undef, undef, undef, undef, undef, undef, undef, undef, undef, undef, undef, undef, undef, undef, undef, undef, undef, undef, undef, undef, undef, undef, undef, undef, undef, undef, undef, undef, undef, undef, undef, undef, undef, undef, undef, undef, undef, undef, undef, undef, undef, undef, undef, undef, undef, undef, undef, undef, undef, undef, undef, undef, undef, undef, undef, undef, undef, undef, undef, undef, undef, undef, undef, undef, undef, undef, undef, undef, undef, undef, undef, undef, undef, undef, undef, undef, undef, undef, undef, undef, undef, undef, undef, undef, undef, undef, undef, undef, undef, undef, undef, undef, undef, undef, undef, undef, undef, undef, undef, undef, undef, undef, undef, undef, undef, undef, undef, undef, undef], []⟩) (by kernel_rfl) ?_
     refine wv (.bool false) ?_
     refine wpList_nil (then_normal ?_)
     refine wcf ?_
     refine wp_skip ?_
     refine then_normal ?_
     refine wp_region_lit ?_
     refine wrow row_impl_Field B10 (by exact Fld.size_cells _) ?_
     replace B6 := (X11.blk (B6.ext E27) q_g6_g10).ext E28
     refine wput (Fld.cells (turF (turF Fd))) row_impl_Field B6 (by exact Fld.size_cells _) (by exact Fld.size_cells _) (by exact Fld.one_cells _) ?_
     intro w40 B6_ X12
     clear B6; have B6 := B6_; clear B6_
     refine wpList_nil (block_normal (then_normal ?_))
     refine wp_region_lit ?_
     refine wv (.int .i64 1) ?_
     refine wv (.int .i64 2) ?_
     refine wv (.int .i64 2) ?_
     refine wpList_nil (then_normal ?_)
     refine rounds_s ?_
     refine wp_frame (a' := ⟨#[v, v2, undef, undef, .bool false, .pointer (some ⟨g1, 0, none⟩), .int .i64 c_, .pointer (some ⟨g2, 0, none⟩), .int .i64 0, .pointer (some ⟨g3, 0, none⟩), .int .i64 0, .pointer (some ⟨g4, 0, none⟩), .int .i64 0, .pointer (some ⟨g5, 0, none⟩), .int .i64 0, .int .i64 (sumN Fd.s 100), .int .i64 0, .pointer (some ⟨g6, 0, none⟩), .int .i64 2, .pointer (some ⟨g9, 0, none⟩), .int .i64 0, .pointer (some ⟨g10, 0, none⟩), .int .i64 0, .int .i64 (sumN Fd.s 100), .int .i64 0, undef, undef, undef, undef, undef, undef, undef, undef, undef, undef, undef, undef, undef, undef, undef, undef, undef, undef, undef, undef, undef, undef, undef, undef, undef, v, .bool (decide (4096 < (xs.length : Int))), .bool false, v2, .bool (decide (4096 < (ys.length : Int))), .bool (decide (4096 < (ys.length : Int))), v, .agg Fd.cells, v2, .agg Fd.cells, .int .i64 c_, .tuple #[.agg Fd.cells, .int .i64 0], .agg Fd.cells, .string (bs (fieldT Fd)), .tuple #[.agg Fd.cells, .int .i64 0], .agg Fd.cells, .int .i64 0, .tuple #[.agg (Fld.cells (mirF Fd)), .int .i64 0], .agg Fd.cells, .tuple #[.agg (Fld.cells (mirF Fd)), .int .i64 0], .agg (Fld.cells (mirF Fd)), .int .i64 0, .tuple #[.agg (Fld.cells (mirF Fd)), .int .i64 0], .agg Fd.cells, .tuple #[.agg (Fld.cells (mirF Fd)), .int .i64 0], .agg (Fld.cells (mirF Fd)), .int .i64 0, .tuple #[.agg Fd.cells, .int .i64 0], .agg (Fld.cells (mirF Fd)), .tuple #[.agg Fd.cells, .int .i64 0], .agg Fd.cells, .int .i64 0, .tuple #[.int .i64 (sumN Fd.s 100), .int .i64 0], .agg Fd.cells, .tuple #[.int .i64 (sumN Fd.s 100), .int .i64 0], .int .i64 (sumN Fd.s 100), .int .i64 0, .int .i64 0, .bool false, .bool false, .agg Fd.cells, .agg Fd.cells, .bool false, .bool false, .bool false, .agg Fd.cells, .agg Fd.cells, .bool true, .bool false, .bool false, .bool false, .agg Fd.cells, .bool true, .bool false, .bool false, .bool false, .int .i64 0, .int .i64 0, .bool false, .bool false, .bool false, .int .i64 0, .bool false, .bool false, .bool false, .agg (Fld.cells (mirF Fd)), .agg (Fld.cells (mirF Fd)), .bool false, .bool false, .bool false, .int .i64 0, .bool false, .bool false, .bool false, .agg Fd.cells, .agg Fd.cells, .bool false, .bool false, .bool false, .int .i64 0, .bool false, .bool false, .agg Fd.cells, .int .i64 1, .bool true, .int .i64 1, .int .i64 2, .tuple #[.agg (Fld.cells (turF (turF Fd))), .int .i64 0], .agg (Fld.cells (turF Fd)), .tuple #[.agg (Fld.cells (turF (turF Fd))), .int .i64 0], .agg (Fld.cells (turF (turF Fd))), .int .i64 0, .tuple #[.agg (Fld.cells (turF (turF Fd))), .int .i64 0], .agg (Fld.cells (turF Fd)), .tuple #[.agg (Fld.cells (turF (turF Fd))), .int .i64 0], .agg (Fld.cells (turF (turF Fd))), .int .i64 0, .tuple #[.int .i64 (sumN Fd.s 100), .int .i64 0], .agg (Fld.cells (turF (turF Fd))), .tuple #[.int .i64 (sumN Fd.s 100), .int .i64 0], .int .i64 (sumN Fd.s 100), .int .i64 0, .int .i64 0, .int .i64 0, .bool false, .bool false, .int .i64 0, .bool false, .bool false, .bool false, .agg (Fld.cells (turF (turF Fd))), .agg (Fld.cells (turF (turF Fd))), .bool false, .bool false, .bool false, .int .i64 0, .bool false, .bool false, .bool false, .int .i64 (sumN Fd.s 100), .int .i64 (sumN Fd.s 100), .bool false, .bool false, .agg (Fld.cells (turF (turF Fd))), undef, undef, undef, undef, undef, undef, undef, undef, undef, undef, undef, undef, undef, undef, undef, undef, undef, undef, undef, undef, undef, undef, undef, undef, undef, undef, undef, undef, undef, undef, undef, undef, undef, undef, undef, undef, undef, undef, undef, undef, undef, undef, undef, undef, undef, undef, undef, undef, undef, undef, undef, undef, undef, undef, undef, undef, undef, undef, undef, undef, undef, undef, undef, undef, undef, undef, undef, undef, undef, undef, undef, undef, undef, undef, undef, undef, undef, undef, undef, undef, undef, undef, undef, undef, undef, undef, undef, undef, undef, undef, undef, undef, undef, undef, undef, undef, undef, undef, undef, undef, undef, undef, undef, undef, undef, undef, undef, undef, undef, undef, undef, undef, undef, undef, undef, undef, undef, undef, undef, undef, undef, undef, undef, undef, undef, undef, undef, undef, undef, undef, undef, undef, undef, undef, undef, undef, undef, undef, undef, undef, undef, undef, undef, undef, undef, undef, undef, undef, undef, undef, undef, undef, undef, undef, undef, undef, undef, undef, undef, undef, undef, undef, undef, undef, undef, undef, undef, undef, undef, undef, undef, undef, undef, undef, undef, undef, undef, undef, undef, undef, undef, undef, undef, undef, undef, undef, undef, undef, undef, undef, undef, undef, undef, undef, undef, undef, undef, undef, undef], []⟩) (by kernel_rfl) ?_
     refine wp_seq ?_
     refine wsr ?_
     refine wv (.int .i64 2) ?_
     refine wv (.bool true) ?_
     refine wpList_nil (then_normal ?_)
     refine wct ?_
     refine wp_skip ?_
     refine then_normal ?_
     refine wp_seq ?_
     refine wp_block ?_
     refine wsr ?_
     refine wrow row_impl_Field B6 (by exact Fld.size_cells _) ?_
     refine wcl (iTurn_ok (turF (turF Fd)) (tur_wf (tur_ok hd_.ok) (tur_wf hd_.ok hF_)) (tur_ok (tur_ok hd_.ok)) (cs := Fld.cells (turF (turF (turF Fd)))) rfl _) ?_
     intro w41 E29
     refine wv (.tuple #[.agg (Fld.cells (turF (turF (turF Fd)))), .int .i64 0]) ?_
     refine wv (.agg (Fld.cells (turF (turF (turF Fd))))) ?_
     refine wv (.int .i64 0) ?_
     have H16 := (X12.ext w lo_g6 ((X11.ext w lo_g10 (H15.trans E27)).trans E28)).trans E29
     replace B1 := (X12.blk ((X11.blk (B1.ext E27) q_g1_g10).ext E28) q_g1_g6).ext E29
     replace B2 := (X12.blk ((X11.blk (B2.ext E27) q_g2_g10).ext E28) q_g2_g6).ext E29
     replace B3 := (X12.blk ((X11.blk (B3.ext E27) q_g3_g10).ext E28) q_g3_g6).ext E29
     replace B4 := (X12.blk ((X11.blk (B4.ext E27) q_g4_g10).ext E28) q_g4_g6).ext E29
     replace B5 := (X12.blk ((X11.blk (B5.ext E27) q_g5_g10).ext E28) q_g5_g6).ext E29
     replace B6 := B6.ext E29
     replace B7 := (X12.blk ((X11.blk (B7.ext E27) q_g7_g10).ext E28) (Ne.symm q_g6_g7)).ext E29
     replace B8 := (X12.blk ((X11.blk (B8.ext E27) q_g8_g10).ext E28) (Ne.symm q_g6_g8)).ext E29
     replace B9 := (X12.blk B9 (Ne.symm q_g6_g9)).ext E29
     replace B10 := (X12.blk B10 (Ne.symm q_g6_g10)).ext E29
     refine wnew (Fld.cells Fld.zero) Tryz.zeroValue29 zero_impl_Field ?_
     intro g11 w42 B11 E30 hg_
     have q_g1_g11 := Nat.ne_of_lt (Nat.lt_of_lt_of_le B1.lt hg_)
     have q_g2_g11 := Nat.ne_of_lt (Nat.lt_of_lt_of_le B2.lt hg_)
     have q_g3_g11 := Nat.ne_of_lt (Nat.lt_of_lt_of_le B3.lt hg_)
     have q_g4_g11 := Nat.ne_of_lt (Nat.lt_of_lt_of_le B4.lt hg_)
     have q_g5_g11 := Nat.ne_of_lt (Nat.lt_of_lt_of_le B5.lt hg_)
     have q_g6_g11 := Nat.ne_of_lt (Nat.lt_of_lt_of_le B6.lt hg_)
     have q_g7_g11 := Nat.ne_of_lt (Nat.lt_of_lt_of_le B7.lt hg_)
     have q_g8_g11 := Nat.ne_of_lt (Nat.lt_of_lt_of_le B8.lt hg_)
     have q_g9_g11 := Nat.ne_of_lt (Nat.lt_of_lt_of_le B9.lt hg_)
     have q_g10_g11 := Nat.ne_of_lt (Nat.lt_of_lt_of_le B10.lt hg_)
     have lo_g11 := Nat.le_trans (H16).size hg_
     refine wput (Fld.cells (turF (turF (turF Fd)))) row_impl_Field B11 (by exact Fld.size_cells _) (by exact Fld.size_cells _) (by exact Fld.one_cells _) ?_
     intro w43 B11_ X13
     clear B11; have B11 := B11_; clear B11_
     refine wv (.int .i64 0) ?_
     refine wpList_nil (then_normal ?_)
     refine wsr ?_
     replace B6 := X13.blk (B6.ext E30) q_g6_g11
     refine wrow row_impl_Field B6 (by exact Fld.size_cells _) ?_
     refine wcl (sTurn_ok (turF (turF Fd)) (tur_wf (tur_ok hd_.ok) (tur_wf hd_.ok hF_)) (tur_ok (tur_ok hd_.ok)) (cs := Fld.cells (turF (turF (turF Fd)))) rfl _) ?_
     intro w44 E31
     refine wv (.tuple #[.agg (Fld.cells (turF (turF (turF Fd)))), .int .i64 0]) ?_
     refine wv (.agg (Fld.cells (turF (turF (turF Fd))))) ?_
     refine wv (.int .i64 0) ?_
     have H17 := (X13.ext w lo_g11 (H16.trans E30)).trans E31
     replace B1 := (X13.blk (B1.ext E30) q_g1_g11).ext E31
     replace B2 := (X13.blk (B2.ext E30) q_g2_g11).ext E31
     replace B3 := (X13.blk (B3.ext E30) q_g3_g11).ext E31
     replace B4 := (X13.blk (B4.ext E30) q_g4_g11).ext E31
     replace B5 := (X13.blk (B5.ext E30) q_g5_g11).ext E31
     replace B6 := B6.ext E31
     replace B7 := (X13.blk (B7.ext E30) q_g7_g11).ext E31
     replace B8 := (X13.blk (B8.ext E30) q_g8_g11).ext E31
     replace B9 := (X13.blk (B9.ext E30) q_g9_g11).ext E31
     replace B10 := (X13.blk (B10.ext E30) q_g10_g11).ext E31
     replace B11 := B11.ext E31
     refine wnew (Fld.cells Fld.zero) Tryz.zeroValue29 zero_impl_Field ?_
     intro g12 w45 B12 E32 hg_
     have q_g1_g12 := Nat.ne_of_lt (Nat.lt_of_lt_of_le B1.lt hg_)
     have q_g2_g12 := Nat.ne_of_lt (Nat.lt_of_lt_of_le B2.lt hg_)
     have q_g3_g12 := Nat.ne_of_lt (Nat.lt_of_lt_of_le B3.lt hg_)
     have q_g4_g12 := Nat.ne_of_lt (Nat.lt_of_lt_of_le B4.lt hg_)
     have q_g5_g12 := Nat.ne_of_lt (Nat.lt_of_lt_of_le B5.lt hg_)
     have q_g6_g12 := Nat.ne_of_lt (Nat.lt_of_lt_of_le B6.lt hg_)
     have q_g7_g12 := Nat.ne_of_lt (Nat.lt_of_lt_of_le B7.lt hg_)
     have q_g8_g12 := Nat.ne_of_lt (Nat.lt_of_lt_of_le B8.lt hg_)
     have q_g9_g12 := Nat.ne_of_lt (Nat.lt_of_lt_of_le B9.lt hg_)
     have q_g10_g12 := Nat.ne_of_lt (Nat.lt_of_lt_of_le B10.lt hg_)
     have q_g11_g12 := Nat.ne_of_lt (Nat.lt_of_lt_of_le B11.lt hg_)
     have lo_g12 := Nat.le_trans (H17).size hg_
     refine wput (Fld.cells (turF (turF (turF Fd)))) row_impl_Field B12 (by exact Fld.size_cells _) (by exact Fld.size_cells _) (by exact Fld.one_cells _) ?_
     intro w46 B12_ X14
     clear B12; have B12 := B12_; clear B12_
     refine wv (.int .i64 0) ?_
     refine wpList_nil (then_normal ?_)
     refine wsr ?_
     refine wrow row_impl_Field B12 (by exact Fld.size_cells _) ?_
     refine wcl (iSeedsIn_ok (turF (turF (turF Fd))) (tur_wf (tur_ok (tur_ok hd_.ok)) (tur_wf (tur_ok hd_.ok) (tur_wf hd_.ok hF_))) (tur_ok (tur_ok (tur_ok hd_.ok))) (v := sumN Fd.s 100) ((sum_tur (tur_ok (tur_ok hd_.ok))).trans ((sum_tur (tur_ok hd_.ok)).trans ((sum_tur hd_.ok).trans rfl))) _) ?_
     intro w47 E33
     refine wv (.tuple #[.int .i64 (sumN Fd.s 100), .int .i64 0]) ?_
     refine wv (.int .i64 (sumN Fd.s 100)) ?_
     refine wv (.int .i64 0) ?_
     refine wv (.int .i64 (sumN Fd.s 100)) ?_
     refine wv (.int .i64 0) ?_
     refine wpList_nil (then_normal ?_)
     refine wp_seq ?_
     refine wsr ?_
     refine wv (.int .i64 0) ?_
     refine wv (.int .i64 0) ?_
     refine wvv (.bool (0 != 0)) (.bool false) (by simp) ?_
     refine wv (.bool false) ?_
     refine wv (.int .i64 0) ?_
     refine wvv (.bool (0 != 0)) (.bool false) (by simp) ?_
     refine wv (.bool false) ?_
     refine wv (.bool false) ?_
     replace B11 := (X14.blk (B11.ext E32) q_g11_g12).ext E33
     refine wrow row_impl_Field B11 (by exact Fld.size_cells _) ?_
     replace B12 := B12.ext E33
     refine wrow row_impl_Field B12 (by exact Fld.size_cells _) ?_
     refine wneA fldt_impl_Field.eg (equalIn_fld fldt_impl_Field 9997 (turF (turF (turF Fd))) (turF (turF (turF Fd)))) ?_
     refine wbl 162 false (bnT (eqFld_s (turF (turF (turF Fd))))) ?_
     refine wv (.bool false) ?_
     refine wv (.bool false) ?_
     refine wv (.int .i64 0) ?_
     refine wvv (.bool (0 != 0)) (.bool false) (by simp) ?_
     refine wv (.bool false) ?_
     refine wv (.bool false) ?_
     refine wv (.int .i64 (sumN Fd.s 100)) ?_
     refine wv (.int .i64 (sumN Fd.s 100)) ?_
     refine wvv (.bool ((sumN Fd.s 100) != (sumN Fd.s 100))) (.bool false) (by simp) ?_
     refine wpl_frame (a' := ⟨#[v, v2, undef, undef, .bool false, .pointer (some ⟨g1, 0, none⟩), .int .i64 c_, .pointer (some ⟨g2, 0, none⟩), .int .i64 0, .pointer (some ⟨g3, 0, none⟩), .int .i64 0, .pointer (some ⟨g4, 0, none⟩), .int .i64 0, .pointer (some ⟨g5, 0, none⟩), .int .i64 0, .int .i64 (sumN Fd.s 100), .int .i64 0, .pointer (some ⟨g6, 0, none⟩), .int .i64 2, .pointer (some ⟨g11, 0, none⟩), .int .i64 0, .pointer (some ⟨g12, 0, none⟩), .int .i64 0, .int .i64 (sumN Fd.s 100), .int .i64 0, undef, undef, undef, undef, undef, undef, undef, undef, undef, undef, undef, undef, undef, undef, undef, undef, undef, undef, undef, undef, undef, undef, undef, undef, undef, v, .bool (decide (4096 < (xs.length : Int))), .bool false, v2, .bool (decide (4096 < (ys.length : Int))), .bool (decide (4096 < (ys.length : Int))), v, .agg Fd.cells, v2, .agg Fd.cells, .int .i64 c_, .tuple #[.agg Fd.cells, .int .i64 0], .agg Fd.cells, .string (bs (fieldT Fd)), .tuple #[.agg Fd.cells, .int .i64 0], .agg Fd.cells, .int .i64 0, .tuple #[.agg (Fld.cells (mirF Fd)), .int .i64 0], .agg Fd.cells, .tuple #[.agg (Fld.cells (mirF Fd)), .int .i64 0], .agg (Fld.cells (mirF Fd)), .int .i64 0, .tuple #[.agg (Fld.cells (mirF Fd)), .int .i64 0], .agg Fd.cells, .tuple #[.agg (Fld.cells (mirF Fd)), .int .i64 0], .agg (Fld.cells (mirF Fd)), .int .i64 0, .tuple #[.agg Fd.cells, .int .i64 0], .agg (Fld.cells (mirF Fd)), .tuple #[.agg Fd.cells, .int .i64 0], .agg Fd.cells, .int .i64 0, .tuple #[.int .i64 (sumN Fd.s 100), .int .i64 0], .agg Fd.cells, .tuple #[.int .i64 (sumN Fd.s 100), .int .i64 0], .int .i64 (sumN Fd.s 100), .int .i64 0, .int .i64 0, .bool false, .bool false, .agg Fd.cells, .agg Fd.cells, .bool false, .bool false, .bool false, .agg Fd.cells, .agg Fd.cells, .bool true, .bool false, .bool false, .bool false, .agg Fd.cells, .bool true, .bool false, .bool false, .bool false, .int .i64 0, .int .i64 0, .bool false, .bool false, .bool false, .int .i64 0, .bool false, .bool false, .bool false, .agg (Fld.cells (mirF Fd)), .agg (Fld.cells (mirF Fd)), .bool false, .bool false, .bool false, .int .i64 0, .bool false, .bool false, .bool false, .agg Fd.cells, .agg Fd.cells, .bool false, .bool false, .bool false, .int .i64 0, .bool false, .bool false, .agg Fd.cells, .int .i64 2, .bool true, .int .i64 1, .int .i64 2, .tuple #[.agg (Fld.cells (turF (turF (turF Fd)))), .int .i64 0], .agg (Fld.cells (turF (turF Fd))), .tuple #[.agg (Fld.cells (turF (turF (turF Fd)))), .int .i64 0], .agg (Fld.cells (turF (turF (turF Fd)))), .int .i64 0, .tuple #[.agg (Fld.cells (turF (turF (turF Fd)))), .int .i64 0], .agg (Fld.cells (turF (turF Fd))), .tuple #[.agg (Fld.cells (turF (turF (turF Fd)))), .int .i64 0], .agg (Fld.cells (turF (turF (turF Fd)))), .int .i64 0, .tuple #[.int .i64 (sumN Fd.s 100), .int .i64 0], .agg (Fld.cells (turF (turF (turF Fd)))), .tuple #[.int .i64 (sumN Fd.s 100), .int .i64 0], .int .i64 (sumN Fd.s 100), .int .i64 0, .int .i64 0, .int .i64 0, .bool false, .bool false, .int .i64 0, .bool false, .bool false, .bool false, .agg (Fld.cells (turF (turF (turF Fd)))), .agg (Fld.cells (turF (turF (turF Fd)))), .bool false, .bool false, .bool false, .int .i64 0, .bool false, .bool false, .bool false, .int .i64 (sumN Fd.s 100), .int .i64 (sumN Fd.s 100), .bool false, .bool false, .agg (Fld.cells (turF (turF Fd))), undef, undef, undef, undef, undef, undef, undef, undef, undef, undef, undef, undef, undef, undef, undef, undef, undef, undef, undef, undef, undef, undef, undef, undef, undef, undef, undef, undef, undef, undef, undef, undef, undef, undef, undef, undef, undef, undef, undef, undef, undef, undef, undef, undef, undef, undef, undef, undef, undef, undef, undef, undef, undef, undef, undef, undef, undef, undef, undef, undef, undef, undef, undef, undef, undef, undef, undef, undef, undef, undef, undef, undef, undef, undef, undef, undef, undef, undef, undef, undef, undef, undef, undef, undef, undef, undef, undef, undef, undef, undef, undef, undef, undef, undef, undef, undef, undef, undef, undef, undef, undef, undef, undef, undef, undef, undef, undef, undef, undef, undef, undef, undef, undef, undef, undef, undef, undef, undef, undef, undef, undef, undef, undef, undef, undef, undef, undef, undef, undef, undef, undef, undef, undef, undef, undef, undef, undef, undef, undef, undef, undef, undef, undef, undef, undef, undef, undef, undef, undef, undef, undef, undef, undef, undef, undef, undef, undef, undef, undef, undef, undef, undef, undef, undef, undef, undef, undef, undef, undef, undef, undef, undef, undef, undef, undef, undef, undef, undef, undef, undef, undef, undef, undef, undef, undef, undef, undef, undef, undef, undef, undef, undef, undef, undef, undef, undef, undef, undef, undef], []⟩) (by kernel_rfl) ?_
     refine wv (.bool false) ?_
     refine wpList_nil (then_normal ?_)
     refine wcf ?_
     refine wp_skip ?_
     refine then_normal ?_
     refine wp_region_lit ?_
     refine wrow row_impl_Field B12 (by exact Fld.size_cells _) ?_
     replace B6 := (X14.blk (B6.ext E32) q_g6_g12).ext E33
     refine wput (Fld.cells (turF (turF (turF Fd)))) row_impl_Field B6 (by exact Fld.size_cells _) (by exact Fld.size_cells _) (by exact Fld.one_cells _) ?_
     intro w48 B6_ X15
     clear B6; have B6 := B6_; clear B6_
     refine wpList_nil (block_normal (then_normal ?_))
     refine wp_region_lit ?_
     refine wv (.int .i64 2) ?_
     refine wv (.int .i64 3) ?_
     refine wv (.int .i64 3) ?_
     refine wpList_nil (then_normal ?_)
     refine rounds_s ?_
     refine wp_frame (a' := ⟨#[v, v2, undef, undef, .bool false, .pointer (some ⟨g1, 0, none⟩), .int .i64 c_, .pointer (some ⟨g2, 0, none⟩), .int .i64 0, .pointer (some ⟨g3, 0, none⟩), .int .i64 0, .pointer (some ⟨g4, 0, none⟩), .int .i64 0, .pointer (some ⟨g5, 0, none⟩), .int .i64 0, .int .i64 (sumN Fd.s 100), .int .i64 0, .pointer (some ⟨g6, 0, none⟩), .int .i64 3, .pointer (some ⟨g11, 0, none⟩), .int .i64 0, .pointer (some ⟨g12, 0, none⟩), .int .i64 0, .int .i64 (sumN Fd.s 100), .int .i64 0, undef, undef, undef, undef, undef, undef, undef, undef, undef, undef, undef, undef, undef, undef, undef, undef, undef, undef, undef, undef, undef, undef, undef, undef, undef, v, .bool (decide (4096 < (xs.length : Int))), .bool false, v2, .bool (decide (4096 < (ys.length : Int))), .bool (decide (4096 < (ys.length : Int))), v, .agg Fd.cells, v2, .agg Fd.cells, .int .i64 c_, .tuple #[.agg Fd.cells, .int .i64 0], .agg Fd.cells, .string (bs (fieldT Fd)), .tuple #[.agg Fd.cells, .int .i64 0], .agg Fd.cells, .int .i64 0, .tuple #[.agg (Fld.cells (mirF Fd)), .int .i64 0], .agg Fd.cells, .tuple #[.agg (Fld.cells (mirF Fd)), .int .i64 0], .agg (Fld.cells (mirF Fd)), .int .i64 0, .tuple #[.agg (Fld.cells (mirF Fd)), .int .i64 0], .agg Fd.cells, .tuple #[.agg (Fld.cells (mirF Fd)), .int .i64 0], .agg (Fld.cells (mirF Fd)), .int .i64 0, .tuple #[.agg Fd.cells, .int .i64 0], .agg (Fld.cells (mirF Fd)), .tuple #[.agg Fd.cells, .int .i64 0], .agg Fd.cells, .int .i64 0, .tuple #[.int .i64 (sumN Fd.s 100), .int .i64 0], .agg Fd.cells, .tuple #[.int .i64 (sumN Fd.s 100), .int .i64 0], .int .i64 (sumN Fd.s 100), .int .i64 0, .int .i64 0, .bool false, .bool false, .agg Fd.cells, .agg Fd.cells, .bool false, .bool false, .bool false, .agg Fd.cells, .agg Fd.cells, .bool true, .bool false, .bool false, .bool false, .agg Fd.cells, .bool true, .bool false, .bool false, .bool false, .int .i64 0, .int .i64 0, .bool false, .bool false, .bool false, .int .i64 0, .bool false, .bool false, .bool false, .agg (Fld.cells (mirF Fd)), .agg (Fld.cells (mirF Fd)), .bool false, .bool false, .bool false, .int .i64 0, .bool false, .bool false, .bool false, .agg Fd.cells, .agg Fd.cells, .bool false, .bool false, .bool false, .int .i64 0, .bool false, .bool false, .agg Fd.cells, .int .i64 2, .bool true, .int .i64 2, .int .i64 3, .tuple #[.agg (Fld.cells (turF (turF (turF Fd)))), .int .i64 0], .agg (Fld.cells (turF (turF Fd))), .tuple #[.agg (Fld.cells (turF (turF (turF Fd)))), .int .i64 0], .agg (Fld.cells (turF (turF (turF Fd)))), .int .i64 0, .tuple #[.agg (Fld.cells (turF (turF (turF Fd)))), .int .i64 0], .agg (Fld.cells (turF (turF Fd))), .tuple #[.agg (Fld.cells (turF (turF (turF Fd)))), .int .i64 0], .agg (Fld.cells (turF (turF (turF Fd)))), .int .i64 0, .tuple #[.int .i64 (sumN Fd.s 100), .int .i64 0], .agg (Fld.cells (turF (turF (turF Fd)))), .tuple #[.int .i64 (sumN Fd.s 100), .int .i64 0], .int .i64 (sumN Fd.s 100), .int .i64 0, .int .i64 0, .int .i64 0, .bool false, .bool false, .int .i64 0, .bool false, .bool false, .bool false, .agg (Fld.cells (turF (turF (turF Fd)))), .agg (Fld.cells (turF (turF (turF Fd)))), .bool false, .bool false, .bool false, .int .i64 0, .bool false, .bool false, .bool false, .int .i64 (sumN Fd.s 100), .int .i64 (sumN Fd.s 100), .bool false, .bool false, .agg (Fld.cells (turF (turF (turF Fd)))), undef, undef, undef, undef, undef, undef, undef, undef, undef, undef, undef, undef, undef, undef, undef, undef, undef, undef, undef, undef, undef, undef, undef, undef, undef, undef, undef, undef, undef, undef, undef, undef, undef, undef, undef, undef, undef, undef, undef, undef, undef, undef, undef, undef, undef, undef, undef, undef, undef, undef, undef, undef, undef, undef, undef, undef, undef, undef, undef, undef, undef, undef, undef, undef, undef, undef, undef, undef, undef, undef, undef, undef, undef, undef, undef, undef, undef, undef, undef, undef, undef, undef, undef, undef, undef, undef, undef, undef, undef, undef, undef, undef, undef, undef, undef, undef, undef, undef, undef, undef, undef, undef, undef, undef, undef, undef, undef, undef, undef, undef, undef, undef, undef, undef, undef, undef, undef, undef, undef, undef, undef, undef, undef, undef, undef, undef, undef, undef, undef, undef, undef, undef, undef, undef, undef, undef, undef, undef, undef, undef, undef, undef, undef, undef, undef, undef, undef, undef, undef, undef, undef, undef, undef, undef, undef, undef, undef, undef, undef, undef, undef, undef, undef, undef, undef, undef, undef, undef, undef, undef, undef, undef, undef, undef, undef, undef, undef, undef, undef, undef, undef, undef, undef, undef, undef, undef, undef, undef, undef, undef, undef, undef, undef, undef, undef, undef, undef, undef, undef], []⟩) (by kernel_rfl) ?_
     refine wp_seq ?_
     refine wsr ?_
     refine wv (.int .i64 3) ?_
     refine wv (.bool true) ?_
     refine wpList_nil (then_normal ?_)
     refine wct ?_
     refine wp_skip ?_
     refine then_normal ?_
     refine wp_seq ?_
     refine wp_block ?_
     refine wsr ?_
     refine wrow row_impl_Field B6 (by exact Fld.size_cells _) ?_
     refine wcl (iTurn_ok (turF (turF (turF Fd))) (tur_wf (tur_ok (tur_ok hd_.ok)) (tur_wf (tur_ok hd_.ok) (tur_wf hd_.ok hF_))) (tur_ok (tur_ok (tur_ok hd_.ok))) (cs := Fld.cells Fd) (tur4 hd_.ok) _) ?_
     intro w49 E34
     refine wv (.tuple #[.agg Fd.cells, .int .i64 0]) ?_
     refine wv (.agg Fd.cells) ?_
     refine wv (.int .i64 0) ?_
     have H18 := (X15.ext w lo_g6 ((X14.ext w lo_g12 (H17.trans E32)).trans E33)).trans E34
     replace B1 := (X15.blk ((X14.blk (B1.ext E32) q_g1_g12).ext E33) q_g1_g6).ext E34
     replace B2 := (X15.blk ((X14.blk (B2.ext E32) q_g2_g12).ext E33) q_g2_g6).ext E34
     replace B3 := (X15.blk ((X14.blk (B3.ext E32) q_g3_g12).ext E33) q_g3_g6).ext E34
     replace B4 := (X15.blk ((X14.blk (B4.ext E32) q_g4_g12).ext E33) q_g4_g6).ext E34
     replace B5 := (X15.blk ((X14.blk (B5.ext E32) q_g5_g12).ext E33) q_g5_g6).ext E34
     replace B6 := B6.ext E34
     replace B7 := (X15.blk ((X14.blk (B7.ext E32) q_g7_g12).ext E33) (Ne.symm q_g6_g7)).ext E34
     replace B8 := (X15.blk ((X14.blk (B8.ext E32) q_g8_g12).ext E33) (Ne.symm q_g6_g8)).ext E34
     replace B9 := (X15.blk ((X14.blk (B9.ext E32) q_g9_g12).ext E33) (Ne.symm q_g6_g9)).ext E34
     replace B10 := (X15.blk ((X14.blk (B10.ext E32) q_g10_g12).ext E33) (Ne.symm q_g6_g10)).ext E34
     replace B11 := (X15.blk B11 (Ne.symm q_g6_g11)).ext E34
     replace B12 := (X15.blk B12 (Ne.symm q_g6_g12)).ext E34
     refine wnew (Fld.cells Fld.zero) Tryz.zeroValue29 zero_impl_Field ?_
     intro g13 w50 B13 E35 hg_
     have q_g1_g13 := Nat.ne_of_lt (Nat.lt_of_lt_of_le B1.lt hg_)
     have q_g2_g13 := Nat.ne_of_lt (Nat.lt_of_lt_of_le B2.lt hg_)
     have q_g3_g13 := Nat.ne_of_lt (Nat.lt_of_lt_of_le B3.lt hg_)
     have q_g4_g13 := Nat.ne_of_lt (Nat.lt_of_lt_of_le B4.lt hg_)
     have q_g5_g13 := Nat.ne_of_lt (Nat.lt_of_lt_of_le B5.lt hg_)
     have q_g6_g13 := Nat.ne_of_lt (Nat.lt_of_lt_of_le B6.lt hg_)
     have q_g7_g13 := Nat.ne_of_lt (Nat.lt_of_lt_of_le B7.lt hg_)
     have q_g8_g13 := Nat.ne_of_lt (Nat.lt_of_lt_of_le B8.lt hg_)
     have q_g9_g13 := Nat.ne_of_lt (Nat.lt_of_lt_of_le B9.lt hg_)
     have q_g10_g13 := Nat.ne_of_lt (Nat.lt_of_lt_of_le B10.lt hg_)
     have q_g11_g13 := Nat.ne_of_lt (Nat.lt_of_lt_of_le B11.lt hg_)
     have q_g12_g13 := Nat.ne_of_lt (Nat.lt_of_lt_of_le B12.lt hg_)
     have lo_g13 := Nat.le_trans (H18).size hg_
     refine wput Fd.cells row_impl_Field B13 (by exact Fld.size_cells _) (by exact Fld.size_cells _) (by exact Fld.one_cells _) ?_
     intro w51 B13_ X16
     clear B13; have B13 := B13_; clear B13_
     refine wv (.int .i64 0) ?_
     refine wpList_nil (then_normal ?_)
     refine wsr ?_
     replace B6 := X16.blk (B6.ext E35) q_g6_g13
     refine wrow row_impl_Field B6 (by exact Fld.size_cells _) ?_
     refine wcl (sTurn_ok (turF (turF (turF Fd))) (tur_wf (tur_ok (tur_ok hd_.ok)) (tur_wf (tur_ok hd_.ok) (tur_wf hd_.ok hF_))) (tur_ok (tur_ok (tur_ok hd_.ok))) (cs := Fld.cells Fd) (tur4 hd_.ok) _) ?_
     intro w52 E36
     refine wv (.tuple #[.agg Fd.cells, .int .i64 0]) ?_
     refine wv (.agg Fd.cells) ?_
     refine wv (.int .i64 0) ?_
     have H19 := (X16.ext w lo_g13 (H18.trans E35)).trans E36
     replace B1 := (X16.blk (B1.ext E35) q_g1_g13).ext E36
     replace B2 := (X16.blk (B2.ext E35) q_g2_g13).ext E36
     replace B3 := (X16.blk (B3.ext E35) q_g3_g13).ext E36
     replace B4 := (X16.blk (B4.ext E35) q_g4_g13).ext E36
     replace B5 := (X16.blk (B5.ext E35) q_g5_g13).ext E36
     replace B6 := B6.ext E36
     replace B7 := (X16.blk (B7.ext E35) q_g7_g13).ext E36
     replace B8 := (X16.blk (B8.ext E35) q_g8_g13).ext E36
     replace B9 := (X16.blk (B9.ext E35) q_g9_g13).ext E36
     replace B10 := (X16.blk (B10.ext E35) q_g10_g13).ext E36
     replace B11 := (X16.blk (B11.ext E35) q_g11_g13).ext E36
     replace B12 := (X16.blk (B12.ext E35) q_g12_g13).ext E36
     replace B13 := B13.ext E36
     refine wnew (Fld.cells Fld.zero) Tryz.zeroValue29 zero_impl_Field ?_
     intro g14 w53 B14 E37 hg_
     have q_g1_g14 := Nat.ne_of_lt (Nat.lt_of_lt_of_le B1.lt hg_)
     have q_g2_g14 := Nat.ne_of_lt (Nat.lt_of_lt_of_le B2.lt hg_)
     have q_g3_g14 := Nat.ne_of_lt (Nat.lt_of_lt_of_le B3.lt hg_)
     have q_g4_g14 := Nat.ne_of_lt (Nat.lt_of_lt_of_le B4.lt hg_)
     have q_g5_g14 := Nat.ne_of_lt (Nat.lt_of_lt_of_le B5.lt hg_)
     have q_g6_g14 := Nat.ne_of_lt (Nat.lt_of_lt_of_le B6.lt hg_)
     have q_g7_g14 := Nat.ne_of_lt (Nat.lt_of_lt_of_le B7.lt hg_)
     have q_g8_g14 := Nat.ne_of_lt (Nat.lt_of_lt_of_le B8.lt hg_)
     have q_g9_g14 := Nat.ne_of_lt (Nat.lt_of_lt_of_le B9.lt hg_)
     have q_g10_g14 := Nat.ne_of_lt (Nat.lt_of_lt_of_le B10.lt hg_)
     have q_g11_g14 := Nat.ne_of_lt (Nat.lt_of_lt_of_le B11.lt hg_)
     have q_g12_g14 := Nat.ne_of_lt (Nat.lt_of_lt_of_le B12.lt hg_)
     have q_g13_g14 := Nat.ne_of_lt (Nat.lt_of_lt_of_le B13.lt hg_)
     have lo_g14 := Nat.le_trans (H19).size hg_
     refine wput Fd.cells row_impl_Field B14 (by exact Fld.size_cells _) (by exact Fld.size_cells _) (by exact Fld.one_cells _) ?_
     intro w54 B14_ X17
     clear B14; have B14 := B14_; clear B14_
     refine wv (.int .i64 0) ?_
     refine wpList_nil (then_normal ?_)
     refine wsr ?_
     refine wrow row_impl_Field B14 (by exact Fld.size_cells _) ?_
     refine wcl (iSeedsIn_ok Fd hF_ hd_.ok (v := sumN Fd.s 100) rfl _) ?_
     intro w55 E38
     refine wv (.tuple #[.int .i64 (sumN Fd.s 100), .int .i64 0]) ?_
     refine wv (.int .i64 (sumN Fd.s 100)) ?_
     refine wv (.int .i64 0) ?_
     refine wv (.int .i64 (sumN Fd.s 100)) ?_
     refine wv (.int .i64 0) ?_
     refine wpList_nil (then_normal ?_)
     refine wp_seq ?_
     refine wsr ?_
     refine wv (.int .i64 0) ?_
     refine wv (.int .i64 0) ?_
     refine wvv (.bool (0 != 0)) (.bool false) (by simp) ?_
     refine wv (.bool false) ?_
     refine wv (.int .i64 0) ?_
     refine wvv (.bool (0 != 0)) (.bool false) (by simp) ?_
     refine wv (.bool false) ?_
     refine wv (.bool false) ?_
     replace B13 := (X17.blk (B13.ext E37) q_g13_g14).ext E38
     refine wrow row_impl_Field B13 (by exact Fld.size_cells _) ?_
     replace B14 := B14.ext E38
     refine wrow row_impl_Field B14 (by exact Fld.size_cells _) ?_
     refine wneA fldt_impl_Field.eg (equalIn_fld fldt_impl_Field 9997 Fd Fd) ?_
     refine wbl 162 false (bnT (eqFld_s Fd)) ?_
     refine wv (.bool false) ?_
     refine wv (.bool false) ?_
     refine wv (.int .i64 0) ?_
     refine wvv (.bool (0 != 0)) (.bool false) (by simp) ?_
     refine wv (.bool false) ?_
     refine wv (.bool false) ?_
     refine wv (.int .i64 (sumN Fd.s 100)) ?_
     refine wv (.int .i64 (sumN Fd.s 100)) ?_
     refine wvv (.bool ((sumN Fd.s 100) != (sumN Fd.s 100))) (.bool false) (by simp) ?_
     refine wpl_frame (a' := ⟨#[v, v2, undef, undef, .bool false, .pointer (some ⟨g1, 0, none⟩), .int .i64 c_, .pointer (some ⟨g2, 0, none⟩), .int .i64 0, .pointer (some ⟨g3, 0, none⟩), .int .i64 0, .pointer (some ⟨g4, 0, none⟩), .int .i64 0, .pointer (some ⟨g5, 0, none⟩), .int .i64 0, .int .i64 (sumN Fd.s 100), .int .i64 0, .pointer (some ⟨g6, 0, none⟩), .int .i64 3, .pointer (some ⟨g13, 0, none⟩), .int .i64 0, .pointer (some ⟨g14, 0, none⟩), .int .i64 0, .int .i64 (sumN Fd.s 100), .int .i64 0, undef, undef, undef, undef, undef, undef, undef, undef, undef, undef, undef, undef, undef, undef, undef, undef, undef, undef, undef, undef, undef, undef, undef, undef, undef, v, .bool (decide (4096 < (xs.length : Int))), .bool false, v2, .bool (decide (4096 < (ys.length : Int))), .bool (decide (4096 < (ys.length : Int))), v, .agg Fd.cells, v2, .agg Fd.cells, .int .i64 c_, .tuple #[.agg Fd.cells, .int .i64 0], .agg Fd.cells, .string (bs (fieldT Fd)), .tuple #[.agg Fd.cells, .int .i64 0], .agg Fd.cells, .int .i64 0, .tuple #[.agg (Fld.cells (mirF Fd)), .int .i64 0], .agg Fd.cells, .tuple #[.agg (Fld.cells (mirF Fd)), .int .i64 0], .agg (Fld.cells (mirF Fd)), .int .i64 0, .tuple #[.agg (Fld.cells (mirF Fd)), .int .i64 0], .agg Fd.cells, .tuple #[.agg (Fld.cells (mirF Fd)), .int .i64 0], .agg (Fld.cells (mirF Fd)), .int .i64 0, .tuple #[.agg Fd.cells, .int .i64 0], .agg (Fld.cells (mirF Fd)), .tuple #[.agg Fd.cells, .int .i64 0], .agg Fd.cells, .int .i64 0, .tuple #[.int .i64 (sumN Fd.s 100), .int .i64 0], .agg Fd.cells, .tuple #[.int .i64 (sumN Fd.s 100), .int .i64 0], .int .i64 (sumN Fd.s 100), .int .i64 0, .int .i64 0, .bool false, .bool false, .agg Fd.cells, .agg Fd.cells, .bool false, .bool false, .bool false, .agg Fd.cells, .agg Fd.cells, .bool true, .bool false, .bool false, .bool false, .agg Fd.cells, .bool true, .bool false, .bool false, .bool false, .int .i64 0, .int .i64 0, .bool false, .bool false, .bool false, .int .i64 0, .bool false, .bool false, .bool false, .agg (Fld.cells (mirF Fd)), .agg (Fld.cells (mirF Fd)), .bool false, .bool false, .bool false, .int .i64 0, .bool false, .bool false, .bool false, .agg Fd.cells, .agg Fd.cells, .bool false, .bool false, .bool false, .int .i64 0, .bool false, .bool false, .agg Fd.cells, .int .i64 3, .bool true, .int .i64 2, .int .i64 3, .tuple #[.agg Fd.cells, .int .i64 0], .agg (Fld.cells (turF (turF (turF Fd)))), .tuple #[.agg Fd.cells, .int .i64 0], .agg Fd.cells, .int .i64 0, .tuple #[.agg Fd.cells, .int .i64 0], .agg (Fld.cells (turF (turF (turF Fd)))), .tuple #[.agg Fd.cells, .int .i64 0], .agg Fd.cells, .int .i64 0, .tuple #[.int .i64 (sumN Fd.s 100), .int .i64 0], .agg Fd.cells, .tuple #[.int .i64 (sumN Fd.s 100), .int .i64 0], .int .i64 (sumN Fd.s 100), .int .i64 0, .int .i64 0, .int .i64 0, .bool false, .bool false, .int .i64 0, .bool false, .bool false, .bool false, .agg Fd.cells, .agg Fd.cells, .bool false, .bool false, .bool false, .int .i64 0, .bool false, .bool false, .bool false, .int .i64 (sumN Fd.s 100), .int .i64 (sumN Fd.s 100), .bool false, .bool false, .agg (Fld.cells (turF (turF (turF Fd)))), undef, undef, undef, undef, undef, undef, undef, undef, undef, undef, undef, undef, undef, undef, undef, undef, undef, undef, undef, undef, undef, undef, undef, undef, undef, undef, undef, undef, undef, undef, undef, undef, undef, undef, undef, undef, undef, undef, undef, undef, undef, undef, undef, undef, undef, undef, undef, undef, undef, undef, undef, undef, undef, undef, undef, undef, undef, undef, undef, undef, undef, undef, undef, undef, undef, undef, undef, undef, undef, undef, undef, undef, undef, undef, undef, undef, undef, undef, undef, undef, undef, undef, undef, undef, undef, undef, undef, undef, undef, undef, undef, undef, undef, undef, undef, undef, undef, undef, undef, undef, undef, undef, undef, undef, undef, undef, undef, undef, undef, undef, undef, undef, undef, undef, undef, undef, undef, undef, undef, undef, undef, undef, undef, undef, undef, undef, undef, undef, undef, undef, undef, undef, undef, undef, undef, undef, undef, undef, undef, undef, undef, undef, undef, undef, undef, undef, undef, undef, undef, undef, undef, undef, undef, undef, undef, undef, undef, undef, undef, undef, undef, undef, undef, undef, undef, undef, undef, undef, undef, undef, undef, undef, undef, undef, undef, undef, undef, undef, undef, undef, undef, undef, undef, undef, undef, undef, undef, undef, undef, undef, undef, undef, undef, undef, undef, undef, undef, undef, undef], []⟩) (by kernel_rfl) ?_
     refine wv (.bool false) ?_
     refine wpList_nil (then_normal ?_)
     refine wcf ?_
     refine wp_skip ?_
     refine then_normal ?_
     refine wp_region_lit ?_
     refine wrow row_impl_Field B14 (by exact Fld.size_cells _) ?_
     replace B6 := (X17.blk (B6.ext E37) q_g6_g14).ext E38
     refine wput Fd.cells row_impl_Field B6 (by exact Fld.size_cells _) (by exact Fld.size_cells _) (by exact Fld.one_cells _) ?_
     intro w56 B6_ X18
     clear B6; have B6 := B6_; clear B6_
     refine wpList_nil (block_normal (then_normal ?_))
     refine wp_region_lit ?_
     refine wv (.int .i64 3) ?_
     refine wv (.int .i64 4) ?_
     refine wv (.int .i64 4) ?_
     refine wpList_nil (then_normal ?_)
     refine rounds_s ?_
     refine wp_frame (a' := ⟨#[v, v2, undef, undef, .bool false, .pointer (some ⟨g1, 0, none⟩), .int .i64 c_, .pointer (some ⟨g2, 0, none⟩), .int .i64 0, .pointer (some ⟨g3, 0, none⟩), .int .i64 0, .pointer (some ⟨g4, 0, none⟩), .int .i64 0, .pointer (some ⟨g5, 0, none⟩), .int .i64 0, .int .i64 (sumN Fd.s 100), .int .i64 0, .pointer (some ⟨g6, 0, none⟩), .int .i64 4, .pointer (some ⟨g13, 0, none⟩), .int .i64 0, .pointer (some ⟨g14, 0, none⟩), .int .i64 0, .int .i64 (sumN Fd.s 100), .int .i64 0, undef, undef, undef, undef, undef, undef, undef, undef, undef, undef, undef, undef, undef, undef, undef, undef, undef, undef, undef, undef, undef, undef, undef, undef, undef, v, .bool (decide (4096 < (xs.length : Int))), .bool false, v2, .bool (decide (4096 < (ys.length : Int))), .bool (decide (4096 < (ys.length : Int))), v, .agg Fd.cells, v2, .agg Fd.cells, .int .i64 c_, .tuple #[.agg Fd.cells, .int .i64 0], .agg Fd.cells, .string (bs (fieldT Fd)), .tuple #[.agg Fd.cells, .int .i64 0], .agg Fd.cells, .int .i64 0, .tuple #[.agg (Fld.cells (mirF Fd)), .int .i64 0], .agg Fd.cells, .tuple #[.agg (Fld.cells (mirF Fd)), .int .i64 0], .agg (Fld.cells (mirF Fd)), .int .i64 0, .tuple #[.agg (Fld.cells (mirF Fd)), .int .i64 0], .agg Fd.cells, .tuple #[.agg (Fld.cells (mirF Fd)), .int .i64 0], .agg (Fld.cells (mirF Fd)), .int .i64 0, .tuple #[.agg Fd.cells, .int .i64 0], .agg (Fld.cells (mirF Fd)), .tuple #[.agg Fd.cells, .int .i64 0], .agg Fd.cells, .int .i64 0, .tuple #[.int .i64 (sumN Fd.s 100), .int .i64 0], .agg Fd.cells, .tuple #[.int .i64 (sumN Fd.s 100), .int .i64 0], .int .i64 (sumN Fd.s 100), .int .i64 0, .int .i64 0, .bool false, .bool false, .agg Fd.cells, .agg Fd.cells, .bool false, .bool false, .bool false, .agg Fd.cells, .agg Fd.cells, .bool true, .bool false, .bool false, .bool false, .agg Fd.cells, .bool true, .bool false, .bool false, .bool false, .int .i64 0, .int .i64 0, .bool false, .bool false, .bool false, .int .i64 0, .bool false, .bool false, .bool false, .agg (Fld.cells (mirF Fd)), .agg (Fld.cells (mirF Fd)), .bool false, .bool false, .bool false, .int .i64 0, .bool false, .bool false, .bool false, .agg Fd.cells, .agg Fd.cells, .bool false, .bool false, .bool false, .int .i64 0, .bool false, .bool false, .agg Fd.cells, .int .i64 3, .bool true, .int .i64 3, .int .i64 4, .tuple #[.agg Fd.cells, .int .i64 0], .agg (Fld.cells (turF (turF (turF Fd)))), .tuple #[.agg Fd.cells, .int .i64 0], .agg Fd.cells, .int .i64 0, .tuple #[.agg Fd.cells, .int .i64 0], .agg (Fld.cells (turF (turF (turF Fd)))), .tuple #[.agg Fd.cells, .int .i64 0], .agg Fd.cells, .int .i64 0, .tuple #[.int .i64 (sumN Fd.s 100), .int .i64 0], .agg Fd.cells, .tuple #[.int .i64 (sumN Fd.s 100), .int .i64 0], .int .i64 (sumN Fd.s 100), .int .i64 0, .int .i64 0, .int .i64 0, .bool false, .bool false, .int .i64 0, .bool false, .bool false, .bool false, .agg Fd.cells, .agg Fd.cells, .bool false, .bool false, .bool false, .int .i64 0, .bool false, .bool false, .bool false, .int .i64 (sumN Fd.s 100), .int .i64 (sumN Fd.s 100), .bool false, .bool false, .agg Fd.cells, undef, undef, undef, undef, undef, undef, undef, undef, undef, undef, undef, undef, undef, undef, undef, undef, undef, undef, undef, undef, undef, undef, undef, undef, undef, undef, undef, undef, undef, undef, undef, undef, undef, undef, undef, undef, undef, undef, undef, undef, undef, undef, undef, undef, undef, undef, undef, undef, undef, undef, undef, undef, undef, undef, undef, undef, undef, undef, undef, undef, undef, undef, undef, undef, undef, undef, undef, undef, undef, undef, undef, undef, undef, undef, undef, undef, undef, undef, undef, undef, undef, undef, undef, undef, undef, undef, undef, undef, undef, undef, undef, undef, undef, undef, undef, undef, undef, undef, undef, undef, undef, undef, undef, undef, undef, undef, undef, undef, undef, undef, undef, undef, undef, undef, undef, undef, undef, undef, undef, undef, undef, undef, undef, undef, undef, undef, undef, undef, undef, undef, undef, undef, undef, undef, undef, undef, undef, undef, undef, undef, undef, undef, undef, undef, undef, undef, undef, undef, undef, undef, undef, undef, undef, undef, undef, undef, undef, undef, undef, undef, undef, undef, undef, undef, undef, undef, undef, undef, undef, undef, undef, undef, undef, undef, undef, undef, undef, undef, undef, undef, undef, undef, undef, undef, undef, undef, undef, undef, undef, undef, undef, undef, undef, undef, undef, undef, undef, undef, undef], []⟩) (by kernel_rfl) ?_
     refine wp_seq ?_
     refine wsr ?_
     refine wv (.int .i64 4) ?_
     refine wv (.bool false) ?_
     refine wpList_nil (then_normal ?_)
     refine wcf ?_
     refine wp_exit ?_
     refine then_exit ?_
     refine then_exit ?_
     refine block_exit ?_
     refine then_normal ?_
     refine wsr ?_
     refine wv v2 ?_
     have H20 := X18.ext w lo_g6 ((X17.ext w lo_g14 (H19.trans E37)).trans E38)
     refine wnum (P6Pick_r ys v2 14 (by omega) (by omega) hyb _ (SlIn.ext hin2 H20)) ?_
     intro p1 w57 hp1 E39
     have mm_ := minI_b p1 (Fd.s (c_).toNat)
     have pw_ := mul_b (a := p1) (b := Fd.w) (m := 1000) (by omega) (by omega)
     have pv_ := mul_b (a := p1 * Fd.w) (b := Fd.h) (m := 10000) (by omega) (by omega)
     refine wv (.int .i64 p1) ?_
     refine wpList_nil (then_normal ?_)
     refine wsr ?_
     replace B1 := (X18.blk ((X17.blk (B1.ext E37) q_g1_g14).ext E38) q_g1_g6).ext E39
     refine wrow row_impl_Field B1 (by exact Fld.size_cells _) ?_
     refine wv (.int .i64 c_) ?_
     refine wv (.int .i64 p1) ?_
     refine wcl (iTake_ok Fd hF_ hd_.ok c_ p1 hc_ (by omega) _) ?_
     intro w58 E40
     refine wv (.tuple #[.agg (Fld.cells (tookF Fd c_ p1)), .int .i64 (minI p1 (Fd.s (c_).toNat)), .int .i64 0]) ?_
     refine wv (.agg (Fld.cells (tookF Fd c_ p1))) ?_
     refine wv (.int .i64 (minI p1 (Fd.s (c_).toNat))) ?_
     refine wv (.int .i64 0) ?_
     have H21 := (H20.trans E39).trans E40
     replace B1 := B1.ext E40
     replace B2 := ((X18.blk ((X17.blk (B2.ext E37) q_g2_g14).ext E38) q_g2_g6).ext E39).ext E40
     replace B3 := ((X18.blk ((X17.blk (B3.ext E37) q_g3_g14).ext E38) q_g3_g6).ext E39).ext E40
     replace B4 := ((X18.blk ((X17.blk (B4.ext E37) q_g4_g14).ext E38) q_g4_g6).ext E39).ext E40
     replace B5 := ((X18.blk ((X17.blk (B5.ext E37) q_g5_g14).ext E38) q_g5_g6).ext E39).ext E40
     replace B6 := (B6.ext E39).ext E40
     replace B7 := ((X18.blk ((X17.blk (B7.ext E37) q_g7_g14).ext E38) (Ne.symm q_g6_g7)).ext E39).ext E40
     replace B8 := ((X18.blk ((X17.blk (B8.ext E37) q_g8_g14).ext E38) (Ne.symm q_g6_g8)).ext E39).ext E40
     replace B9 := ((X18.blk ((X17.blk (B9.ext E37) q_g9_g14).ext E38) (Ne.symm q_g6_g9)).ext E39).ext E40
     replace B10 := ((X18.blk ((X17.blk (B10.ext E37) q_g10_g14).ext E38) (Ne.symm q_g6_g10)).ext E39).ext E40
     replace B11 := ((X18.blk ((X17.blk (B11.ext E37) q_g11_g14).ext E38) (Ne.symm q_g6_g11)).ext E39).ext E40
     replace B12 := ((X18.blk ((X17.blk (B12.ext E37) q_g12_g14).ext E38) (Ne.symm q_g6_g12)).ext E39).ext E40
     replace B13 := ((X18.blk B13 (Ne.symm q_g6_g13)).ext E39).ext E40
     replace B14 := ((X18.blk B14 (Ne.symm q_g6_g14)).ext E39).ext E40
     refine wnew (Fld.cells Fld.zero) Tryz.zeroValue29 zero_impl_Field ?_
     intro g15 w59 B15 E41 hg_
     have q_g1_g15 := Nat.ne_of_lt (Nat.lt_of_lt_of_le B1.lt hg_)
     have q_g2_g15 := Nat.ne_of_lt (Nat.lt_of_lt_of_le B2.lt hg_)
     have q_g3_g15 := Nat.ne_of_lt (Nat.lt_of_lt_of_le B3.lt hg_)
     have q_g4_g15 := Nat.ne_of_lt (Nat.lt_of_lt_of_le B4.lt hg_)
     have q_g5_g15 := Nat.ne_of_lt (Nat.lt_of_lt_of_le B5.lt hg_)
     have q_g6_g15 := Nat.ne_of_lt (Nat.lt_of_lt_of_le B6.lt hg_)
     have q_g7_g15 := Nat.ne_of_lt (Nat.lt_of_lt_of_le B7.lt hg_)
     have q_g8_g15 := Nat.ne_of_lt (Nat.lt_of_lt_of_le B8.lt hg_)
     have q_g9_g15 := Nat.ne_of_lt (Nat.lt_of_lt_of_le B9.lt hg_)
     have q_g10_g15 := Nat.ne_of_lt (Nat.lt_of_lt_of_le B10.lt hg_)
     have q_g11_g15 := Nat.ne_of_lt (Nat.lt_of_lt_of_le B11.lt hg_)
     have q_g12_g15 := Nat.ne_of_lt (Nat.lt_of_lt_of_le B12.lt hg_)
     have q_g13_g15 := Nat.ne_of_lt (Nat.lt_of_lt_of_le B13.lt hg_)
     have q_g14_g15 := Nat.ne_of_lt (Nat.lt_of_lt_of_le B14.lt hg_)
     have lo_g15 := Nat.le_trans (H21).size hg_
     refine wput (Fld.cells (tookF Fd c_ p1)) row_impl_Field B15 (by exact Fld.size_cells _) (by exact Fld.size_cells _) (by exact Fld.one_cells _) ?_
     intro w60 B15_ X19
     clear B15; have B15 := B15_; clear B15_
     refine wv (.int .i64 (minI p1 (Fd.s (c_).toNat))) ?_
     refine wv (.int .i64 0) ?_
     refine wpList_nil (then_normal ?_)
     refine wsr ?_
     replace B1 := X19.blk (B1.ext E41) q_g1_g15
     refine wrow row_impl_Field B1 (by exact Fld.size_cells _) ?_
     refine wv (.int .i64 c_) ?_
     refine wv (.int .i64 p1) ?_
     refine wcl (sTake_ok Fd hF_ hd_.ok c_ p1 hc_ (by omega) _) ?_
     intro w61 E42
     refine wv (.tuple #[.agg (Fld.cells (tookF Fd c_ p1)), .int .i64 (minI p1 (Fd.s (c_).toNat)), .int .i64 0]) ?_
     refine wv (.agg (Fld.cells (tookF Fd c_ p1))) ?_
     refine wv (.int .i64 (minI p1 (Fd.s (c_).toNat))) ?_
     refine wv (.int .i64 0) ?_
     have H22 := (X19.ext w lo_g15 (H21.trans E41)).trans E42
     replace B1 := B1.ext E42
     replace B2 := (X19.blk (B2.ext E41) q_g2_g15).ext E42
     replace B3 := (X19.blk (B3.ext E41) q_g3_g15).ext E42
     replace B4 := (X19.blk (B4.ext E41) q_g4_g15).ext E42
     replace B5 := (X19.blk (B5.ext E41) q_g5_g15).ext E42
     replace B6 := (X19.blk (B6.ext E41) q_g6_g15).ext E42
     replace B7 := (X19.blk (B7.ext E41) q_g7_g15).ext E42
     replace B8 := (X19.blk (B8.ext E41) q_g8_g15).ext E42
     replace B9 := (X19.blk (B9.ext E41) q_g9_g15).ext E42
     replace B10 := (X19.blk (B10.ext E41) q_g10_g15).ext E42
     replace B11 := (X19.blk (B11.ext E41) q_g11_g15).ext E42
     replace B12 := (X19.blk (B12.ext E41) q_g12_g15).ext E42
     replace B13 := (X19.blk (B13.ext E41) q_g13_g15).ext E42
     replace B14 := (X19.blk (B14.ext E41) q_g14_g15).ext E42
     replace B15 := B15.ext E42
     refine wnew (Fld.cells Fld.zero) Tryz.zeroValue29 zero_impl_Field ?_
     intro g16 w62 B16 E43 hg_
     have q_g1_g16 := Nat.ne_of_lt (Nat.lt_of_lt_of_le B1.lt hg_)
     have q_g2_g16 := Nat.ne_of_lt (Nat.lt_of_lt_of_le B2.lt hg_)
     have q_g3_g16 := Nat.ne_of_lt (Nat.lt_of_lt_of_le B3.lt hg_)
     have q_g4_g16 := Nat.ne_of_lt (Nat.lt_of_lt_of_le B4.lt hg_)
     have q_g5_g16 := Nat.ne_of_lt (Nat.lt_of_lt_of_le B5.lt hg_)
     have q_g6_g16 := Nat.ne_of_lt (Nat.lt_of_lt_of_le B6.lt hg_)
     have q_g7_g16 := Nat.ne_of_lt (Nat.lt_of_lt_of_le B7.lt hg_)
     have q_g8_g16 := Nat.ne_of_lt (Nat.lt_of_lt_of_le B8.lt hg_)
     have q_g9_g16 := Nat.ne_of_lt (Nat.lt_of_lt_of_le B9.lt hg_)
     have q_g10_g16 := Nat.ne_of_lt (Nat.lt_of_lt_of_le B10.lt hg_)
     have q_g11_g16 := Nat.ne_of_lt (Nat.lt_of_lt_of_le B11.lt hg_)
     have q_g12_g16 := Nat.ne_of_lt (Nat.lt_of_lt_of_le B12.lt hg_)
     have q_g13_g16 := Nat.ne_of_lt (Nat.lt_of_lt_of_le B13.lt hg_)
     have q_g14_g16 := Nat.ne_of_lt (Nat.lt_of_lt_of_le B14.lt hg_)
     have q_g15_g16 := Nat.ne_of_lt (Nat.lt_of_lt_of_le B15.lt hg_)
     have lo_g16 := Nat.le_trans (H22).size hg_
     refine wput (Fld.cells (tookF Fd c_ p1)) row_impl_Field B16 (by exact Fld.size_cells _) (by exact Fld.size_cells _) (by exact Fld.one_cells _) ?_
     intro w63 B16_ X20
     clear B16; have B16 := B16_; clear B16_
     refine wv (.int .i64 (minI p1 (Fd.s (c_).toNat))) ?_
     refine wv (.int .i64 0) ?_
     refine wpList_nil (then_normal ?_)
     refine wsr ?_
     refine wrow row_impl_Field B16 (by exact Fld.size_cells _) ?_
     refine wcl (iSeedsIn_ok (tookF Fd c_ p1) (took_wf hF_ hd_.ok hc_ (by omega)) (took_ok hd_.ok hc_ (by omega)) (v := sumN Fd.s 100 - minI p1 (Fd.s (c_).toNat)) (took_sum hd_.ok hc_ (by omega)) _) ?_
     intro w64 E44
     refine wv (.tuple #[.int .i64 (sumN Fd.s 100 - minI p1 (Fd.s (c_).toNat)), .int .i64 0]) ?_
     refine wv (.int .i64 (sumN Fd.s 100 - minI p1 (Fd.s (c_).toNat))) ?_
     refine wv (.int .i64 0) ?_
     refine wv (.int .i64 (sumN Fd.s 100 - minI p1 (Fd.s (c_).toNat))) ?_
     refine wv (.int .i64 0) ?_
     refine wpList_nil (then_normal ?_)
     refine wp_frame (a' := ⟨#[v, v2, undef, undef, .bool false, .pointer (some ⟨g1, 0, none⟩), .int .i64 c_, .pointer (some ⟨g2, 0, none⟩), .int .i64 0, .pointer (some ⟨g3, 0, none⟩), .int .i64 0, .pointer (some ⟨g4, 0, none⟩), .int .i64 0, .pointer (some ⟨g5, 0, none⟩), .int .i64 0, .int .i64 (sumN Fd.s 100), .int .i64 0, .pointer (some ⟨g6, 0, none⟩), .int .i64 4, .pointer (some ⟨g13, 0, none⟩), .int .i64 0, .pointer (some ⟨g14, 0, none⟩), .int .i64 0, .int .i64 (sumN Fd.s 100), .int .i64 0, .int .i64 p1, .pointer (some ⟨g15, 0, none⟩), .int .i64 (minI p1 (Fd.s (c_).toNat)), .int .i64 0, .pointer (some ⟨g16, 0, none⟩), .int .i64 (minI p1 (Fd.s (c_).toNat)), .int .i64 0, .int .i64 (sumN Fd.s 100 - minI p1 (Fd.s (c_).toNat)), .int .i64 0, undef, undef, undef, undef, undef, undef, undef, undef, undef, undef, undef, undef, undef, undef, undef, undef, v, .bool (decide (4096 < (xs.length : Int))), .bool false, v2, .bool (decide (4096 < (ys.length : Int))), .bool (decide (4096 < (ys.length : Int))), v, .agg Fd.cells, v2, .agg Fd.cells, .int .i64 c_, .tuple #[.agg Fd.cells, .int .i64 0], .agg Fd.cells, .string (bs (fieldT Fd)), .tuple #[.agg Fd.cells, .int .i64 0], .agg Fd.cells, .int .i64 0, .tuple #[.agg (Fld.cells (mirF Fd)), .int .i64 0], .agg Fd.cells, .tuple #[.agg (Fld.cells (mirF Fd)), .int .i64 0], .agg (Fld.cells (mirF Fd)), .int .i64 0, .tuple #[.agg (Fld.cells (mirF Fd)), .int .i64 0], .agg Fd.cells, .tuple #[.agg (Fld.cells (mirF Fd)), .int .i64 0], .agg (Fld.cells (mirF Fd)), .int .i64 0, .tuple #[.agg Fd.cells, .int .i64 0], .agg (Fld.cells (mirF Fd)), .tuple #[.agg Fd.cells, .int .i64 0], .agg Fd.cells, .int .i64 0, .tuple #[.int .i64 (sumN Fd.s 100), .int .i64 0], .agg Fd.cells, .tuple #[.int .i64 (sumN Fd.s 100), .int .i64 0], .int .i64 (sumN Fd.s 100), .int .i64 0, .int .i64 0, .bool false, .bool false, .agg Fd.cells, .agg Fd.cells, .bool false, .bool false, .bool false, .agg Fd.cells, .agg Fd.cells, .bool true, .bool false, .bool false, .bool false, .agg Fd.cells, .bool true, .bool false, .bool false, .bool false, .int .i64 0, .int .i64 0, .bool false, .bool false, .bool false, .int .i64 0, .bool false, .bool false, .bool false, .agg (Fld.cells (mirF Fd)), .agg (Fld.cells (mirF Fd)), .bool false, .bool false, .bool false, .int .i64 0, .bool false, .bool false, .bool false, .agg Fd.cells, .agg Fd.cells, .bool false, .bool false, .bool false, .int .i64 0, .bool false, .bool false, .agg Fd.cells, .int .i64 4, .bool false, .int .i64 3, .int .i64 4, .tuple #[.agg Fd.cells, .int .i64 0], .agg (Fld.cells (turF (turF (turF Fd)))), .tuple #[.agg Fd.cells, .int .i64 0], .agg Fd.cells, .int .i64 0, .tuple #[.agg Fd.cells, .int .i64 0], .agg (Fld.cells (turF (turF (turF Fd)))), .tuple #[.agg Fd.cells, .int .i64 0], .agg Fd.cells, .int .i64 0, .tuple #[.int .i64 (sumN Fd.s 100), .int .i64 0], .agg Fd.cells, .tuple #[.int .i64 (sumN Fd.s 100), .int .i64 0], .int .i64 (sumN Fd.s 100), .int .i64 0, .int .i64 0, .int .i64 0, .bool false, .bool false, .int .i64 0, .bool false, .bool false, .bool false, .agg Fd.cells, .agg Fd.cells, .bool false, .bool false, .bool false, .int .i64 0, .bool false, .bool false, .bool false, .int .i64 (sumN Fd.s 100), .int .i64 (sumN Fd.s 100), .bool false, .bool false, .agg Fd.cells, v2, .int .i64 p1, .tuple #[.agg (Fld.cells (tookF Fd c_ p1)), .int .i64 (minI p1 (Fd.s (c_).toNat)), .int .i64 0], .agg Fd.cells, .int .i64 c_, .int .i64 p1, .tuple #[.agg (Fld.cells (tookF Fd c_ p1)), .int .i64 (minI p1 (Fd.s (c_).toNat)), .int .i64 0], .agg (Fld.cells (tookF Fd c_ p1)), .int .i64 (minI p1 (Fd.s (c_).toNat)), .int .i64 0, .tuple #[.agg (Fld.cells (tookF Fd c_ p1)), .int .i64 (minI p1 (Fd.s (c_).toNat)), .int .i64 0], .agg Fd.cells, .int .i64 c_, .int .i64 p1, .tuple #[.agg (Fld.cells (tookF Fd c_ p1)), .int .i64 (minI p1 (Fd.s (c_).toNat)), .int .i64 0], .agg (Fld.cells (tookF Fd c_ p1)), .int .i64 (minI p1 (Fd.s (c_).toNat)), .int .i64 0, .tuple #[.int .i64 (sumN Fd.s 100 - minI p1 (Fd.s (c_).toNat)), .int .i64 0], .agg (Fld.cells (tookF Fd c_ p1)), .tuple #[.int .i64 (sumN Fd.s 100 - minI p1 (Fd.s (c_).toNat)), .int .i64 0], .int .i64 (sumN Fd.s 100 - minI p1 (Fd.s (c_).toNat)), .int .i64 0, undef, undef, undef, undef, undef, undef, undef, undef, undef, undef, undef, undef, undef, undef, undef, undef, undef, undef, undef, undef, undef, undef, undef, undef, undef, undef, undef, undef, undef, undef, undef, undef, undef, undef, undef, undef, undef, undef, undef, undef, undef, undef, undef, undef, undef, undef, undef, undef, undef, undef, undef, undef, undef, undef, undef, undef, undef, undef, undef, undef, undef, undef, undef, undef, undef, undef, undef, undef, undef, undef, undef, undef, undef, undef, undef, undef, undef, undef, undef, undef, undef, undef, undef, undef, undef, undef, undef, undef, undef, undef, undef, undef, undef, undef, undef, undef, undef, undef, undef, undef, undef, undef, undef, undef, undef, undef, undef, undef, undef, undef, undef, undef, undef, undef, undef, undef, undef, undef, undef, undef, undef, undef, undef, undef, undef, undef, undef, undef, undef, undef, undef, undef, undef, undef, undef, undef, undef, undef, undef, undef, undef, undef, undef, undef, undef, undef, undef, undef, undef, undef, undef, undef, undef, undef, undef, undef, undef, undef, undef, undef, undef, undef, undef, undef, undef, undef, undef, undef, undef, undef, undef, undef, undef, undef, undef, undef], []⟩) (by kernel_rfl) ?_
     refine wsr ?_
     replace B1 := (X20.blk (B1.ext E43) q_g1_g16).ext E44
     refine wrow row_impl_Field B1 (by exact Fld.size_cells _) ?_
     refine wv (.int .i64 c_) ?_
     refine wcl (iSeedsAt_ok Fd hF_ hd_.ok c_ hc_ _) ?_
     intro w65 E45
     refine wv (.tuple #[.int .i64 (Fd.s (c_).toNat), .int .i64 0]) ?_
     refine wv (.int .i64 (Fd.s (c_).toNat)) ?_
     refine wv (.int .i64 0) ?_
     refine wv (.int .i64 (Fd.s (c_).toNat)) ?_
     refine wv (.int .i64 0) ?_
     refine wpList_nil (then_normal ?_)
     refine wsr ?_
     replace B1 := B1.ext E45
     refine wrow row_impl_Field B1 (by exact Fld.size_cells _) ?_
     refine wv (.int .i64 c_) ?_
     refine wcl (iKindAt_ok Fd hF_ hd_.ok c_ hc_ _) ?_
     intro w66 E46
     refine wv (.tuple #[.int .i64 (Fd.k (c_).toNat), .int .i64 0]) ?_
     refine wv (.int .i64 (Fd.k (c_).toNat)) ?_
     refine wv (.int .i64 0) ?_
     refine wv (.int .i64 (Fd.k (c_).toNat)) ?_
     refine wv (.int .i64 0) ?_
     refine wpList_nil (then_normal ?_)
     refine wp_seq ?_
     refine wsr ?_
     replace B6 := (((X20.blk (B6.ext E43) q_g6_g16).ext E44).ext E45).ext E46
     refine wrow row_impl_Field B6 (by exact Fld.size_cells _) ?_
     replace B1 := B1.ext E46
     refine wrow row_impl_Field B1 (by exact Fld.size_cells _) ?_
     refine wneA fldt_impl_Field.eg (equalIn_fld fldt_impl_Field 9997 Fd Fd) ?_
     refine wbl 211 false (bnT (eqFld_s Fd)) ?_
     refine wv (.bool false) ?_
     refine wv (.int .i64 0) ?_
     refine wv (.int .i64 0) ?_
     refine wvv (.bool (0 != 0)) (.bool false) (by simp) ?_
     refine wv (.bool false) ?_
     refine wv (.bool false) ?_
     refine wv (.int .i64 0) ?_
     refine wvv (.bool (0 != 0)) (.bool false) (by simp) ?_
     refine wv (.bool false) ?_
     refine wv (.bool false) ?_
     replace B15 := (((X20.blk (B15.ext E43) q_g15_g16).ext E44).ext E45).ext E46
     refine wrow row_impl_Field B15 (by exact Fld.size_cells _) ?_
     replace B16 := ((B16.ext E44).ext E45).ext E46
     refine wrow row_impl_Field B16 (by exact Fld.size_cells _) ?_
     refine wneA fldt_impl_Field.eg (equalIn_fld fldt_impl_Field 9997 (tookF Fd c_ p1) (tookF Fd c_ p1)) ?_
     refine wbl 224 false (bnT (eqFld_s (tookF Fd c_ p1))) ?_
     refine wv (.bool false) ?_
     refine wv (.bool false) ?_
     refine wv (.int .i64 (minI p1 (Fd.s (c_).toNat))) ?_
     refine wv (.int .i64 (minI p1 (Fd.s (c_).toNat))) ?_
     refine wvv (.bool ((minI p1 (Fd.s (c_).toNat)) != (minI p1 (Fd.s (c_).toNat)))) (.bool false) (by simp) ?_
     refine wv (.bool false) ?_
     refine wv (.bool false) ?_
     refine wv (.int .i64 0) ?_
     refine wvv (.bool (0 != 0)) (.bool false) (by simp) ?_
     refine wv (.bool false) ?_
     refine wv (.bool false) ?_
     refine wv (.int .i64 (sumN Fd.s 100 - minI p1 (Fd.s (c_).toNat))) ?_
     refine wpl_frame (a' := ⟨#[v, v2, undef, undef, .bool false, .pointer (some ⟨g1, 0, none⟩), .int .i64 c_, .pointer (some ⟨g2, 0, none⟩), .int .i64 0, .pointer (some ⟨g3, 0, none⟩), .int .i64 0, .pointer (some ⟨g4, 0, none⟩), .int .i64 0, .pointer (some ⟨g5, 0, none⟩), .int .i64 0, .int .i64 (sumN Fd.s 100), .int .i64 0, .pointer (some ⟨g6, 0, none⟩), .int .i64 4, .pointer (some ⟨g13, 0, none⟩), .int .i64 0, .pointer (some ⟨g14, 0, none⟩), .int .i64 0, .int .i64 (sumN Fd.s 100), .int .i64 0, .int .i64 p1, .pointer (some ⟨g15, 0, none⟩), .int .i64 (minI p1 (Fd.s (c_).toNat)), .int .i64 0, .pointer (some ⟨g16, 0, none⟩), .int .i64 (minI p1 (Fd.s (c_).toNat)), .int .i64 0, .int .i64 (sumN Fd.s 100 - minI p1 (Fd.s (c_).toNat)), .int .i64 0, .int .i64 (Fd.s (c_).toNat), .int .i64 0, .int .i64 (Fd.k (c_).toNat), .int .i64 0, undef, undef, undef, undef, undef, undef, undef, undef, undef, undef, undef, undef, v, .bool (decide (4096 < (xs.length : Int))), .bool false, v2, .bool (decide (4096 < (ys.length : Int))), .bool (decide (4096 < (ys.length : Int))), v, .agg Fd.cells, v2, .agg Fd.cells, .int .i64 c_, .tuple #[.agg Fd.cells, .int .i64 0], .agg Fd.cells, .string (bs (fieldT Fd)), .tuple #[.agg Fd.cells, .int .i64 0], .agg Fd.cells, .int .i64 0, .tuple #[.agg (Fld.cells (mirF Fd)), .int .i64 0], .agg Fd.cells, .tuple #[.agg (Fld.cells (mirF Fd)), .int .i64 0], .agg (Fld.cells (mirF Fd)), .int .i64 0, .tuple #[.agg (Fld.cells (mirF Fd)), .int .i64 0], .agg Fd.cells, .tuple #[.agg (Fld.cells (mirF Fd)), .int .i64 0], .agg (Fld.cells (mirF Fd)), .int .i64 0, .tuple #[.agg Fd.cells, .int .i64 0], .agg (Fld.cells (mirF Fd)), .tuple #[.agg Fd.cells, .int .i64 0], .agg Fd.cells, .int .i64 0, .tuple #[.int .i64 (sumN Fd.s 100), .int .i64 0], .agg Fd.cells, .tuple #[.int .i64 (sumN Fd.s 100), .int .i64 0], .int .i64 (sumN Fd.s 100), .int .i64 0, .int .i64 0, .bool false, .bool false, .agg Fd.cells, .agg Fd.cells, .bool false, .bool false, .bool false, .agg Fd.cells, .agg Fd.cells, .bool true, .bool false, .bool false, .bool false, .agg Fd.cells, .bool true, .bool false, .bool false, .bool false, .int .i64 0, .int .i64 0, .bool false, .bool false, .bool false, .int .i64 0, .bool false, .bool false, .bool false, .agg (Fld.cells (mirF Fd)), .agg (Fld.cells (mirF Fd)), .bool false, .bool false, .bool false, .int .i64 0, .bool false, .bool false, .bool false, .agg Fd.cells, .agg Fd.cells, .bool false, .bool false, .bool false, .int .i64 0, .bool false, .bool false, .agg Fd.cells, .int .i64 4, .bool false, .int .i64 3, .int .i64 4, .tuple #[.agg Fd.cells, .int .i64 0], .agg (Fld.cells (turF (turF (turF Fd)))), .tuple #[.agg Fd.cells, .int .i64 0], .agg Fd.cells, .int .i64 0, .tuple #[.agg Fd.cells, .int .i64 0], .agg (Fld.cells (turF (turF (turF Fd)))), .tuple #[.agg Fd.cells, .int .i64 0], .agg Fd.cells, .int .i64 0, .tuple #[.int .i64 (sumN Fd.s 100), .int .i64 0], .agg Fd.cells, .tuple #[.int .i64 (sumN Fd.s 100), .int .i64 0], .int .i64 (sumN Fd.s 100), .int .i64 0, .int .i64 0, .int .i64 0, .bool false, .bool false, .int .i64 0, .bool false, .bool false, .bool false, .agg Fd.cells, .agg Fd.cells, .bool false, .bool false, .bool false, .int .i64 0, .bool false, .bool false, .bool false, .int .i64 (sumN Fd.s 100), .int .i64 (sumN Fd.s 100), .bool false, .bool false, .agg Fd.cells, v2, .int .i64 p1, .tuple #[.agg (Fld.cells (tookF Fd c_ p1)), .int .i64 (minI p1 (Fd.s (c_).toNat)), .int .i64 0], .agg Fd.cells, .int .i64 c_, .int .i64 p1, .tuple #[.agg (Fld.cells (tookF Fd c_ p1)), .int .i64 (minI p1 (Fd.s (c_).toNat)), .int .i64 0], .agg (Fld.cells (tookF Fd c_ p1)), .int .i64 (minI p1 (Fd.s (c_).toNat)), .int .i64 0, .tuple #[.agg (Fld.cells (tookF Fd c_ p1)), .int .i64 (minI p1 (Fd.s (c_).toNat)), .int .i64 0], .agg Fd.cells, .int .i64 c_, .int .i64 p1, .tuple #[.agg (Fld.cells (tookF Fd c_ p1)), .int .i64 (minI p1 (Fd.s (c_).toNat)), .int .i64 0], .agg (Fld.cells (tookF Fd c_ p1)), .int .i64 (minI p1 (Fd.s (c_).toNat)), .int .i64 0, .tuple #[.int .i64 (sumN Fd.s 100 - minI p1 (Fd.s (c_).toNat)), .int .i64 0], .agg (Fld.cells (tookF Fd c_ p1)), .tuple #[.int .i64 (sumN Fd.s 100 - minI p1 (Fd.s (c_).toNat)), .int .i64 0], .int .i64 (sumN Fd.s 100 - minI p1 (Fd.s (c_).toNat)), .int .i64 0, .tuple #[.int .i64 (Fd.s (c_).toNat), .int .i64 0], .agg Fd.cells, .int .i64 c_, .tuple #[.int .i64 (Fd.s (c_).toNat), .int .i64 0], .int .i64 (Fd.s (c_).toNat), .int .i64 0, .tuple #[.int .i64 (Fd.k (c_).toNat), .int .i64 0], .agg Fd.cells, .int .i64 c_, .tuple #[.int .i64 (Fd.k (c_).toNat), .int .i64 0], .int .i64 (Fd.k (c_).toNat), .int .i64 0, .agg Fd.cells, .agg Fd.cells, .bool false, .bool false, .int .i64 0, .int .i64 0, .bool false, .bool false, .bool false, .int .i64 0, .bool false, .bool false, .bool false, .agg (Fld.cells (tookF Fd c_ p1)), .agg (Fld.cells (tookF Fd c_ p1)), .bool false, .bool false, .bool false, .int .i64 (minI p1 (Fd.s (c_).toNat)), .int .i64 (minI p1 (Fd.s (c_).toNat)), .bool false, .bool false, .bool false, .int .i64 0, .bool false, .bool false, .bool false, .int .i64 (sumN Fd.s 100 - minI p1 (Fd.s (c_).toNat)), undef, undef, undef, undef, undef, undef, undef, undef, undef, undef, undef, undef, undef, undef, undef, undef, undef, undef, undef, undef, undef, undef, undef, undef, undef, undef, undef, undef, undef, undef, undef, undef, undef, undef, undef, undef, undef, undef, undef, undef, undef, undef, undef, undef, undef, undef, undef, undef, undef, undef, undef, undef, undef, undef, undef, undef, undef, undef, undef, undef, undef, undef, undef, undef, undef, undef, undef, undef, undef, undef, undef, undef, undef, undef, undef, undef, undef, undef, undef, undef, undef, undef, undef, undef, undef, undef, undef, undef, undef, undef, undef, undef, undef, undef, undef, undef, undef, undef, undef, undef, undef, undef, undef, undef, undef, undef, undef, undef, undef, undef, undef, undef, undef, undef, undef, undef, undef, undef, undef, undef, undef, undef, undef, undef, undef, undef, undef, undef, undef, undef, undef, undef, undef, undef, undef, undef], []⟩) (by kernel_rfl) ?_
     refine wv (.int .i64 (minI p1 (Fd.s (c_).toNat))) ?_
     refine wi64 ((sumN Fd.s 100 - minI p1 (Fd.s (c_).toNat)) + (minI p1 (Fd.s (c_).toNat))) ?_
     refine wv (.int .i64 (sumN Fd.s 100)) ?_
     refine wv (.bool (((sumN Fd.s 100 - minI p1 (Fd.s (c_).toNat)) + (minI p1 (Fd.s (c_).toNat))) != (sumN Fd.s 100))) ?_
     refine wv (.bool (((sumN Fd.s 100 - minI p1 (Fd.s (c_).toNat)) + (minI p1 (Fd.s (c_).toNat))) != (sumN Fd.s 100))) ?_
     refine wv (.bool (((sumN Fd.s 100 - minI p1 (Fd.s (c_).toNat)) + (minI p1 (Fd.s (c_).toNat))) != (sumN Fd.s 100))) ?_
     have H23 := (((X20.ext w lo_g16 (H22.trans E43)).trans E44).trans E45).trans E46
     refine split_bool (((sumN Fd.s 100 - minI p1 (Fd.s (c_).toNat)) + (minI p1 (Fd.s (c_).toNat))) != (sumN Fd.s 100)) (fun h3 => ?_) (fun h3 => ?_)
     · skip
       refine wbl 242 true h3 ?_
       have h3d := nT h3
       refine wsk ?_
       refine wsk ?_
       refine wv (.bool true) ?_
       refine wv (.bool true) ?_
       refine wsk ?_
       refine wsk ?_
       refine wsk ?_
       refine wsk ?_
       refine wsk ?_
       refine wv (.bool true) ?_
       refine wv (.bool true) ?_
       refine wsk ?_
       refine wsk ?_
       refine wv (.bool true) ?_
       refine wv (.bool true) ?_
       refine wsk ?_
       refine wsk ?_
       refine wsk ?_
       refine wsk ?_
       refine wsk ?_
       refine wsk ?_
       refine wsk ?_
       refine wv (.bool true) ?_
       refine wpList_nil (then_normal ?_)
       refine wct ?_
       refine wsr ?_
       refine wv (.bool false) ?_
       refine wpList_nil (then_normal ?_)
       refine wp_frame (a' := ⟨#[v, v2, undef, undef, .bool false, .pointer (some ⟨g1, 0, none⟩), .int .i64 c_, .pointer (some ⟨g2, 0, none⟩), .int .i64 0, .pointer (some ⟨g3, 0, none⟩), .int .i64 0, .pointer (some ⟨g4, 0, none⟩), .int .i64 0, .pointer (some ⟨g5, 0, none⟩), .int .i64 0, .int .i64 (sumN Fd.s 100), .int .i64 0, .pointer (some ⟨g6, 0, none⟩), .int .i64 4, .pointer (some ⟨g13, 0, none⟩), .int .i64 0, .pointer (some ⟨g14, 0, none⟩), .int .i64 0, .int .i64 (sumN Fd.s 100), .int .i64 0, .int .i64 p1, .pointer (some ⟨g15, 0, none⟩), .int .i64 (minI p1 (Fd.s (c_).toNat)), .int .i64 0, .pointer (some ⟨g16, 0, none⟩), .int .i64 (minI p1 (Fd.s (c_).toNat)), .int .i64 0, .int .i64 (sumN Fd.s 100 - minI p1 (Fd.s (c_).toNat)), .int .i64 0, .int .i64 (Fd.s (c_).toNat), .int .i64 0, .int .i64 (Fd.k (c_).toNat), .int .i64 0, undef, undef, undef, undef, undef, undef, undef, undef, undef, undef, undef, undef, v, .bool (decide (4096 < (xs.length : Int))), .bool false, v2, .bool (decide (4096 < (ys.length : Int))), .bool (decide (4096 < (ys.length : Int))), v, .agg Fd.cells, v2, .agg Fd.cells, .int .i64 c_, .tuple #[.agg Fd.cells, .int .i64 0], .agg Fd.cells, .string (bs (fieldT Fd)), .tuple #[.agg Fd.cells, .int .i64 0], .agg Fd.cells, .int .i64 0, .tuple #[.agg (Fld.cells (mirF Fd)), .int .i64 0], .agg Fd.cells, .tuple #[.agg (Fld.cells (mirF Fd)), .int .i64 0], .agg (Fld.cells (mirF Fd)), .int .i64 0, .tuple #[.agg (Fld.cells (mirF Fd)), .int .i64 0], .agg Fd.cells, .tuple #[.agg (Fld.cells (mirF Fd)), .int .i64 0], .agg (Fld.cells (mirF Fd)), .int .i64 0, .tuple #[.agg Fd.cells, .int .i64 0], .agg (Fld.cells (mirF Fd)), .tuple #[.agg Fd.cells, .int .i64 0], .agg Fd.cells, .int .i64 0, .tuple #[.int .i64 (sumN Fd.s 100), .int .i64 0], .agg Fd.cells, .tuple #[.int .i64 (sumN Fd.s 100), .int .i64 0], .int .i64 (sumN Fd.s 100), .int .i64 0, .int .i64 0, .bool false, .bool false, .agg Fd.cells, .agg Fd.cells, .bool false, .bool false, .bool false, .agg Fd.cells, .agg Fd.cells, .bool true, .bool false, .bool false, .bool false, .agg Fd.cells, .bool true, .bool false, .bool false, .bool false, .int .i64 0, .int .i64 0, .bool false, .bool false, .bool false, .int .i64 0, .bool false, .bool false, .bool false, .agg (Fld.cells (mirF Fd)), .agg (Fld.cells (mirF Fd)), .bool false, .bool false, .bool false, .int .i64 0, .bool false, .bool false, .bool false, .agg Fd.cells, .agg Fd.cells, .bool false, .bool false, .bool false, .int .i64 0, .bool false, .bool false, .agg Fd.cells, .int .i64 4, .bool false, .int .i64 3, .int .i64 4, .tuple #[.agg Fd.cells, .int .i64 0], .agg (Fld.cells (turF (turF (turF Fd)))), .tuple #[.agg Fd.cells, .int .i64 0], .agg Fd.cells, .int .i64 0, .tuple #[.agg Fd.cells, .int .i64 0], .agg (Fld.cells (turF (turF (turF Fd)))), .tuple #[.agg Fd.cells, .int .i64 0], .agg Fd.cells, .int .i64 0, .tuple #[.int .i64 (sumN Fd.s 100), .int .i64 0], .agg Fd.cells, .tuple #[.int .i64 (sumN Fd.s 100), .int .i64 0], .int .i64 (sumN Fd.s 100), .int .i64 0, .int .i64 0, .int .i64 0, .bool false, .bool false, .int .i64 0, .bool false, .bool false, .bool false, .agg Fd.cells, .agg Fd.cells, .bool false, .bool false, .bool false, .int .i64 0, .bool false, .bool false, .bool false, .int .i64 (sumN Fd.s 100), .int .i64 (sumN Fd.s 100), .bool false, .bool false, .agg Fd.cells, v2, .int .i64 p1, .tuple #[.agg (Fld.cells (tookF Fd c_ p1)), .int .i64 (minI p1 (Fd.s (c_).toNat)), .int .i64 0], .agg Fd.cells, .int .i64 c_, .int .i64 p1, .tuple #[.agg (Fld.cells (tookF Fd c_ p1)), .int .i64 (minI p1 (Fd.s (c_).toNat)), .int .i64 0], .agg (Fld.cells (tookF Fd c_ p1)), .int .i64 (minI p1 (Fd.s (c_).toNat)), .int .i64 0, .tuple #[.agg (Fld.cells (tookF Fd c_ p1)), .int .i64 (minI p1 (Fd.s (c_).toNat)), .int .i64 0], .agg Fd.cells, .int .i64 c_, .int .i64 p1, .tuple #[.agg (Fld.cells (tookF Fd c_ p1)), .int .i64 (minI p1 (Fd.s (c_).toNat)), .int .i64 0], .agg (Fld.cells (tookF Fd c_ p1)), .int .i64 (minI p1 (Fd.s (c_).toNat)), .int .i64 0, .tuple #[.int .i64 (sumN Fd.s 100 - minI p1 (Fd.s (c_).toNat)), .int .i64 0], .agg (Fld.cells (tookF Fd c_ p1)), .tuple #[.int .i64 (sumN Fd.s 100 - minI p1 (Fd.s (c_).toNat)), .int .i64 0], .int .i64 (sumN Fd.s 100 - minI p1 (Fd.s (c_).toNat)), .int .i64 0, .tuple #[.int .i64 (Fd.s (c_).toNat), .int .i64 0], .agg Fd.cells, .int .i64 c_, .tuple #[.int .i64 (Fd.s (c_).toNat), .int .i64 0], .int .i64 (Fd.s (c_).toNat), .int .i64 0, .tuple #[.int .i64 (Fd.k (c_).toNat), .int .i64 0], .agg Fd.cells, .int .i64 c_, .tuple #[.int .i64 (Fd.k (c_).toNat), .int .i64 0], .int .i64 (Fd.k (c_).toNat), .int .i64 0, .agg Fd.cells, .agg Fd.cells, .bool false, .bool false, .int .i64 0, .int .i64 0, .bool false, .bool false, .bool false, .int .i64 0, .bool false, .bool false, .bool false, .agg (Fld.cells (tookF Fd c_ p1)), .agg (Fld.cells (tookF Fd c_ p1)), .bool false, .bool false, .bool false, .int .i64 (minI p1 (Fd.s (c_).toNat)), .int .i64 (minI p1 (Fd.s (c_).toNat)), .bool false, .bool false, .bool false, .int .i64 0, .bool false, .bool false, .bool false, .int .i64 (sumN Fd.s 100 - minI p1 (Fd.s (c_).toNat)), .int .i64 (minI p1 (Fd.s (c_).toNat)), .int .i64 ((sumN Fd.s 100 - minI p1 (Fd.s (c_).toNat)) + (minI p1 (Fd.s (c_).toNat))), .int .i64 (sumN Fd.s 100), .bool (((sumN Fd.s 100 - minI p1 (Fd.s (c_).toNat)) + (minI p1 (Fd.s (c_).toNat))) != (sumN Fd.s 100)), .bool (((sumN Fd.s 100 - minI p1 (Fd.s (c_).toNat)) + (minI p1 (Fd.s (c_).toNat))) != (sumN Fd.s 100)), .bool true, undef, undef, .bool true, .bool true, undef, undef, undef, undef, undef, .bool true, .bool true, undef, undef, .bool true, .bool true, undef, undef, undef, undef, undef, undef, undef, .bool true, undef, undef, undef, undef, undef, undef, undef, undef, undef, undef, undef, undef, undef, undef, undef, undef, undef, undef, undef, undef, undef, undef, undef, undef, undef, undef, undef, undef, undef, undef, undef, undef, undef, undef, undef, undef, undef, undef, undef, undef, undef, undef, undef, undef, undef, undef, undef, undef, undef, undef, undef, undef, undef, undef, undef, undef, undef, undef, undef, undef, undef, undef, undef, undef, undef, undef, undef, undef, undef, undef, undef, undef, undef, undef, undef, undef, undef, undef, undef, undef, undef, undef, undef, undef, undef, undef, undef, undef, undef, undef, undef, undef, undef, undef, undef, undef, undef, undef, undef, undef, undef, undef, undef, undef, undef, undef, undef], []⟩) (by kernel_rfl) ?_
       refine wp_ret ?_
       refine then_ret ?_
       refine ret1 (.bool true) rfl ?_ rfl ?_
       · refine (resT (v := .bool false) (by kernel_rfl)).trans ?_
         refine congrArg Value.bool ?_
         first | exact beq_self_eq_true _ | (exfalso; omega)
       exact ⟨rfl, H23⟩
     · skip
       refine wbl 242 false h3 ?_
       have h3d := nF h3
       refine wv (.int .i64 0) ?_
       refine wvv (.bool (0 != 0)) (.bool false) (by simp) ?_
       refine wv (.bool false) ?_
       refine wv (.bool false) ?_
       refine wv (.int .i64 (minI p1 (Fd.s (c_).toNat))) ?_
       refine wv (.int .i64 p1) ?_
       refine wv (.int .i64 (Fd.s (c_).toNat)) ?_
       have mi1 := minI_b p1 (Fd.s (c_).toNat)
       refine wvv (.int .i64 (if (Fd.s (c_).toNat) < p1 then (Fd.s (c_).toNat) else p1)) (.int .i64 (minI p1 (Fd.s (c_).toNat))) (congrArg _ (minI_eq _ _)) ?_
       refine wvv (.bool ((minI p1 (Fd.s (c_).toNat)) != (minI p1 (Fd.s (c_).toNat)))) (.bool false) (by simp) ?_
       refine wv (.bool false) ?_
       refine wv (.bool false) ?_
       refine wv (.int .i64 0) ?_
       refine wvv (.bool (0 != 0)) (.bool false) (by simp) ?_
       refine wv (.bool false) ?_
       refine wv (.bool false) ?_
       refine wv (.int .i64 (Fd.k (c_).toNat)) ?_
       refine wv (.int .i64 c_) ?_
       refine wv (.pointer (some ⟨g1, 2, none⟩)) ?_
       refine wix g1 2 c_ .i64 arrt__100_uint8 ?_
       refine wld g1 (2 + (c_).toNat) scal_uint8 (B1.get (Fld.getk _ _ (by omega))) ?_
       refine wi64 (Fd.k ((c_).toNat)) ?_
       refine wv (.bool ((Fd.k (c_).toNat) != (Fd.k ((c_).toNat)))) ?_
       refine wv (.bool ((Fd.k (c_).toNat) != (Fd.k ((c_).toNat)))) ?_
       refine wpList_nil (then_normal ?_)
       refine wsplit ((Fd.k (c_).toNat) != (Fd.k ((c_).toNat))) (fun h4 => ?_) (fun h4 => ?_)
       · skip
         have h4d := nT h4
         refine wsr ?_
         refine wv (.bool false) ?_
         refine wpList_nil (then_normal ?_)
         refine wp_frame (a' := ⟨#[v, v2, undef, undef, .bool false, .pointer (some ⟨g1, 0, none⟩), .int .i64 c_, .pointer (some ⟨g2, 0, none⟩), .int .i64 0, .pointer (some ⟨g3, 0, none⟩), .int .i64 0, .pointer (some ⟨g4, 0, none⟩), .int .i64 0, .pointer (some ⟨g5, 0, none⟩), .int .i64 0, .int .i64 (sumN Fd.s 100), .int .i64 0, .pointer (some ⟨g6, 0, none⟩), .int .i64 4, .pointer (some ⟨g13, 0, none⟩), .int .i64 0, .pointer (some ⟨g14, 0, none⟩), .int .i64 0, .int .i64 (sumN Fd.s 100), .int .i64 0, .int .i64 p1, .pointer (some ⟨g15, 0, none⟩), .int .i64 (minI p1 (Fd.s (c_).toNat)), .int .i64 0, .pointer (some ⟨g16, 0, none⟩), .int .i64 (minI p1 (Fd.s (c_).toNat)), .int .i64 0, .int .i64 (sumN Fd.s 100 - minI p1 (Fd.s (c_).toNat)), .int .i64 0, .int .i64 (Fd.s (c_).toNat), .int .i64 0, .int .i64 (Fd.k (c_).toNat), .int .i64 0, undef, undef, undef, undef, undef, undef, undef, undef, undef, undef, undef, undef, v, .bool (decide (4096 < (xs.length : Int))), .bool false, v2, .bool (decide (4096 < (ys.length : Int))), .bool (decide (4096 < (ys.length : Int))), v, .agg Fd.cells, v2, .agg Fd.cells, .int .i64 c_, .tuple #[.agg Fd.cells, .int .i64 0], .agg Fd.cells, .string (bs (fieldT Fd)), .tuple #[.agg Fd.cells, .int .i64 0], .agg Fd.cells, .int .i64 0, .tuple #[.agg (Fld.cells (mirF Fd)), .int .i64 0], .agg Fd.cells, .tuple #[.agg (Fld.cells (mirF Fd)), .int .i64 0], .agg (Fld.cells (mirF Fd)), .int .i64 0, .tuple #[.agg (Fld.cells (mirF Fd)), .int .i64 0], .agg Fd.cells, .tuple #[.agg (Fld.cells (mirF Fd)), .int .i64 0], .agg (Fld.cells (mirF Fd)), .int .i64 0, .tuple #[.agg Fd.cells, .int .i64 0], .agg (Fld.cells (mirF Fd)), .tuple #[.agg Fd.cells, .int .i64 0], .agg Fd.cells, .int .i64 0, .tuple #[.int .i64 (sumN Fd.s 100), .int .i64 0], .agg Fd.cells, .tuple #[.int .i64 (sumN Fd.s 100), .int .i64 0], .int .i64 (sumN Fd.s 100), .int .i64 0, .int .i64 0, .bool false, .bool false, .agg Fd.cells, .agg Fd.cells, .bool false, .bool false, .bool false, .agg Fd.cells, .agg Fd.cells, .bool true, .bool false, .bool false, .bool false, .agg Fd.cells, .bool true, .bool false, .bool false, .bool false, .int .i64 0, .int .i64 0, .bool false, .bool false, .bool false, .int .i64 0, .bool false, .bool false, .bool false, .agg (Fld.cells (mirF Fd)), .agg (Fld.cells (mirF Fd)), .bool false, .bool false, .bool false, .int .i64 0, .bool false, .bool false, .bool false, .agg Fd.cells, .agg Fd.cells, .bool false, .bool false, .bool false, .int .i64 0, .bool false, .bool false, .agg Fd.cells, .int .i64 4, .bool false, .int .i64 3, .int .i64 4, .tuple #[.agg Fd.cells, .int .i64 0], .agg (Fld.cells (turF (turF (turF Fd)))), .tuple #[.agg Fd.cells, .int .i64 0], .agg Fd.cells, .int .i64 0, .tuple #[.agg Fd.cells, .int .i64 0], .agg (Fld.cells (turF (turF (turF Fd)))), .tuple #[.agg Fd.cells, .int .i64 0], .agg Fd.cells, .int .i64 0, .tuple #[.int .i64 (sumN Fd.s 100), .int .i64 0], .agg Fd.cells, .tuple #[.int .i64 (sumN Fd.s 100), .int .i64 0], .int .i64 (sumN Fd.s 100), .int .i64 0, .int .i64 0, .int .i64 0, .bool false, .bool false, .int .i64 0, .bool false, .bool false, .bool false, .agg Fd.cells, .agg Fd.cells, .bool false, .bool false, .bool false, .int .i64 0, .bool false, .bool false, .bool false, .int .i64 (sumN Fd.s 100), .int .i64 (sumN Fd.s 100), .bool false, .bool false, .agg Fd.cells, v2, .int .i64 p1, .tuple #[.agg (Fld.cells (tookF Fd c_ p1)), .int .i64 (minI p1 (Fd.s (c_).toNat)), .int .i64 0], .agg Fd.cells, .int .i64 c_, .int .i64 p1, .tuple #[.agg (Fld.cells (tookF Fd c_ p1)), .int .i64 (minI p1 (Fd.s (c_).toNat)), .int .i64 0], .agg (Fld.cells (tookF Fd c_ p1)), .int .i64 (minI p1 (Fd.s (c_).toNat)), .int .i64 0, .tuple #[.agg (Fld.cells (tookF Fd c_ p1)), .int .i64 (minI p1 (Fd.s (c_).toNat)), .int .i64 0], .agg Fd.cells, .int .i64 c_, .int .i64 p1, .tuple #[.agg (Fld.cells (tookF Fd c_ p1)), .int .i64 (minI p1 (Fd.s (c_).toNat)), .int .i64 0], .agg (Fld.cells (tookF Fd c_ p1)), .int .i64 (minI p1 (Fd.s (c_).toNat)), .int .i64 0, .tuple #[.int .i64 (sumN Fd.s 100 - minI p1 (Fd.s (c_).toNat)), .int .i64 0], .agg (Fld.cells (tookF Fd c_ p1)), .tuple #[.int .i64 (sumN Fd.s 100 - minI p1 (Fd.s (c_).toNat)), .int .i64 0], .int .i64 (sumN Fd.s 100 - minI p1 (Fd.s (c_).toNat)), .int .i64 0, .tuple #[.int .i64 (Fd.s (c_).toNat), .int .i64 0], .agg Fd.cells, .int .i64 c_, .tuple #[.int .i64 (Fd.s (c_).toNat), .int .i64 0], .int .i64 (Fd.s (c_).toNat), .int .i64 0, .tuple #[.int .i64 (Fd.k (c_).toNat), .int .i64 0], .agg Fd.cells, .int .i64 c_, .tuple #[.int .i64 (Fd.k (c_).toNat), .int .i64 0], .int .i64 (Fd.k (c_).toNat), .int .i64 0, .agg Fd.cells, .agg Fd.cells, .bool false, .bool false, .int .i64 0, .int .i64 0, .bool false, .bool false, .bool false, .int .i64 0, .bool false, .bool false, .bool false, .agg (Fld.cells (tookF Fd c_ p1)), .agg (Fld.cells (tookF Fd c_ p1)), .bool false, .bool false, .bool false, .int .i64 (minI p1 (Fd.s (c_).toNat)), .int .i64 (minI p1 (Fd.s (c_).toNat)), .bool false, .bool false, .bool false, .int .i64 0, .bool false, .bool false, .bool false, .int .i64 (sumN Fd.s 100 - minI p1 (Fd.s (c_).toNat)), .int .i64 (minI p1 (Fd.s (c_).toNat)), .int .i64 ((sumN Fd.s 100 - minI p1 (Fd.s (c_).toNat)) + (minI p1 (Fd.s (c_).toNat))), .int .i64 (sumN Fd.s 100), .bool (((sumN Fd.s 100 - minI p1 (Fd.s (c_).toNat)) + (minI p1 (Fd.s (c_).toNat))) != (sumN Fd.s 100)), .bool (((sumN Fd.s 100 - minI p1 (Fd.s (c_).toNat)) + (minI p1 (Fd.s (c_).toNat))) != (sumN Fd.s 100)), .bool false, .int .i64 0, .bool false, .bool false, .bool false, .int .i64 (minI p1 (Fd.s (c_).toNat)), .int .i64 p1, .int .i64 (Fd.s (c_).toNat), .int .i64 (minI p1 (Fd.s (c_).toNat)), .bool false, .bool false, .bool false, .int .i64 0, .bool false, .bool false, .bool false, .int .i64 (Fd.k (c_).toNat), .int .i64 c_, .pointer (some ⟨g1, 2, none⟩), .pointer (some ⟨g1, 2 + (c_).toNat, none⟩), .int .u8 (Fd.k ((c_).toNat)), .int .i64 (Fd.k ((c_).toNat)), .bool ((Fd.k (c_).toNat) != (Fd.k ((c_).toNat))), .bool ((Fd.k (c_).toNat) != (Fd.k ((c_).toNat))), undef, undef, undef, undef, undef, undef, undef, undef, undef, undef, undef, undef, undef, undef, undef, undef, undef, undef, undef, undef, undef, undef, undef, undef, undef, undef, undef, undef, undef, undef, undef, undef, undef, undef, undef, undef, undef, undef, undef, undef, undef, undef, undef, undef, undef, undef, undef, undef, undef, undef, undef, undef, undef, undef, undef, undef, undef, undef, undef, undef, undef, undef, undef, undef, undef, undef, undef, undef, undef, undef, undef, undef, undef, undef, undef, undef, undef, undef, undef, undef, undef, undef, undef, undef, undef, undef, undef, undef, undef, undef, undef, undef, undef, undef, undef, undef, undef, undef, undef, undef, undef, undef, undef, undef, undef, undef, undef], []⟩) (by kernel_rfl) ?_
         refine wp_ret ?_
         refine then_ret ?_
         refine ret1 (.bool true) rfl ?_ rfl ?_
         · refine (resT (v := .bool false) (by kernel_rfl)).trans ?_
           refine congrArg Value.bool ?_
           first | exact beq_self_eq_true _ | (exfalso; omega)
         exact ⟨rfl, H23⟩
       · skip
         have h4d := nF h4
         refine wp_skip ?_
         refine then_normal ?_
         refine wsr ?_
         refine wrow row_impl_Field B16 (by exact Fld.size_cells _) ?_
         refine wv (.int .i64 c_) ?_
         refine wv (.int .i64 (minI p1 (Fd.s (c_).toNat))) ?_
         refine split_bool ((Fd.k (c_).toNat) == 0) (fun h5 => ?_) (fun h5 => ?_)
         · skip
           have h5d := eT h5
           refine wcl (iSow_0 Fd hF_ hd_.ok c_ p1 hc_ (by omega) (by have q_ := eT h5; omega) _) ?_
           intro w67 E47
           refine wv (.tuple #[.agg Fd.cells, .int .i64 0]) ?_
           refine wv (.agg Fd.cells) ?_
           refine wv (.int .i64 0) ?_
           have H24 := H23.trans E47
           replace B1 := B1.ext E47
           replace B2 := ((((X20.blk (B2.ext E43) q_g2_g16).ext E44).ext E45).ext E46).ext E47
           replace B3 := ((((X20.blk (B3.ext E43) q_g3_g16).ext E44).ext E45).ext E46).ext E47
           replace B4 := ((((X20.blk (B4.ext E43) q_g4_g16).ext E44).ext E45).ext E46).ext E47
           replace B5 := ((((X20.blk (B5.ext E43) q_g5_g16).ext E44).ext E45).ext E46).ext E47
           replace B6 := B6.ext E47
           replace B7 := ((((X20.blk (B7.ext E43) q_g7_g16).ext E44).ext E45).ext E46).ext E47
           replace B8 := ((((X20.blk (B8.ext E43) q_g8_g16).ext E44).ext E45).ext E46).ext E47
           replace B9 := ((((X20.blk (B9.ext E43) q_g9_g16).ext E44).ext E45).ext E46).ext E47
           replace B10 := ((((X20.blk (B10.ext E43) q_g10_g16).ext E44).ext E45).ext E46).ext E47
           replace B11 := ((((X20.blk (B11.ext E43) q_g11_g16).ext E44).ext E45).ext E46).ext E47
           replace B12 := ((((X20.blk (B12.ext E43) q_g12_g16).ext E44).ext E45).ext E46).ext E47
           replace B13 := ((((X20.blk (B13.ext E43) q_g13_g16).ext E44).ext E45).ext E46).ext E47
           replace B14 := ((((X20.blk (B14.ext E43) q_g14_g16).ext E44).ext E45).ext E46).ext E47
           replace B15 := B15.ext E47
           replace B16 := B16.ext E47
           refine wnew (Fld.cells Fld.zero) Tryz.zeroValue29 zero_impl_Field ?_
           intro g17 w68 B17 E48 hg_
           have q_g1_g17 := Nat.ne_of_lt (Nat.lt_of_lt_of_le B1.lt hg_)
           have q_g2_g17 := Nat.ne_of_lt (Nat.lt_of_lt_of_le B2.lt hg_)
           have q_g3_g17 := Nat.ne_of_lt (Nat.lt_of_lt_of_le B3.lt hg_)
           have q_g4_g17 := Nat.ne_of_lt (Nat.lt_of_lt_of_le B4.lt hg_)
           have q_g5_g17 := Nat.ne_of_lt (Nat.lt_of_lt_of_le B5.lt hg_)
           have q_g6_g17 := Nat.ne_of_lt (Nat.lt_of_lt_of_le B6.lt hg_)
           have q_g7_g17 := Nat.ne_of_lt (Nat.lt_of_lt_of_le B7.lt hg_)
           have q_g8_g17 := Nat.ne_of_lt (Nat.lt_of_lt_of_le B8.lt hg_)
           have q_g9_g17 := Nat.ne_of_lt (Nat.lt_of_lt_of_le B9.lt hg_)
           have q_g10_g17 := Nat.ne_of_lt (Nat.lt_of_lt_of_le B10.lt hg_)
           have q_g11_g17 := Nat.ne_of_lt (Nat.lt_of_lt_of_le B11.lt hg_)
           have q_g12_g17 := Nat.ne_of_lt (Nat.lt_of_lt_of_le B12.lt hg_)
           have q_g13_g17 := Nat.ne_of_lt (Nat.lt_of_lt_of_le B13.lt hg_)
           have q_g14_g17 := Nat.ne_of_lt (Nat.lt_of_lt_of_le B14.lt hg_)
           have q_g15_g17 := Nat.ne_of_lt (Nat.lt_of_lt_of_le B15.lt hg_)
           have q_g16_g17 := Nat.ne_of_lt (Nat.lt_of_lt_of_le B16.lt hg_)
           have lo_g17 := Nat.le_trans (H24).size hg_
           refine wput Fd.cells row_impl_Field B17 (by exact Fld.size_cells _) (by exact Fld.size_cells _) (by exact Fld.one_cells _) ?_
           intro w69 B17_ X21
           clear B17; have B17 := B17_; clear B17_
           refine wv (.int .i64 0) ?_
           refine wpList_nil (then_normal ?_)
           refine wp_frame (a' := ⟨#[v, v2, undef, undef, .bool false, .pointer (some ⟨g1, 0, none⟩), .int .i64 c_, .pointer (some ⟨g2, 0, none⟩), .int .i64 0, .pointer (some ⟨g3, 0, none⟩), .int .i64 0, .pointer (some ⟨g4, 0, none⟩), .int .i64 0, .pointer (some ⟨g5, 0, none⟩), .int .i64 0, .int .i64 (sumN Fd.s 100), .int .i64 0, .pointer (some ⟨g6, 0, none⟩), .int .i64 4, .pointer (some ⟨g13, 0, none⟩), .int .i64 0, .pointer (some ⟨g14, 0, none⟩), .int .i64 0, .int .i64 (sumN Fd.s 100), .int .i64 0, .int .i64 p1, .pointer (some ⟨g15, 0, none⟩), .int .i64 (minI p1 (Fd.s (c_).toNat)), .int .i64 0, .pointer (some ⟨g16, 0, none⟩), .int .i64 (minI p1 (Fd.s (c_).toNat)), .int .i64 0, .int .i64 (sumN Fd.s 100 - minI p1 (Fd.s (c_).toNat)), .int .i64 0, .int .i64 (Fd.s (c_).toNat), .int .i64 0, .int .i64 (Fd.k (c_).toNat), .int .i64 0, .pointer (some ⟨g17, 0, none⟩), .int .i64 0, undef, undef, undef, undef, undef, undef, undef, undef, undef, undef, v, .bool (decide (4096 < (xs.length : Int))), .bool false, v2, .bool (decide (4096 < (ys.length : Int))), .bool (decide (4096 < (ys.length : Int))), v, .agg Fd.cells, v2, .agg Fd.cells, .int .i64 c_, .tuple #[.agg Fd.cells, .int .i64 0], .agg Fd.cells, .string (bs (fieldT Fd)), .tuple #[.agg Fd.cells, .int .i64 0], .agg Fd.cells, .int .i64 0, .tuple #[.agg (Fld.cells (mirF Fd)), .int .i64 0], .agg Fd.cells, .tuple #[.agg (Fld.cells (mirF Fd)), .int .i64 0], .agg (Fld.cells (mirF Fd)), .int .i64 0, .tuple #[.agg (Fld.cells (mirF Fd)), .int .i64 0], .agg Fd.cells, .tuple #[.agg (Fld.cells (mirF Fd)), .int .i64 0], .agg (Fld.cells (mirF Fd)), .int .i64 0, .tuple #[.agg Fd.cells, .int .i64 0], .agg (Fld.cells (mirF Fd)), .tuple #[.agg Fd.cells, .int .i64 0], .agg Fd.cells, .int .i64 0, .tuple #[.int .i64 (sumN Fd.s 100), .int .i64 0], .agg Fd.cells, .tuple #[.int .i64 (sumN Fd.s 100), .int .i64 0], .int .i64 (sumN Fd.s 100), .int .i64 0, .int .i64 0, .bool false, .bool false, .agg Fd.cells, .agg Fd.cells, .bool false, .bool false, .bool false, .agg Fd.cells, .agg Fd.cells, .bool true, .bool false, .bool false, .bool false, .agg Fd.cells, .bool true, .bool false, .bool false, .bool false, .int .i64 0, .int .i64 0, .bool false, .bool false, .bool false, .int .i64 0, .bool false, .bool false, .bool false, .agg (Fld.cells (mirF Fd)), .agg (Fld.cells (mirF Fd)), .bool false, .bool false, .bool false, .int .i64 0, .bool false, .bool false, .bool false, .agg Fd.cells, .agg Fd.cells, .bool false, .bool false, .bool false, .int .i64 0, .bool false, .bool false, .agg Fd.cells, .int .i64 4, .bool false, .int .i64 3, .int .i64 4, .tuple #[.agg Fd.cells, .int .i64 0], .agg (Fld.cells (turF (turF (turF Fd)))), .tuple #[.agg Fd.cells, .int .i64 0], .agg Fd.cells, .int .i64 0, .tuple #[.agg Fd.cells, .int .i64 0], .agg (Fld.cells (turF (turF (turF Fd)))), .tuple #[.agg Fd.cells, .int .i64 0], .agg Fd.cells, .int .i64 0, .tuple #[.int .i64 (sumN Fd.s 100), .int .i64 0], .agg Fd.cells, .tuple #[.int .i64 (sumN Fd.s 100), .int .i64 0], .int .i64 (sumN Fd.s 100), .int .i64 0, .int .i64 0, .int .i64 0, .bool false, .bool false, .int .i64 0, .bool false, .bool false, .bool false, .agg Fd.cells, .agg Fd.cells, .bool false, .bool false, .bool false, .int .i64 0, .bool false, .bool false, .bool false, .int .i64 (sumN Fd.s 100), .int .i64 (sumN Fd.s 100), .bool false, .bool false, .agg Fd.cells, v2, .int .i64 p1, .tuple #[.agg (Fld.cells (tookF Fd c_ p1)), .int .i64 (minI p1 (Fd.s (c_).toNat)), .int .i64 0], .agg Fd.cells, .int .i64 c_, .int .i64 p1, .tuple #[.agg (Fld.cells (tookF Fd c_ p1)), .int .i64 (minI p1 (Fd.s (c_).toNat)), .int .i64 0], .agg (Fld.cells (tookF Fd c_ p1)), .int .i64 (minI p1 (Fd.s (c_).toNat)), .int .i64 0, .tuple #[.agg (Fld.cells (tookF Fd c_ p1)), .int .i64 (minI p1 (Fd.s (c_).toNat)), .int .i64 0], .agg Fd.cells, .int .i64 c_, .int .i64 p1, .tuple #[.agg (Fld.cells (tookF Fd c_ p1)), .int .i64 (minI p1 (Fd.s (c_).toNat)), .int .i64 0], .agg (Fld.cells (tookF Fd c_ p1)), .int .i64 (minI p1 (Fd.s (c_).toNat)), .int .i64 0, .tuple #[.int .i64 (sumN Fd.s 100 - minI p1 (Fd.s (c_).toNat)), .int .i64 0], .agg (Fld.cells (tookF Fd c_ p1)), .tuple #[.int .i64 (sumN Fd.s 100 - minI p1 (Fd.s (c_).toNat)), .int .i64 0], .int .i64 (sumN Fd.s 100 - minI p1 (Fd.s (c_).toNat)), .int .i64 0, .tuple #[.int .i64 (Fd.s (c_).toNat), .int .i64 0], .agg Fd.cells, .int .i64 c_, .tuple #[.int .i64 (Fd.s (c_).toNat), .int .i64 0], .int .i64 (Fd.s (c_).toNat), .int .i64 0, .tuple #[.int .i64 (Fd.k (c_).toNat), .int .i64 0], .agg Fd.cells, .int .i64 c_, .tuple #[.int .i64 (Fd.k (c_).toNat), .int .i64 0], .int .i64 (Fd.k (c_).toNat), .int .i64 0, .agg Fd.cells, .agg Fd.cells, .bool false, .bool false, .int .i64 0, .int .i64 0, .bool false, .bool false, .bool false, .int .i64 0, .bool false, .bool false, .bool false, .agg (Fld.cells (tookF Fd c_ p1)), .agg (Fld.cells (tookF Fd c_ p1)), .bool false, .bool false, .bool false, .int .i64 (minI p1 (Fd.s (c_).toNat)), .int .i64 (minI p1 (Fd.s (c_).toNat)), .bool false, .bool false, .bool false, .int .i64 0, .bool false, .bool false, .bool false, .int .i64 (sumN Fd.s 100 - minI p1 (Fd.s (c_).toNat)), .int .i64 (minI p1 (Fd.s (c_).toNat)), .int .i64 ((sumN Fd.s 100 - minI p1 (Fd.s (c_).toNat)) + (minI p1 (Fd.s (c_).toNat))), .int .i64 (sumN Fd.s 100), .bool (((sumN Fd.s 100 - minI p1 (Fd.s (c_).toNat)) + (minI p1 (Fd.s (c_).toNat))) != (sumN Fd.s 100)), .bool (((sumN Fd.s 100 - minI p1 (Fd.s (c_).toNat)) + (minI p1 (Fd.s (c_).toNat))) != (sumN Fd.s 100)), .bool false, .int .i64 0, .bool false, .bool false, .bool false, .int .i64 (minI p1 (Fd.s (c_).toNat)), .int .i64 p1, .int .i64 (Fd.s (c_).toNat), .int .i64 (minI p1 (Fd.s (c_).toNat)), .bool false, .bool false, .bool false, .int .i64 0, .bool false, .bool false, .bool false, .int .i64 (Fd.k (c_).toNat), .int .i64 c_, .pointer (some ⟨g1, 2, none⟩), .pointer (some ⟨g1, 2 + (c_).toNat, none⟩), .int .u8 (Fd.k ((c_).toNat)), .int .i64 (Fd.k ((c_).toNat)), .bool ((Fd.k (c_).toNat) != (Fd.k ((c_).toNat))), .bool ((Fd.k (c_).toNat) != (Fd.k ((c_).toNat))), .tuple #[.agg Fd.cells, .int .i64 0], .agg (Fld.cells (tookF Fd c_ p1)), .int .i64 c_, .int .i64 (minI p1 (Fd.s (c_).toNat)), .tuple #[.agg Fd.cells, .int .i64 0], .agg Fd.cells, .int .i64 0, undef, undef, undef, undef, undef, undef, undef, undef, undef, undef, undef, undef, undef, undef, undef, undef, undef, undef, undef, undef, undef, undef, undef, undef, undef, undef, undef, undef, undef, undef, undef, undef, undef, undef, undef, undef, undef, undef, undef, undef, undef, undef, undef, undef, undef, undef, undef, undef, undef, undef, undef, undef, undef, undef, undef, undef, undef, undef, undef, undef, undef, undef, undef, undef, undef, undef, undef, undef, undef, undef, undef, undef, undef, undef, undef, undef, undef, undef, undef, undef, undef, undef, undef, undef, undef, undef, undef, undef, undef, undef, undef, undef, undef, undef, undef, undef, undef, undef, undef, undef], []⟩) (by kernel_rfl) ?_
           refine wp_seq ?_
           refine wsr ?_
           replace B1 := X21.blk (B1.ext E48) q_g1_g17
           refine wrow row_impl_Field B1 (by exact Fld.size_cells _) ?_
           refine wv (.int .i64 c_) ?_
           refine wcl (IsSoil_ok Fd hF_ c_ hc_ _) ?_
           intro w70 E49
           refine wbl 275 true h5 ?_
           refine wv (.int .i64 0) ?_
           refine wvv (.bool (0 == 0)) (.bool true) (by simp) ?_
           refine wv (.bool false) ?_
           refine wv (.bool false) ?_
           refine wv (.int .i64 0) ?_
           refine wvv (.bool (0 == 0)) (.bool true) (by simp) ?_
           refine wv (.bool true) ?_
           replace B17 := B17.ext E49
           refine wrow row_impl_Field B17 (by exact Fld.size_cells _) ?_
           replace B1 := B1.ext E49
           refine wrow row_impl_Field B1 (by exact Fld.size_cells _) ?_
           refine wneA fldt_impl_Field.eg (equalIn_fld fldt_impl_Field 9997 Fd Fd) ?_
           refine wbl 285 false (bnT (eqFld_s Fd)) ?_
           refine wv (.bool false) ?_
           refine wv (.bool false) ?_
           refine wv (.bool false) ?_
           refine wv (.int .i64 0) ?_
           refine wvv (.bool (0 != 0)) (.bool false) (by simp) ?_
           refine wv (.bool false) ?_
           refine wsk ?_
           refine wsk ?_
           refine wv (.bool false) ?_
           refine wv (.bool false) ?_
           refine wpList_nil (then_normal ?_)
           refine wcf ?_
           refine wp_skip ?_
           refine then_normal ?_
           refine wsr ?_
           refine wrow row_impl_Field B1 (by exact Fld.size_cells _) ?_
           refine wv (.int .i64 c_) ?_
           refine wcl (iWithKind_ok Fd hF_ hd_.ok c_ hc_ _) ?_
           intro w71 E50
           refine wv (.tuple #[.agg (Fld.cells (withK Fd c_ 2)), .int .i64 0]) ?_
           refine wv (.agg (Fld.cells (withK Fd c_ 2))) ?_
           refine wv (.int .i64 0) ?_
           have H25 := ((X21.ext w lo_g17 (H24.trans E48)).trans E49).trans E50
           replace B1 := B1.ext E50
           replace B2 := ((X21.blk (B2.ext E48) q_g2_g17).ext E49).ext E50
           replace B3 := ((X21.blk (B3.ext E48) q_g3_g17).ext E49).ext E50
           replace B4 := ((X21.blk (B4.ext E48) q_g4_g17).ext E49).ext E50
           replace B5 := ((X21.blk (B5.ext E48) q_g5_g17).ext E49).ext E50
           replace B6 := ((X21.blk (B6.ext E48) q_g6_g17).ext E49).ext E50
           replace B7 := ((X21.blk (B7.ext E48) q_g7_g17).ext E49).ext E50
           replace B8 := ((X21.blk (B8.ext E48) q_g8_g17).ext E49).ext E50
           replace B9 := ((X21.blk (B9.ext E48) q_g9_g17).ext E49).ext E50
           replace B10 := ((X21.blk (B10.ext E48) q_g10_g17).ext E49).ext E50
           replace B11 := ((X21.blk (B11.ext E48) q_g11_g17).ext E49).ext E50
           replace B12 := ((X21.blk (B12.ext E48) q_g12_g17).ext E49).ext E50
           replace B13 := ((X21.blk (B13.ext E48) q_g13_g17).ext E49).ext E50
           replace B14 := ((X21.blk (B14.ext E48) q_g14_g17).ext E49).ext E50
           replace B15 := ((X21.blk (B15.ext E48) q_g15_g17).ext E49).ext E50
           replace B16 := ((X21.blk (B16.ext E48) q_g16_g17).ext E49).ext E50
           replace B17 := B17.ext E50
           refine wnew (Fld.cells Fld.zero) Tryz.zeroValue29 zero_impl_Field ?_
           intro g18 w72 B18 E51 hg_
           have q_g1_g18 := Nat.ne_of_lt (Nat.lt_of_lt_of_le B1.lt hg_)
           have q_g2_g18 := Nat.ne_of_lt (Nat.lt_of_lt_of_le B2.lt hg_)
           have q_g3_g18 := Nat.ne_of_lt (Nat.lt_of_lt_of_le B3.lt hg_)
           have q_g4_g18 := Nat.ne_of_lt (Nat.lt_of_lt_of_le B4.lt hg_)
           have q_g5_g18 := Nat.ne_of_lt (Nat.lt_of_lt_of_le B5.lt hg_)
           have q_g6_g18 := Nat.ne_of_lt (Nat.lt_of_lt_of_le B6.lt hg_)
           have q_g7_g18 := Nat.ne_of_lt (Nat.lt_of_lt_of_le B7.lt hg_)
           have q_g8_g18 := Nat.ne_of_lt (Nat.lt_of_lt_of_le B8.lt hg_)
           have q_g9_g18 := Nat.ne_of_lt (Nat.lt_of_lt_of_le B9.lt hg_)
           have q_g10_g18 := Nat.ne_of_lt (Nat.lt_of_lt_of_le B10.lt hg_)
           have q_g11_g18 := Nat.ne_of_lt (Nat.lt_of_lt_of_le B11.lt hg_)
           have q_g12_g18 := Nat.ne_of_lt (Nat.lt_of_lt_of_le B12.lt hg_)
           have q_g13_g18 := Nat.ne_of_lt (Nat.lt_of_lt_of_le B13.lt hg_)
           have q_g14_g18 := Nat.ne_of_lt (Nat.lt_of_lt_of_le B14.lt hg_)
           have q_g15_g18 := Nat.ne_of_lt (Nat.lt_of_lt_of_le B15.lt hg_)
           have q_g16_g18 := Nat.ne_of_lt (Nat.lt_of_lt_of_le B16.lt hg_)
           have q_g17_g18 := Nat.ne_of_lt (Nat.lt_of_lt_of_le B17.lt hg_)
           have lo_g18 := Nat.le_trans (H25).size hg_
           refine wput (Fld.cells (withK Fd c_ 2)) row_impl_Field B18 (by exact Fld.size_cells _) (by exact Fld.size_cells _) (by exact Fld.one_cells _) ?_
           intro w73 B18_ X22
           clear B18; have B18 := B18_; clear B18_
           refine wv (.int .i64 0) ?_
           refine wpList_nil (then_normal ?_)
           refine wp_frame (a' := ⟨#[v, v2, undef, undef, .bool false, .pointer (some ⟨g1, 0, none⟩), .int .i64 c_, .pointer (some ⟨g2, 0, none⟩), .int .i64 0, .pointer (some ⟨g3, 0, none⟩), .int .i64 0, .pointer (some ⟨g4, 0, none⟩), .int .i64 0, .pointer (some ⟨g5, 0, none⟩), .int .i64 0, .int .i64 (sumN Fd.s 100), .int .i64 0, .pointer (some ⟨g6, 0, none⟩), .int .i64 4, .pointer (some ⟨g13, 0, none⟩), .int .i64 0, .pointer (some ⟨g14, 0, none⟩), .int .i64 0, .int .i64 (sumN Fd.s 100), .int .i64 0, .int .i64 p1, .pointer (some ⟨g15, 0, none⟩), .int .i64 (minI p1 (Fd.s (c_).toNat)), .int .i64 0, .pointer (some ⟨g16, 0, none⟩), .int .i64 (minI p1 (Fd.s (c_).toNat)), .int .i64 0, .int .i64 (sumN Fd.s 100 - minI p1 (Fd.s (c_).toNat)), .int .i64 0, .int .i64 (Fd.s (c_).toNat), .int .i64 0, .int .i64 (Fd.k (c_).toNat), .int .i64 0, .pointer (some ⟨g17, 0, none⟩), .int .i64 0, .pointer (some ⟨g18, 0, none⟩), .int .i64 0, undef, undef, undef, undef, undef, undef, undef, undef, v, .bool (decide (4096 < (xs.length : Int))), .bool false, v2, .bool (decide (4096 < (ys.length : Int))), .bool (decide (4096 < (ys.length : Int))), v, .agg Fd.cells, v2, .agg Fd.cells, .int .i64 c_, .tuple #[.agg Fd.cells, .int .i64 0], .agg Fd.cells, .string (bs (fieldT Fd)), .tuple #[.agg Fd.cells, .int .i64 0], .agg Fd.cells, .int .i64 0, .tuple #[.agg (Fld.cells (mirF Fd)), .int .i64 0], .agg Fd.cells, .tuple #[.agg (Fld.cells (mirF Fd)), .int .i64 0], .agg (Fld.cells (mirF Fd)), .int .i64 0, .tuple #[.agg (Fld.cells (mirF Fd)), .int .i64 0], .agg Fd.cells, .tuple #[.agg (Fld.cells (mirF Fd)), .int .i64 0], .agg (Fld.cells (mirF Fd)), .int .i64 0, .tuple #[.agg Fd.cells, .int .i64 0], .agg (Fld.cells (mirF Fd)), .tuple #[.agg Fd.cells, .int .i64 0], .agg Fd.cells, .int .i64 0, .tuple #[.int .i64 (sumN Fd.s 100), .int .i64 0], .agg Fd.cells, .tuple #[.int .i64 (sumN Fd.s 100), .int .i64 0], .int .i64 (sumN Fd.s 100), .int .i64 0, .int .i64 0, .bool false, .bool false, .agg Fd.cells, .agg Fd.cells, .bool false, .bool false, .bool false, .agg Fd.cells, .agg Fd.cells, .bool true, .bool false, .bool false, .bool false, .agg Fd.cells, .bool true, .bool false, .bool false, .bool false, .int .i64 0, .int .i64 0, .bool false, .bool false, .bool false, .int .i64 0, .bool false, .bool false, .bool false, .agg (Fld.cells (mirF Fd)), .agg (Fld.cells (mirF Fd)), .bool false, .bool false, .bool false, .int .i64 0, .bool false, .bool false, .bool false, .agg Fd.cells, .agg Fd.cells, .bool false, .bool false, .bool false, .int .i64 0, .bool false, .bool false, .agg Fd.cells, .int .i64 4, .bool false, .int .i64 3, .int .i64 4, .tuple #[.agg Fd.cells, .int .i64 0], .agg (Fld.cells (turF (turF (turF Fd)))), .tuple #[.agg Fd.cells, .int .i64 0], .agg Fd.cells, .int .i64 0, .tuple #[.agg Fd.cells, .int .i64 0], .agg (Fld.cells (turF (turF (turF Fd)))), .tuple #[.agg Fd.cells, .int .i64 0], .agg Fd.cells, .int .i64 0, .tuple #[.int .i64 (sumN Fd.s 100), .int .i64 0], .agg Fd.cells, .tuple #[.int .i64 (sumN Fd.s 100), .int .i64 0], .int .i64 (sumN Fd.s 100), .int .i64 0, .int .i64 0, .int .i64 0, .bool false, .bool false, .int .i64 0, .bool false, .bool false, .bool false, .agg Fd.cells, .agg Fd.cells, .bool false, .bool false, .bool false, .int .i64 0, .bool false, .bool false, .bool false, .int .i64 (sumN Fd.s 100), .int .i64 (sumN Fd.s 100), .bool false, .bool false, .agg Fd.cells, v2, .int .i64 p1, .tuple #[.agg (Fld.cells (tookF Fd c_ p1)), .int .i64 (minI p1 (Fd.s (c_).toNat)), .int .i64 0], .agg Fd.cells, .int .i64 c_, .int .i64 p1, .tuple #[.agg (Fld.cells (tookF Fd c_ p1)), .int .i64 (minI p1 (Fd.s (c_).toNat)), .int .i64 0], .agg (Fld.cells (tookF Fd c_ p1)), .int .i64 (minI p1 (Fd.s (c_).toNat)), .int .i64 0, .tuple #[.agg (Fld.cells (tookF Fd c_ p1)), .int .i64 (minI p1 (Fd.s (c_).toNat)), .int .i64 0], .agg Fd.cells, .int .i64 c_, .int .i64 p1, .tuple #[.agg (Fld.cells (tookF Fd c_ p1)), .int .i64 (minI p1 (Fd.s (c_).toNat)), .int .i64 0], .agg (Fld.cells (tookF Fd c_ p1)), .int .i64 (minI p1 (Fd.s (c_).toNat)), .int .i64 0, .tuple #[.int .i64 (sumN Fd.s 100 - minI p1 (Fd.s (c_).toNat)), .int .i64 0], .agg (Fld.cells (tookF Fd c_ p1)), .tuple #[.int .i64 (sumN Fd.s 100 - minI p1 (Fd.s (c_).toNat)), .int .i64 0], .int .i64 (sumN Fd.s 100 - minI p1 (Fd.s (c_).toNat)), .int .i64 0, .tuple #[.int .i64 (Fd.s (c_).toNat), .int .i64 0], .agg Fd.cells, .int .i64 c_, .tuple #[.int .i64 (Fd.s (c_).toNat), .int .i64 0], .int .i64 (Fd.s (c_).toNat), .int .i64 0, .tuple #[.int .i64 (Fd.k (c_).toNat), .int .i64 0], .agg Fd.cells, .int .i64 c_, .tuple #[.int .i64 (Fd.k (c_).toNat), .int .i64 0], .int .i64 (Fd.k (c_).toNat), .int .i64 0, .agg Fd.cells, .agg Fd.cells, .bool false, .bool false, .int .i64 0, .int .i64 0, .bool false, .bool false, .bool false, .int .i64 0, .bool false, .bool false, .bool false, .agg (Fld.cells (tookF Fd c_ p1)), .agg (Fld.cells (tookF Fd c_ p1)), .bool false, .bool false, .bool false, .int .i64 (minI p1 (Fd.s (c_).toNat)), .int .i64 (minI p1 (Fd.s (c_).toNat)), .bool false, .bool false, .bool false, .int .i64 0, .bool false, .bool false, .bool false, .int .i64 (sumN Fd.s 100 - minI p1 (Fd.s (c_).toNat)), .int .i64 (minI p1 (Fd.s (c_).toNat)), .int .i64 ((sumN Fd.s 100 - minI p1 (Fd.s (c_).toNat)) + (minI p1 (Fd.s (c_).toNat))), .int .i64 (sumN Fd.s 100), .bool (((sumN Fd.s 100 - minI p1 (Fd.s (c_).toNat)) + (minI p1 (Fd.s (c_).toNat))) != (sumN Fd.s 100)), .bool (((sumN Fd.s 100 - minI p1 (Fd.s (c_).toNat)) + (minI p1 (Fd.s (c_).toNat))) != (sumN Fd.s 100)), .bool false, .int .i64 0, .bool false, .bool false, .bool false, .int .i64 (minI p1 (Fd.s (c_).toNat)), .int .i64 p1, .int .i64 (Fd.s (c_).toNat), .int .i64 (minI p1 (Fd.s (c_).toNat)), .bool false, .bool false, .bool false, .int .i64 0, .bool false, .bool false, .bool false, .int .i64 (Fd.k (c_).toNat), .int .i64 c_, .pointer (some ⟨g1, 2, none⟩), .pointer (some ⟨g1, 2 + (c_).toNat, none⟩), .int .u8 (Fd.k ((c_).toNat)), .int .i64 (Fd.k ((c_).toNat)), .bool ((Fd.k (c_).toNat) != (Fd.k ((c_).toNat))), .bool ((Fd.k (c_).toNat) != (Fd.k ((c_).toNat))), .tuple #[.agg Fd.cells, .int .i64 0], .agg (Fld.cells (tookF Fd c_ p1)), .int .i64 c_, .int .i64 (minI p1 (Fd.s (c_).toNat)), .tuple #[.agg Fd.cells, .int .i64 0], .agg Fd.cells, .int .i64 0, .agg Fd.cells, .int .i64 c_, .bool true, .int .i64 0, .bool true, .bool false, .bool false, .int .i64 0, .bool true, .bool true, .agg Fd.cells, .agg Fd.cells, .bool false, .bool false, .bool false, .bool false, .int .i64 0, .bool false, .bool false, undef, undef, .bool false, .bool false, .tuple #[.agg (Fld.cells (withK Fd c_ 2)), .int .i64 0], .agg Fd.cells, .int .i64 c_, .tuple #[.agg (Fld.cells (withK Fd c_ 2)), .int .i64 0], .agg (Fld.cells (withK Fd c_ 2)), .int .i64 0, undef, undef, undef, undef, undef, undef, undef, undef, undef, undef, undef, undef, undef, undef, undef, undef, undef, undef, undef, undef, undef, undef, undef, undef, undef, undef, undef, undef, undef, undef, undef, undef, undef, undef, undef, undef, undef, undef, undef, undef, undef, undef, undef, undef, undef, undef, undef, undef, undef, undef, undef, undef, undef, undef, undef, undef, undef, undef, undef, undef, undef, undef, undef, undef, undef, undef, undef, undef, undef, undef, undef], []⟩) (by kernel_rfl) ?_
           refine wsr ?_
           replace B1 := X22.blk (B1.ext E51) q_g1_g18
           refine wrow row_impl_Field B1 (by exact Fld.size_cells _) ?_
           refine wv (.int .i64 c_) ?_
           refine wcl (sWithKind_ok Fd hF_ hd_.ok c_ hc_ _) ?_
           intro w74 E52
           refine wv (.tuple #[.agg (Fld.cells (withK Fd c_ 2)), .int .i64 0]) ?_
           refine wv (.agg (Fld.cells (withK Fd c_ 2))) ?_
           refine wv (.int .i64 0) ?_
           have H26 := (X22.ext w lo_g18 (H25.trans E51)).trans E52
           replace B1 := B1.ext E52
           replace B2 := (X22.blk (B2.ext E51) q_g2_g18).ext E52
           replace B3 := (X22.blk (B3.ext E51) q_g3_g18).ext E52
           replace B4 := (X22.blk (B4.ext E51) q_g4_g18).ext E52
           replace B5 := (X22.blk (B5.ext E51) q_g5_g18).ext E52
           replace B6 := (X22.blk (B6.ext E51) q_g6_g18).ext E52
           replace B7 := (X22.blk (B7.ext E51) q_g7_g18).ext E52
           replace B8 := (X22.blk (B8.ext E51) q_g8_g18).ext E52
           replace B9 := (X22.blk (B9.ext E51) q_g9_g18).ext E52
           replace B10 := (X22.blk (B10.ext E51) q_g10_g18).ext E52
           replace B11 := (X22.blk (B11.ext E51) q_g11_g18).ext E52
           replace B12 := (X22.blk (B12.ext E51) q_g12_g18).ext E52
           replace B13 := (X22.blk (B13.ext E51) q_g13_g18).ext E52
           replace B14 := (X22.blk (B14.ext E51) q_g14_g18).ext E52
           replace B15 := (X22.blk (B15.ext E51) q_g15_g18).ext E52
           replace B16 := (X22.blk (B16.ext E51) q_g16_g18).ext E52
           replace B17 := (X22.blk (B17.ext E51) q_g17_g18).ext E52
           replace B18 := B18.ext E52
           refine wnew (Fld.cells Fld.zero) Tryz.zeroValue29 zero_impl_Field ?_
           intro g19 w75 B19 E53 hg_
           have q_g1_g19 := Nat.ne_of_lt (Nat.lt_of_lt_of_le B1.lt hg_)
           have q_g2_g19 := Nat.ne_of_lt (Nat.lt_of_lt_of_le B2.lt hg_)
           have q_g3_g19 := Nat.ne_of_lt (Nat.lt_of_lt_of_le B3.lt hg_)
           have q_g4_g19 := Nat.ne_of_lt (Nat.lt_of_lt_of_le B4.lt hg_)
           have q_g5_g19 := Nat.ne_of_lt (Nat.lt_of_lt_of_le B5.lt hg_)
           have q_g6_g19 := Nat.ne_of_lt (Nat.lt_of_lt_of_le B6.lt hg_)
           have q_g7_g19 := Nat.ne_of_lt (Nat.lt_of_lt_of_le B7.lt hg_)
           have q_g8_g19 := Nat.ne_of_lt (Nat.lt_of_lt_of_le B8.lt hg_)
           have q_g9_g19 := Nat.ne_of_lt (Nat.lt_of_lt_of_le B9.lt hg_)
           have q_g10_g19 := Nat.ne_of_lt (Nat.lt_of_lt_of_le B10.lt hg_)
           have q_g11_g19 := Nat.ne_of_lt (Nat.lt_of_lt_of_le B11.lt hg_)
           have q_g12_g19 := Nat.ne_of_lt (Nat.lt_of_lt_of_le B12.lt hg_)
           have q_g13_g19 := Nat.ne_of_lt (Nat.lt_of_lt_of_le B13.lt hg_)
           have q_g14_g19 := Nat.ne_of_lt (Nat.lt_of_lt_of_le B14.lt hg_)
           have q_g15_g19 := Nat.ne_of_lt (Nat.lt_of_lt_of_le B15.lt hg_)
           have q_g16_g19 := Nat.ne_of_lt (Nat.lt_of_lt_of_le B16.lt hg_)
           have q_g17_g19 := Nat.ne_of_lt (Nat.lt_of_lt_of_le B17.lt hg_)
           have q_g18_g19 := Nat.ne_of_lt (Nat.lt_of_lt_of_le B18.lt hg_)
           have lo_g19 := Nat.le_trans (H26).size hg_
           refine wput (Fld.cells (withK Fd c_ 2)) row_impl_Field B19 (by exact Fld.size_cells _) (by exact Fld.size_cells _) (by exact Fld.one_cells _) ?_
           intro w76 B19_ X23
           clear B19; have B19 := B19_; clear B19_
           refine wv (.int .i64 0) ?_
           refine wpList_nil (then_normal ?_)
           refine wsr ?_
           refine wrow row_impl_Field B19 (by exact Fld.size_cells _) ?_
           refine wcl (iSeedsIn_ok (withK Fd c_ 2) (wk_wf hF_ hd_.ok hc_) (wk_ok hd_.ok hc_) (v := sumN Fd.s 100 - Fd.s (c_).toNat) (wk_sum hd_.ok hc_) _) ?_
           intro w77 E54
           refine wv (.tuple #[.int .i64 (sumN Fd.s 100 - Fd.s (c_).toNat), .int .i64 0]) ?_
           refine wv (.int .i64 (sumN Fd.s 100 - Fd.s (c_).toNat)) ?_
           refine wv (.int .i64 0) ?_
           refine wv (.int .i64 (sumN Fd.s 100 - Fd.s (c_).toNat)) ?_
           refine wv (.int .i64 0) ?_
           refine wpList_nil (then_normal ?_)
           refine wsr ?_
           refine wv (.pointer (some ⟨g1, 0, none⟩)) ?_
           replace B1 := (X23.blk (B1.ext E53) q_g1_g19).ext E54
           refine wld g1 (0) scal_int8 (B1.get (Fld.get0 _)) ?_
           refine wi64 Fd.w ?_
           refine wv (.pointer (some ⟨g1, 1, none⟩)) ?_
           refine wld g1 (1) scal_int8 (B1.get (Fld.get1 _)) ?_
           refine wi64 Fd.h ?_
           refine wv (.int .i64 p1) ?_
           refine wcl (iPlain_ok Fd.w Fd.h p1 (by omega) (by omega) (by omega) _) ?_
           intro w78 E55
           refine wv (.tuple #[.agg (Fld.cells (plnF Fd.w Fd.h p1)), .int .i64 0]) ?_
           refine wv (.agg (Fld.cells (plnF Fd.w Fd.h p1))) ?_
           refine wv (.int .i64 0) ?_
           have H27 := ((X23.ext w lo_g19 (H26.trans E53)).trans E54).trans E55
           replace B1 := B1.ext E55
           replace B2 := ((X23.blk (B2.ext E53) q_g2_g19).ext E54).ext E55
           replace B3 := ((X23.blk (B3.ext E53) q_g3_g19).ext E54).ext E55
           replace B4 := ((X23.blk (B4.ext E53) q_g4_g19).ext E54).ext E55
           replace B5 := ((X23.blk (B5.ext E53) q_g5_g19).ext E54).ext E55
           replace B6 := ((X23.blk (B6.ext E53) q_g6_g19).ext E54).ext E55
           replace B7 := ((X23.blk (B7.ext E53) q_g7_g19).ext E54).ext E55
           replace B8 := ((X23.blk (B8.ext E53) q_g8_g19).ext E54).ext E55
           replace B9 := ((X23.blk (B9.ext E53) q_g9_g19).ext E54).ext E55
           replace B10 := ((X23.blk (B10.ext E53) q_g10_g19).ext E54).ext E55
           replace B11 := ((X23.blk (B11.ext E53) q_g11_g19).ext E54).ext E55
           replace B12 := ((X23.blk (B12.ext E53) q_g12_g19).ext E54).ext E55
           replace B13 := ((X23.blk (B13.ext E53) q_g13_g19).ext E54).ext E55
           replace B14 := ((X23.blk (B14.ext E53) q_g14_g19).ext E54).ext E55
           replace B15 := ((X23.blk (B15.ext E53) q_g15_g19).ext E54).ext E55
           replace B16 := ((X23.blk (B16.ext E53) q_g16_g19).ext E54).ext E55
           replace B17 := ((X23.blk (B17.ext E53) q_g17_g19).ext E54).ext E55
           replace B18 := ((X23.blk (B18.ext E53) q_g18_g19).ext E54).ext E55
           replace B19 := (B19.ext E54).ext E55
           refine wnew (Fld.cells Fld.zero) Tryz.zeroValue29 zero_impl_Field ?_
           intro g20 w79 B20 E56 hg_
           have q_g1_g20 := Nat.ne_of_lt (Nat.lt_of_lt_of_le B1.lt hg_)
           have q_g2_g20 := Nat.ne_of_lt (Nat.lt_of_lt_of_le B2.lt hg_)
           have q_g3_g20 := Nat.ne_of_lt (Nat.lt_of_lt_of_le B3.lt hg_)
           have q_g4_g20 := Nat.ne_of_lt (Nat.lt_of_lt_of_le B4.lt hg_)
           have q_g5_g20 := Nat.ne_of_lt (Nat.lt_of_lt_of_le B5.lt hg_)
           have q_g6_g20 := Nat.ne_of_lt (Nat.lt_of_lt_of_le B6.lt hg_)
           have q_g7_g20 := Nat.ne_of_lt (Nat.lt_of_lt_of_le B7.lt hg_)
           have q_g8_g20 := Nat.ne_of_lt (Nat.lt_of_lt_of_le B8.lt hg_)
           have q_g9_g20 := Nat.ne_of_lt (Nat.lt_of_lt_of_le B9.lt hg_)
           have q_g10_g20 := Nat.ne_of_lt (Nat.lt_of_lt_of_le B10.lt hg_)
           have q_g11_g20 := Nat.ne_of_lt (Nat.lt_of_lt_of_le B11.lt hg_)
           have q_g12_g20 := Nat.ne_of_lt (Nat.lt_of_lt_of_le B12.lt hg_)
           have q_g13_g20 := Nat.ne_of_lt (Nat.lt_of_lt_of_le B13.lt hg_)
           have q_g14_g20 := Nat.ne_of_lt (Nat.lt_of_lt_of_le B14.lt hg_)
           have q_g15_g20 := Nat.ne_of_lt (Nat.lt_of_lt_of_le B15.lt hg_)
           have q_g16_g20 := Nat.ne_of_lt (Nat.lt_of_lt_of_le B16.lt hg_)
           have q_g17_g20 := Nat.ne_of_lt (Nat.lt_of_lt_of_le B17.lt hg_)
           have q_g18_g20 := Nat.ne_of_lt (Nat.lt_of_lt_of_le B18.lt hg_)
           have q_g19_g20 := Nat.ne_of_lt (Nat.lt_of_lt_of_le B19.lt hg_)
           have lo_g20 := Nat.le_trans (H27).size hg_
           refine wput (Fld.cells (plnF Fd.w Fd.h p1)) row_impl_Field B20 (by exact Fld.size_cells _) (by exact Fld.size_cells _) (by exact Fld.one_cells _) ?_
           intro w80 B20_ X24
           clear B20; have B20 := B20_; clear B20_
           refine wv (.int .i64 0) ?_
           refine wpList_nil (then_normal ?_)
           refine wsr ?_
           refine wrow row_impl_Field B20 (by exact Fld.size_cells _) ?_
           refine wcl (iSeedsIn_ok (plnF Fd.w Fd.h p1) (pln_wf (by omega) (by omega) (by omega)) (pln_ok (by omega) (by omega) (by omega)) (v := p1 * Fd.w * Fd.h) (pln_sum (by omega) (by omega) (by omega)) _) ?_
           intro w81 E57
           refine wv (.tuple #[.int .i64 (p1 * Fd.w * Fd.h), .int .i64 0]) ?_
           refine wv (.int .i64 (p1 * Fd.w * Fd.h)) ?_
           refine wv (.int .i64 0) ?_
           refine wv (.int .i64 (p1 * Fd.w * Fd.h)) ?_
           refine wv (.int .i64 0) ?_
           refine wpList_nil (then_normal ?_)
           refine wp_frame (a' := ⟨#[v, v2, undef, undef, .bool false, .pointer (some ⟨g1, 0, none⟩), .int .i64 c_, .pointer (some ⟨g2, 0, none⟩), .int .i64 0, .pointer (some ⟨g3, 0, none⟩), .int .i64 0, .pointer (some ⟨g4, 0, none⟩), .int .i64 0, .pointer (some ⟨g5, 0, none⟩), .int .i64 0, .int .i64 (sumN Fd.s 100), .int .i64 0, .pointer (some ⟨g6, 0, none⟩), .int .i64 4, .pointer (some ⟨g13, 0, none⟩), .int .i64 0, .pointer (some ⟨g14, 0, none⟩), .int .i64 0, .int .i64 (sumN Fd.s 100), .int .i64 0, .int .i64 p1, .pointer (some ⟨g15, 0, none⟩), .int .i64 (minI p1 (Fd.s (c_).toNat)), .int .i64 0, .pointer (some ⟨g16, 0, none⟩), .int .i64 (minI p1 (Fd.s (c_).toNat)), .int .i64 0, .int .i64 (sumN Fd.s 100 - minI p1 (Fd.s (c_).toNat)), .int .i64 0, .int .i64 (Fd.s (c_).toNat), .int .i64 0, .int .i64 (Fd.k (c_).toNat), .int .i64 0, .pointer (some ⟨g17, 0, none⟩), .int .i64 0, .pointer (some ⟨g18, 0, none⟩), .int .i64 0, .pointer (some ⟨g19, 0, none⟩), .int .i64 0, .int .i64 (sumN Fd.s 100 - Fd.s (c_).toNat), .int .i64 0, .pointer (some ⟨g20, 0, none⟩), .int .i64 0, .int .i64 (p1 * Fd.w * Fd.h), .int .i64 0, v, .bool (decide (4096 < (xs.length : Int))), .bool false, v2, .bool (decide (4096 < (ys.length : Int))), .bool (decide (4096 < (ys.length : Int))), v, .agg Fd.cells, v2, .agg Fd.cells, .int .i64 c_, .tuple #[.agg Fd.cells, .int .i64 0], .agg Fd.cells, .string (bs (fieldT Fd)), .tuple #[.agg Fd.cells, .int .i64 0], .agg Fd.cells, .int .i64 0, .tuple #[.agg (Fld.cells (mirF Fd)), .int .i64 0], .agg Fd.cells, .tuple #[.agg (Fld.cells (mirF Fd)), .int .i64 0], .agg (Fld.cells (mirF Fd)), .int .i64 0, .tuple #[.agg (Fld.cells (mirF Fd)), .int .i64 0], .agg Fd.cells, .tuple #[.agg (Fld.cells (mirF Fd)), .int .i64 0], .agg (Fld.cells (mirF Fd)), .int .i64 0, .tuple #[.agg Fd.cells, .int .i64 0], .agg (Fld.cells (mirF Fd)), .tuple #[.agg Fd.cells, .int .i64 0], .agg Fd.cells, .int .i64 0, .tuple #[.int .i64 (sumN Fd.s 100), .int .i64 0], .agg Fd.cells, .tuple #[.int .i64 (sumN Fd.s 100), .int .i64 0], .int .i64 (sumN Fd.s 100), .int .i64 0, .int .i64 0, .bool false, .bool false, .agg Fd.cells, .agg Fd.cells, .bool false, .bool false, .bool false, .agg Fd.cells, .agg Fd.cells, .bool true, .bool false, .bool false, .bool false, .agg Fd.cells, .bool true, .bool false, .bool false, .bool false, .int .i64 0, .int .i64 0, .bool false, .bool false, .bool false, .int .i64 0, .bool false, .bool false, .bool false, .agg (Fld.cells (mirF Fd)), .agg (Fld.cells (mirF Fd)), .bool false, .bool false, .bool false, .int .i64 0, .bool false, .bool false, .bool false, .agg Fd.cells, .agg Fd.cells, .bool false, .bool false, .bool false, .int .i64 0, .bool false, .bool false, .agg Fd.cells, .int .i64 4, .bool false, .int .i64 3, .int .i64 4, .tuple #[.agg Fd.cells, .int .i64 0], .agg (Fld.cells (turF (turF (turF Fd)))), .tuple #[.agg Fd.cells, .int .i64 0], .agg Fd.cells, .int .i64 0, .tuple #[.agg Fd.cells, .int .i64 0], .agg (Fld.cells (turF (turF (turF Fd)))), .tuple #[.agg Fd.cells, .int .i64 0], .agg Fd.cells, .int .i64 0, .tuple #[.int .i64 (sumN Fd.s 100), .int .i64 0], .agg Fd.cells, .tuple #[.int .i64 (sumN Fd.s 100), .int .i64 0], .int .i64 (sumN Fd.s 100), .int .i64 0, .int .i64 0, .int .i64 0, .bool false, .bool false, .int .i64 0, .bool false, .bool false, .bool false, .agg Fd.cells, .agg Fd.cells, .bool false, .bool false, .bool false, .int .i64 0, .bool false, .bool false, .bool false, .int .i64 (sumN Fd.s 100), .int .i64 (sumN Fd.s 100), .bool false, .bool false, .agg Fd.cells, v2, .int .i64 p1, .tuple #[.agg (Fld.cells (tookF Fd c_ p1)), .int .i64 (minI p1 (Fd.s (c_).toNat)), .int .i64 0], .agg Fd.cells, .int .i64 c_, .int .i64 p1, .tuple #[.agg (Fld.cells (tookF Fd c_ p1)), .int .i64 (minI p1 (Fd.s (c_).toNat)), .int .i64 0], .agg (Fld.cells (tookF Fd c_ p1)), .int .i64 (minI p1 (Fd.s (c_).toNat)), .int .i64 0, .tuple #[.agg (Fld.cells (tookF Fd c_ p1)), .int .i64 (minI p1 (Fd.s (c_).toNat)), .int .i64 0], .agg Fd.cells, .int .i64 c_, .int .i64 p1, .tuple #[.agg (Fld.cells (tookF Fd c_ p1)), .int .i64 (minI p1 (Fd.s (c_).toNat)), .int .i64 0], .agg (Fld.cells (tookF Fd c_ p1)), .int .i64 (minI p1 (Fd.s (c_).toNat)), .int .i64 0, .tuple #[.int .i64 (sumN Fd.s 100 - minI p1 (Fd.s (c_).toNat)), .int .i64 0], .agg (Fld.cells (tookF Fd c_ p1)), .tuple #[.int .i64 (sumN Fd.s 100 - minI p1 (Fd.s (c_).toNat)), .int .i64 0], .int .i64 (sumN Fd.s 100 - minI p1 (Fd.s (c_).toNat)), .int .i64 0, .tuple #[.int .i64 (Fd.s (c_).toNat), .int .i64 0], .agg Fd.cells, .int .i64 c_, .tuple #[.int .i64 (Fd.s (c_).toNat), .int .i64 0], .int .i64 (Fd.s (c_).toNat), .int .i64 0, .tuple #[.int .i64 (Fd.k (c_).toNat), .int .i64 0], .agg Fd.cells, .int .i64 c_, .tuple #[.int .i64 (Fd.k (c_).toNat), .int .i64 0], .int .i64 (Fd.k (c_).toNat), .int .i64 0, .agg Fd.cells, .agg Fd.cells, .bool false, .bool false, .int .i64 0, .int .i64 0, .bool false, .bool false, .bool false, .int .i64 0, .bool false, .bool false, .bool false, .agg (Fld.cells (tookF Fd c_ p1)), .agg (Fld.cells (tookF Fd c_ p1)), .bool false, .bool false, .bool false, .int .i64 (minI p1 (Fd.s (c_).toNat)), .int .i64 (minI p1 (Fd.s (c_).toNat)), .bool false, .bool false, .bool false, .int .i64 0, .bool false, .bool false, .bool false, .int .i64 (sumN Fd.s 100 - minI p1 (Fd.s (c_).toNat)), .int .i64 (minI p1 (Fd.s (c_).toNat)), .int .i64 ((sumN Fd.s 100 - minI p1 (Fd.s (c_).toNat)) + (minI p1 (Fd.s (c_).toNat))), .int .i64 (sumN Fd.s 100), .bool (((sumN Fd.s 100 - minI p1 (Fd.s (c_).toNat)) + (minI p1 (Fd.s (c_).toNat))) != (sumN Fd.s 100)), .bool (((sumN Fd.s 100 - minI p1 (Fd.s (c_).toNat)) + (minI p1 (Fd.s (c_).toNat))) != (sumN Fd.s 100)), .bool false, .int .i64 0, .bool false, .bool false, .bool false, .int .i64 (minI p1 (Fd.s (c_).toNat)), .int .i64 p1, .int .i64 (Fd.s (c_).toNat), .int .i64 (minI p1 (Fd.s (c_).toNat)), .bool false, .bool false, .bool false, .int .i64 0, .bool false, .bool false, .bool false, .int .i64 (Fd.k (c_).toNat), .int .i64 c_, .pointer (some ⟨g1, 2, none⟩), .pointer (some ⟨g1, 2 + (c_).toNat, none⟩), .int .u8 (Fd.k ((c_).toNat)), .int .i64 (Fd.k ((c_).toNat)), .bool ((Fd.k (c_).toNat) != (Fd.k ((c_).toNat))), .bool ((Fd.k (c_).toNat) != (Fd.k ((c_).toNat))), .tuple #[.agg Fd.cells, .int .i64 0], .agg (Fld.cells (tookF Fd c_ p1)), .int .i64 c_, .int .i64 (minI p1 (Fd.s (c_).toNat)), .tuple #[.agg Fd.cells, .int .i64 0], .agg Fd.cells, .int .i64 0, .agg Fd.cells, .int .i64 c_, .bool true, .int .i64 0, .bool true, .bool false, .bool false, .int .i64 0, .bool true, .bool true, .agg Fd.cells, .agg Fd.cells, .bool false, .bool false, .bool false, .bool false, .int .i64 0, .bool false, .bool false, undef, undef, .bool false, .bool false, .tuple #[.agg (Fld.cells (withK Fd c_ 2)), .int .i64 0], .agg Fd.cells, .int .i64 c_, .tuple #[.agg (Fld.cells (withK Fd c_ 2)), .int .i64 0], .agg (Fld.cells (withK Fd c_ 2)), .int .i64 0, .tuple #[.agg (Fld.cells (withK Fd c_ 2)), .int .i64 0], .agg Fd.cells, .int .i64 c_, .tuple #[.agg (Fld.cells (withK Fd c_ 2)), .int .i64 0], .agg (Fld.cells (withK Fd c_ 2)), .int .i64 0, .tuple #[.int .i64 (sumN Fd.s 100 - Fd.s (c_).toNat), .int .i64 0], .agg (Fld.cells (withK Fd c_ 2)), .tuple #[.int .i64 (sumN Fd.s 100 - Fd.s (c_).toNat), .int .i64 0], .int .i64 (sumN Fd.s 100 - Fd.s (c_).toNat), .int .i64 0, .tuple #[.agg (Fld.cells (plnF Fd.w Fd.h p1)), .int .i64 0], .pointer (some ⟨g1, 0, none⟩), .int .i8 Fd.w, .int .i64 Fd.w, .pointer (some ⟨g1, 1, none⟩), .int .i8 Fd.h, .int .i64 Fd.h, .int .i64 p1, .tuple #[.agg (Fld.cells (plnF Fd.w Fd.h p1)), .int .i64 0], .agg (Fld.cells (plnF Fd.w Fd.h p1)), .int .i64 0, .tuple #[.int .i64 (p1 * Fd.w * Fd.h), .int .i64 0], .agg (Fld.cells (plnF Fd.w Fd.h p1)), .tuple #[.int .i64 (p1 * Fd.w * Fd.h), .int .i64 0], .int .i64 (p1 * Fd.w * Fd.h), .int .i64 0, undef, undef, undef, undef, undef, undef, undef, undef, undef, undef, undef, undef, undef, undef, undef, undef, undef, undef, undef, undef, undef, undef, undef, undef, undef, undef, undef, undef, undef, undef, undef, undef, undef, undef, undef, undef, undef, undef, undef, undef, undef, undef, undef, undef], []⟩) (by kernel_rfl) ?_
           refine wsr ?_
           refine wv (.int .i64 0) ?_
           refine wv (.int .i64 0) ?_
           refine wvv (.bool (0 == 0)) (.bool true) (by simp) ?_
           refine wv (.bool true) ?_
           refine wv (.int .i64 0) ?_
           refine wvv (.bool (0 == 0)) (.bool true) (by simp) ?_
           refine wv (.bool true) ?_
           refine wv (.bool true) ?_
           replace B18 := (X24.blk (B18.ext E56) q_g18_g20).ext E57
           refine wrow row_impl_Field B18 (by exact Fld.size_cells _) ?_
           replace B19 := (X24.blk (B19.ext E56) q_g19_g20).ext E57
           refine wrow row_impl_Field B19 (by exact Fld.size_cells _) ?_
           refine weqA fldt_impl_Field.eg (equalIn_fld fldt_impl_Field 9997 (withK Fd c_ 2) (withK Fd c_ 2)) ?_
           refine wbl 339 true (eqFld_s (withK Fd c_ 2)) ?_
           refine wv (.bool true) ?_
           refine wv (.bool true) ?_
           refine wv (.int .i64 0) ?_
           refine wvv (.bool (0 == 0)) (.bool true) (by simp) ?_
           refine wv (.bool true) ?_
           refine wv (.bool true) ?_
           refine wv (.int .i64 (sumN Fd.s 100 - Fd.s (c_).toNat)) ?_
           refine wv (.int .i64 (sumN Fd.s 100)) ?_
           refine wv (.int .i64 (Fd.s (c_).toNat)) ?_
           refine wi64 ((sumN Fd.s 100) - (Fd.s (c_).toNat)) ?_
           refine wv (.bool ((sumN Fd.s 100 - Fd.s (c_).toNat) == ((sumN Fd.s 100) - (Fd.s (c_).toNat)))) ?_
           refine wv (.bool ((sumN Fd.s 100 - Fd.s (c_).toNat) == ((sumN Fd.s 100) - (Fd.s (c_).toNat)))) ?_
           refine wv (.bool ((sumN Fd.s 100 - Fd.s (c_).toNat) == ((sumN Fd.s 100) - (Fd.s (c_).toNat)))) ?_
           have H28 := (X24.ext w lo_g20 (H27.trans E56)).trans E57
           refine split_bool ((sumN Fd.s 100 - Fd.s (c_).toNat) == ((sumN Fd.s 100) - (Fd.s (c_).toNat))) (fun h6 => ?_) (fun h6 => ?_)
           · skip
             refine wbl 352 true h6 ?_
             have h6d := eT h6
             refine wv (.int .i64 0) ?_
             refine wvv (.bool (0 == 0)) (.bool true) (by simp) ?_
             refine wv (.bool true) ?_
             refine wv (.bool true) ?_
             refine wv (.int .i64 0) ?_
             refine wvv (.bool (0 == 0)) (.bool true) (by simp) ?_
             refine wv (.bool true) ?_
             refine wv (.bool true) ?_
             refine wv (.int .i64 (p1 * Fd.w * Fd.h)) ?_
             refine wv (.int .i64 p1) ?_
             refine wv (.pointer (some ⟨g1, 0, none⟩)) ?_
             replace B1 := (X24.blk (B1.ext E56) q_g1_g20).ext E57
             refine wld g1 (0) scal_int8 (B1.get (Fld.get0 _)) ?_
             refine wi64 Fd.w ?_
             refine wi64 (p1 * Fd.w) ?_
             refine wv (.pointer (some ⟨g1, 1, none⟩)) ?_
             refine wld g1 (1) scal_int8 (B1.get (Fld.get1 _)) ?_
             refine wi64 Fd.h ?_
             refine wi64 ((p1 * Fd.w) * Fd.h) ?_
             refine wv (.bool ((p1 * Fd.w * Fd.h) == ((p1 * Fd.w) * Fd.h))) ?_
             refine wv (.bool ((p1 * Fd.w * Fd.h) == ((p1 * Fd.w) * Fd.h))) ?_
             refine wpl_frame (a' := ⟨#[v, v2, undef, undef, .bool false, .pointer (some ⟨g1, 0, none⟩), .int .i64 c_, .pointer (some ⟨g2, 0, none⟩), .int .i64 0, .pointer (some ⟨g3, 0, none⟩), .int .i64 0, .pointer (some ⟨g4, 0, none⟩), .int .i64 0, .pointer (some ⟨g5, 0, none⟩), .int .i64 0, .int .i64 (sumN Fd.s 100), .int .i64 0, .pointer (some ⟨g6, 0, none⟩), .int .i64 4, .pointer (some ⟨g13, 0, none⟩), .int .i64 0, .pointer (some ⟨g14, 0, none⟩), .int .i64 0, .int .i64 (sumN Fd.s 100), .int .i64 0, .int .i64 p1, .pointer (some ⟨g15, 0, none⟩), .int .i64 (minI p1 (Fd.s (c_).toNat)), .int .i64 0, .pointer (some ⟨g16, 0, none⟩), .int .i64 (minI p1 (Fd.s (c_).toNat)), .int .i64 0, .int .i64 (sumN Fd.s 100 - minI p1 (Fd.s (c_).toNat)), .int .i64 0, .int .i64 (Fd.s (c_).toNat), .int .i64 0, .int .i64 (Fd.k (c_).toNat), .int .i64 0, .pointer (some ⟨g17, 0, none⟩), .int .i64 0, .pointer (some ⟨g18, 0, none⟩), .int .i64 0, .pointer (some ⟨g19, 0, none⟩), .int .i64 0, .int .i64 (sumN Fd.s 100 - Fd.s (c_).toNat), .int .i64 0, .pointer (some ⟨g20, 0, none⟩), .int .i64 0, .int .i64 (p1 * Fd.w * Fd.h), .int .i64 0, v, .bool (decide (4096 < (xs.length : Int))), .bool false, v2, .bool (decide (4096 < (ys.length : Int))), .bool (decide (4096 < (ys.length : Int))), v, .agg Fd.cells, v2, .agg Fd.cells, .int .i64 c_, .tuple #[.agg Fd.cells, .int .i64 0], .agg Fd.cells, .string (bs (fieldT Fd)), .tuple #[.agg Fd.cells, .int .i64 0], .agg Fd.cells, .int .i64 0, .tuple #[.agg (Fld.cells (mirF Fd)), .int .i64 0], .agg Fd.cells, .tuple #[.agg (Fld.cells (mirF Fd)), .int .i64 0], .agg (Fld.cells (mirF Fd)), .int .i64 0, .tuple #[.agg (Fld.cells (mirF Fd)), .int .i64 0], .agg Fd.cells, .tuple #[.agg (Fld.cells (mirF Fd)), .int .i64 0], .agg (Fld.cells (mirF Fd)), .int .i64 0, .tuple #[.agg Fd.cells, .int .i64 0], .agg (Fld.cells (mirF Fd)), .tuple #[.agg Fd.cells, .int .i64 0], .agg Fd.cells, .int .i64 0, .tuple #[.int .i64 (sumN Fd.s 100), .int .i64 0], .agg Fd.cells, .tuple #[.int .i64 (sumN Fd.s 100), .int .i64 0], .int .i64 (sumN Fd.s 100), .int .i64 0, .int .i64 0, .bool false, .bool false, .agg Fd.cells, .agg Fd.cells, .bool false, .bool false, .bool false, .agg Fd.cells, .agg Fd.cells, .bool true, .bool false, .bool false, .bool false, .agg Fd.cells, .bool true, .bool false, .bool false, .bool false, .int .i64 0, .int .i64 0, .bool false, .bool false, .bool false, .int .i64 0, .bool false, .bool false, .bool false, .agg (Fld.cells (mirF Fd)), .agg (Fld.cells (mirF Fd)), .bool false, .bool false, .bool false, .int .i64 0, .bool false, .bool false, .bool false, .agg Fd.cells, .agg Fd.cells, .bool false, .bool false, .bool false, .int .i64 0, .bool false, .bool false, .agg Fd.cells, .int .i64 4, .bool false, .int .i64 3, .int .i64 4, .tuple #[.agg Fd.cells, .int .i64 0], .agg (Fld.cells (turF (turF (turF Fd)))), .tuple #[.agg Fd.cells, .int .i64 0], .agg Fd.cells, .int .i64 0, .tuple #[.agg Fd.cells, .int .i64 0], .agg (Fld.cells (turF (turF (turF Fd)))), .tuple #[.agg Fd.cells, .int .i64 0], .agg Fd.cells, .int .i64 0, .tuple #[.int .i64 (sumN Fd.s 100), .int .i64 0], .agg Fd.cells, .tuple #[.int .i64 (sumN Fd.s 100), .int .i64 0], .int .i64 (sumN Fd.s 100), .int .i64 0, .int .i64 0, .int .i64 0, .bool false, .bool false, .int .i64 0, .bool false, .bool false, .bool false, .agg Fd.cells, .agg Fd.cells, .bool false, .bool false, .bool false, .int .i64 0, .bool false, .bool false, .bool false, .int .i64 (sumN Fd.s 100), .int .i64 (sumN Fd.s 100), .bool false, .bool false, .agg Fd.cells, v2, .int .i64 p1, .tuple #[.agg (Fld.cells (tookF Fd c_ p1)), .int .i64 (minI p1 (Fd.s (c_).toNat)), .int .i64 0], .agg Fd.cells, .int .i64 c_, .int .i64 p1, .tuple #[.agg (Fld.cells (tookF Fd c_ p1)), .int .i64 (minI p1 (Fd.s (c_).toNat)), .int .i64 0], .agg (Fld.cells (tookF Fd c_ p1)), .int .i64 (minI p1 (Fd.s (c_).toNat)), .int .i64 0, .tuple #[.agg (Fld.cells (tookF Fd c_ p1)), .int .i64 (minI p1 (Fd.s (c_).toNat)), .int .i64 0], .agg Fd.cells, .int .i64 c_, .int .i64 p1, .tuple #[.agg (Fld.cells (tookF Fd c_ p1)), .int .i64 (minI p1 (Fd.s (c_).toNat)), .int .i64 0], .agg (Fld.cells (tookF Fd c_ p1)), .int .i64 (minI p1 (Fd.s (c_).toNat)), .int .i64 0, .tuple #[.int .i64 (sumN Fd.s 100 - minI p1 (Fd.s (c_).toNat)), .int .i64 0], .agg (Fld.cells (tookF Fd c_ p1)), .tuple #[.int .i64 (sumN Fd.s 100 - minI p1 (Fd.s (c_).toNat)), .int .i64 0], .int .i64 (sumN Fd.s 100 - minI p1 (Fd.s (c_).toNat)), .int .i64 0, .tuple #[.int .i64 (Fd.s (c_).toNat), .int .i64 0], .agg Fd.cells, .int .i64 c_, .tuple #[.int .i64 (Fd.s (c_).toNat), .int .i64 0], .int .i64 (Fd.s (c_).toNat), .int .i64 0, .tuple #[.int .i64 (Fd.k (c_).toNat), .int .i64 0], .agg Fd.cells, .int .i64 c_, .tuple #[.int .i64 (Fd.k (c_).toNat), .int .i64 0], .int .i64 (Fd.k (c_).toNat), .int .i64 0, .agg Fd.cells, .agg Fd.cells, .bool false, .bool false, .int .i64 0, .int .i64 0, .bool false, .bool false, .bool false, .int .i64 0, .bool false, .bool false, .bool false, .agg (Fld.cells (tookF Fd c_ p1)), .agg (Fld.cells (tookF Fd c_ p1)), .bool false, .bool false, .bool false, .int .i64 (minI p1 (Fd.s (c_).toNat)), .int .i64 (minI p1 (Fd.s (c_).toNat)), .bool false, .bool false, .bool false, .int .i64 0, .bool false, .bool false, .bool false, .int .i64 (sumN Fd.s 100 - minI p1 (Fd.s (c_).toNat)), .int .i64 (minI p1 (Fd.s (c_).toNat)), .int .i64 ((sumN Fd.s 100 - minI p1 (Fd.s (c_).toNat)) + (minI p1 (Fd.s (c_).toNat))), .int .i64 (sumN Fd.s 100), .bool (((sumN Fd.s 100 - minI p1 (Fd.s (c_).toNat)) + (minI p1 (Fd.s (c_).toNat))) != (sumN Fd.s 100)), .bool (((sumN Fd.s 100 - minI p1 (Fd.s (c_).toNat)) + (minI p1 (Fd.s (c_).toNat))) != (sumN Fd.s 100)), .bool false, .int .i64 0, .bool false, .bool false, .bool false, .int .i64 (minI p1 (Fd.s (c_).toNat)), .int .i64 p1, .int .i64 (Fd.s (c_).toNat), .int .i64 (minI p1 (Fd.s (c_).toNat)), .bool false, .bool false, .bool false, .int .i64 0, .bool false, .bool false, .bool false, .int .i64 (Fd.k (c_).toNat), .int .i64 c_, .pointer (some ⟨g1, 2, none⟩), .pointer (some ⟨g1, 2 + (c_).toNat, none⟩), .int .u8 (Fd.k ((c_).toNat)), .int .i64 (Fd.k ((c_).toNat)), .bool ((Fd.k (c_).toNat) != (Fd.k ((c_).toNat))), .bool ((Fd.k (c_).toNat) != (Fd.k ((c_).toNat))), .tuple #[.agg Fd.cells, .int .i64 0], .agg (Fld.cells (tookF Fd c_ p1)), .int .i64 c_, .int .i64 (minI p1 (Fd.s (c_).toNat)), .tuple #[.agg Fd.cells, .int .i64 0], .agg Fd.cells, .int .i64 0, .agg Fd.cells, .int .i64 c_, .bool true, .int .i64 0, .bool true, .bool false, .bool false, .int .i64 0, .bool true, .bool true, .agg Fd.cells, .agg Fd.cells, .bool false, .bool false, .bool false, .bool false, .int .i64 0, .bool false, .bool false, undef, undef, .bool false, .bool false, .tuple #[.agg (Fld.cells (withK Fd c_ 2)), .int .i64 0], .agg Fd.cells, .int .i64 c_, .tuple #[.agg (Fld.cells (withK Fd c_ 2)), .int .i64 0], .agg (Fld.cells (withK Fd c_ 2)), .int .i64 0, .tuple #[.agg (Fld.cells (withK Fd c_ 2)), .int .i64 0], .agg Fd.cells, .int .i64 c_, .tuple #[.agg (Fld.cells (withK Fd c_ 2)), .int .i64 0], .agg (Fld.cells (withK Fd c_ 2)), .int .i64 0, .tuple #[.int .i64 (sumN Fd.s 100 - Fd.s (c_).toNat), .int .i64 0], .agg (Fld.cells (withK Fd c_ 2)), .tuple #[.int .i64 (sumN Fd.s 100 - Fd.s (c_).toNat), .int .i64 0], .int .i64 (sumN Fd.s 100 - Fd.s (c_).toNat), .int .i64 0, .tuple #[.agg (Fld.cells (plnF Fd.w Fd.h p1)), .int .i64 0], .pointer (some ⟨g1, 0, none⟩), .int .i8 Fd.w, .int .i64 Fd.w, .pointer (some ⟨g1, 1, none⟩), .int .i8 Fd.h, .int .i64 Fd.h, .int .i64 p1, .tuple #[.agg (Fld.cells (plnF Fd.w Fd.h p1)), .int .i64 0], .agg (Fld.cells (plnF Fd.w Fd.h p1)), .int .i64 0, .tuple #[.int .i64 (p1 * Fd.w * Fd.h), .int .i64 0], .agg (Fld.cells (plnF Fd.w Fd.h p1)), .tuple #[.int .i64 (p1 * Fd.w * Fd.h), .int .i64 0], .int .i64 (p1 * Fd.w * Fd.h), .int .i64 0, .int .i64 0, .int .i64 0, .bool true, .bool true, .int .i64 0, .bool true, .bool true, .bool true, .agg (Fld.cells (withK Fd c_ 2)), .agg (Fld.cells (withK Fd c_ 2)), .bool true, .bool true, .bool true, .int .i64 0, .bool true, .bool true, .bool true, .int .i64 (sumN Fd.s 100 - Fd.s (c_).toNat), .int .i64 (sumN Fd.s 100), .int .i64 (Fd.s (c_).toNat), .int .i64 ((sumN Fd.s 100) - (Fd.s (c_).toNat)), .bool ((sumN Fd.s 100 - Fd.s (c_).toNat) == ((sumN Fd.s 100) - (Fd.s (c_).toNat))), .bool ((sumN Fd.s 100 - Fd.s (c_).toNat) == ((sumN Fd.s 100) - (Fd.s (c_).toNat))), .bool true, .int .i64 0, .bool true, .bool true, .bool true, .int .i64 0, .bool true, .bool true, .bool true, .int .i64 (p1 * Fd.w * Fd.h), .int .i64 p1, .pointer (some ⟨g1, 0, none⟩), .int .i8 Fd.w, .int .i64 Fd.w, .int .i64 (p1 * Fd.w), .pointer (some ⟨g1, 1, none⟩), .int .i8 Fd.h, .int .i64 Fd.h, .int .i64 ((p1 * Fd.w) * Fd.h), .bool ((p1 * Fd.w * Fd.h) == ((p1 * Fd.w) * Fd.h)), .bool ((p1 * Fd.w * Fd.h) == ((p1 * Fd.w) * Fd.h))], []⟩) (by kernel_rfl) ?_
             refine wv (.bool ((p1 * Fd.w * Fd.h) == ((p1 * Fd.w) * Fd.h))) ?_
             refine wpList_nil (then_normal ?_)
             refine wp_ret ?_
             refine ret1 (.bool true) rfl ?_ rfl ?_
             · refine (resT (v := .bool ((p1 * Fd.w * Fd.h) == ((p1 * Fd.w) * Fd.h))) (by kernel_rfl)).trans ?_
               refine congrArg Value.bool ?_
               first | exact beq_self_eq_true _ | (exfalso; omega)
             exact ⟨rfl, H28⟩
           · skip
             refine wbl 352 false h6 ?_
             have h6d := eF h6
             refine wsk ?_
             refine wsk ?_
             refine wv (.bool false) ?_
             refine wv (.bool false) ?_
             refine wsk ?_
             refine wsk ?_
             refine wv (.bool false) ?_
             refine wv (.bool false) ?_
             refine wsk ?_
             refine wsk ?_
             refine wsk ?_
             refine wsk ?_
             refine wsk ?_
             refine wsk ?_
             refine wsk ?_
             refine wsk ?_
             refine wsk ?_
             refine wsk ?_
             refine wsk ?_
             refine wv (.bool false) ?_
             refine wpl_frame (a' := ⟨#[v, v2, undef, undef, .bool false, .pointer (some ⟨g1, 0, none⟩), .int .i64 c_, .pointer (some ⟨g2, 0, none⟩), .int .i64 0, .pointer (some ⟨g3, 0, none⟩), .int .i64 0, .pointer (some ⟨g4, 0, none⟩), .int .i64 0, .pointer (some ⟨g5, 0, none⟩), .int .i64 0, .int .i64 (sumN Fd.s 100), .int .i64 0, .pointer (some ⟨g6, 0, none⟩), .int .i64 4, .pointer (some ⟨g13, 0, none⟩), .int .i64 0, .pointer (some ⟨g14, 0, none⟩), .int .i64 0, .int .i64 (sumN Fd.s 100), .int .i64 0, .int .i64 p1, .pointer (some ⟨g15, 0, none⟩), .int .i64 (minI p1 (Fd.s (c_).toNat)), .int .i64 0, .pointer (some ⟨g16, 0, none⟩), .int .i64 (minI p1 (Fd.s (c_).toNat)), .int .i64 0, .int .i64 (sumN Fd.s 100 - minI p1 (Fd.s (c_).toNat)), .int .i64 0, .int .i64 (Fd.s (c_).toNat), .int .i64 0, .int .i64 (Fd.k (c_).toNat), .int .i64 0, .pointer (some ⟨g17, 0, none⟩), .int .i64 0, .pointer (some ⟨g18, 0, none⟩), .int .i64 0, .pointer (some ⟨g19, 0, none⟩), .int .i64 0, .int .i64 (sumN Fd.s 100 - Fd.s (c_).toNat), .int .i64 0, .pointer (some ⟨g20, 0, none⟩), .int .i64 0, .int .i64 (p1 * Fd.w * Fd.h), .int .i64 0, v, .bool (decide (4096 < (xs.length : Int))), .bool false, v2, .bool (decide (4096 < (ys.length : Int))), .bool (decide (4096 < (ys.length : Int))), v, .agg Fd.cells, v2, .agg Fd.cells, .int .i64 c_, .tuple #[.agg Fd.cells, .int .i64 0], .agg Fd.cells, .string (bs (fieldT Fd)), .tuple #[.agg Fd.cells, .int .i64 0], .agg Fd.cells, .int .i64 0, .tuple #[.agg (Fld.cells (mirF Fd)), .int .i64 0], .agg Fd.cells, .tuple #[.agg (Fld.cells (mirF Fd)), .int .i64 0], .agg (Fld.cells (mirF Fd)), .int .i64 0, .tuple #[.agg (Fld.cells (mirF Fd)), .int .i64 0], .agg Fd.cells, .tuple #[.agg (Fld.cells (mirF Fd)), .int .i64 0], .agg (Fld.cells (mirF Fd)), .int .i64 0, .tuple #[.agg Fd.cells, .int .i64 0], .agg (Fld.cells (mirF Fd)), .tuple #[.agg Fd.cells, .int .i64 0], .agg Fd.cells, .int .i64 0, .tuple #[.int .i64 (sumN Fd.s 100), .int .i64 0], .agg Fd.cells, .tuple #[.int .i64 (sumN Fd.s 100), .int .i64 0], .int .i64 (sumN Fd.s 100), .int .i64 0, .int .i64 0, .bool false, .bool false, .agg Fd.cells, .agg Fd.cells, .bool false, .bool false, .bool false, .agg Fd.cells, .agg Fd.cells, .bool true, .bool false, .bool false, .bool false, .agg Fd.cells, .bool true, .bool false, .bool false, .bool false, .int .i64 0, .int .i64 0, .bool false, .bool false, .bool false, .int .i64 0, .bool false, .bool false, .bool false, .agg (Fld.cells (mirF Fd)), .agg (Fld.cells (mirF Fd)), .bool false, .bool false, .bool false, .int .i64 0, .bool false, .bool false, .bool false, .agg Fd.cells, .agg Fd.cells, .bool false, .bool false, .bool false, .int .i64 0, .bool false, .bool false, .agg Fd.cells, .int .i64 4, .bool false, .int .i64 3, .int .i64 4, .tuple #[.agg Fd.cells, .int .i64 0], .agg (Fld.cells (turF (turF (turF Fd)))), .tuple #[.agg Fd.cells, .int .i64 0], .agg Fd.cells, .int .i64 0, .tuple #[.agg Fd.cells, .int .i64 0], .agg (Fld.cells (turF (turF (turF Fd)))), .tuple #[.agg Fd.cells, .int .i64 0], .agg Fd.cells, .int .i64 0, .tuple #[.int .i64 (sumN Fd.s 100), .int .i64 0], .agg Fd.cells, .tuple #[.int .i64 (sumN Fd.s 100), .int .i64 0], .int .i64 (sumN Fd.s 100), .int .i64 0, .int .i64 0, .int .i64 0, .bool false, .bool false, .int .i64 0, .bool false, .bool false, .bool false, .agg Fd.cells, .agg Fd.cells, .bool false, .bool false, .bool false, .int .i64 0, .bool false, .bool false, .bool false, .int .i64 (sumN Fd.s 100), .int .i64 (sumN Fd.s 100), .bool false, .bool false, .agg Fd.cells, v2, .int .i64 p1, .tuple #[.agg (Fld.cells (tookF Fd c_ p1)), .int .i64 (minI p1 (Fd.s (c_).toNat)), .int .i64 0], .agg Fd.cells, .int .i64 c_, .int .i64 p1, .tuple #[.agg (Fld.cells (tookF Fd c_ p1)), .int .i64 (minI p1 (Fd.s (c_).toNat)), .int .i64 0], .agg (Fld.cells (tookF Fd c_ p1)), .int .i64 (minI p1 (Fd.s (c_).toNat)), .int .i64 0, .tuple #[.agg (Fld.cells (tookF Fd c_ p1)), .int .i64 (minI p1 (Fd.s (c_).toNat)), .int .i64 0], .agg Fd.cells, .int .i64 c_, .int .i64 p1, .tuple #[.agg (Fld.cells (tookF Fd c_ p1)), .int .i64 (minI p1 (Fd.s (c_).toNat)), .int .i64 0], .agg (Fld.cells (tookF Fd c_ p1)), .int .i64 (minI p1 (Fd.s (c_).toNat)), .int .i64 0, .tuple #[.int .i64 (sumN Fd.s 100 - minI p1 (Fd.s (c_).toNat)), .int .i64 0], .agg (Fld.cells (tookF Fd c_ p1)), .tuple #[.int .i64 (sumN Fd.s 100 - minI p1 (Fd.s (c_).toNat)), .int .i64 0], .int .i64 (sumN Fd.s 100 - minI p1 (Fd.s (c_).toNat)), .int .i64 0, .tuple #[.int .i64 (Fd.s (c_).toNat), .int .i64 0], .agg Fd.cells, .int .i64 c_, .tuple #[.int .i64 (Fd.s (c_).toNat), .int .i64 0], .int .i64 (Fd.s (c_).toNat), .int .i64 0, .tuple #[.int .i64 (Fd.k (c_).toNat), .int .i64 0], .agg Fd.cells, .int .i64 c_, .tuple #[.int .i64 (Fd.k (c_).toNat), .int .i64 0], .int .i64 (Fd.k (c_).toNat), .int .i64 0, .agg Fd.cells, .agg Fd.cells, .bool false, .bool false, .int .i64 0, .int .i64 0, .bool false, .bool false, .bool false, .int .i64 0, .bool false, .bool false, .bool false, .agg (Fld.cells (tookF Fd c_ p1)), .agg (Fld.cells (tookF Fd c_ p1)), .bool false, .bool false, .bool false, .int .i64 (minI p1 (Fd.s (c_).toNat)), .int .i64 (minI p1 (Fd.s (c_).toNat)), .bool false, .bool false, .bool false, .int .i64 0, .bool false, .bool false, .bool false, .int .i64 (sumN Fd.s 100 - minI p1 (Fd.s (c_).toNat)), .int .i64 (minI p1 (Fd.s (c_).toNat)), .int .i64 ((sumN Fd.s 100 - minI p1 (Fd.s (c_).toNat)) + (minI p1 (Fd.s (c_).toNat))), .int .i64 (sumN Fd.s 100), .bool (((sumN Fd.s 100 - minI p1 (Fd.s (c_).toNat)) + (minI p1 (Fd.s (c_).toNat))) != (sumN Fd.s 100)), .bool (((sumN Fd.s 100 - minI p1 (Fd.s (c_).toNat)) + (minI p1 (Fd.s (c_).toNat))) != (sumN Fd.s 100)), .bool false, .int .i64 0, .bool false, .bool false, .bool false, .int .i64 (minI p1 (Fd.s (c_).toNat)), .int .i64 p1, .int .i64 (Fd.s (c_).toNat), .int .i64 (minI p1 (Fd.s (c_).toNat)), .bool false, .bool false, .bool false, .int .i64 0, .bool false, .bool false, .bool false, .int .i64 (Fd.k (c_).toNat), .int .i64 c_, .pointer (some ⟨g1, 2, none⟩), .pointer (some ⟨g1, 2 + (c_).toNat, none⟩), .int .u8 (Fd.k ((c_).toNat)), .int .i64 (Fd.k ((c_).toNat)), .bool ((Fd.k (c_).toNat) != (Fd.k ((c_).toNat))), .bool ((Fd.k (c_).toNat) != (Fd.k ((c_).toNat))), .tuple #[.agg Fd.cells, .int .i64 0], .agg (Fld.cells (tookF Fd c_ p1)), .int .i64 c_, .int .i64 (minI p1 (Fd.s (c_).toNat)), .tuple #[.agg Fd.cells, .int .i64 0], .agg Fd.cells, .int .i64 0, .agg Fd.cells, .int .i64 c_, .bool true, .int .i64 0, .bool true, .bool false, .bool false, .int .i64 0, .bool true, .bool true, .agg Fd.cells, .agg Fd.cells, .bool false, .bool false, .bool false, .bool false, .int .i64 0, .bool false, .bool false, undef, undef, .bool false, .bool false, .tuple #[.agg (Fld.cells (withK Fd c_ 2)), .int .i64 0], .agg Fd.cells, .int .i64 c_, .tuple #[.agg (Fld.cells (withK Fd c_ 2)), .int .i64 0], .agg (Fld.cells (withK Fd c_ 2)), .int .i64 0, .tuple #[.agg (Fld.cells (withK Fd c_ 2)), .int .i64 0], .agg Fd.cells, .int .i64 c_, .tuple #[.agg (Fld.cells (withK Fd c_ 2)), .int .i64 0], .agg (Fld.cells (withK Fd c_ 2)), .int .i64 0, .tuple #[.int .i64 (sumN Fd.s 100 - Fd.s (c_).toNat), .int .i64 0], .agg (Fld.cells (withK Fd c_ 2)), .tuple #[.int .i64 (sumN Fd.s 100 - Fd.s (c_).toNat), .int .i64 0], .int .i64 (sumN Fd.s 100 - Fd.s (c_).toNat), .int .i64 0, .tuple #[.agg (Fld.cells (plnF Fd.w Fd.h p1)), .int .i64 0], .pointer (some ⟨g1, 0, none⟩), .int .i8 Fd.w, .int .i64 Fd.w, .pointer (some ⟨g1, 1, none⟩), .int .i8 Fd.h, .int .i64 Fd.h, .int .i64 p1, .tuple #[.agg (Fld.cells (plnF Fd.w Fd.h p1)), .int .i64 0], .agg (Fld.cells (plnF Fd.w Fd.h p1)), .int .i64 0, .tuple #[.int .i64 (p1 * Fd.w * Fd.h), .int .i64 0], .agg (Fld.cells (plnF Fd.w Fd.h p1)), .tuple #[.int .i64 (p1 * Fd.w * Fd.h), .int .i64 0], .int .i64 (p1 * Fd.w * Fd.h), .int .i64 0, .int .i64 0, .int .i64 0, .bool true, .bool true, .int .i64 0, .bool true, .bool true, .bool true, .agg (Fld.cells (withK Fd c_ 2)), .agg (Fld.cells (withK Fd c_ 2)), .bool true, .bool true, .bool true, .int .i64 0, .bool true, .bool true, .bool true, .int .i64 (sumN Fd.s 100 - Fd.s (c_).toNat), .int .i64 (sumN Fd.s 100), .int .i64 (Fd.s (c_).toNat), .int .i64 ((sumN Fd.s 100) - (Fd.s (c_).toNat)), .bool ((sumN Fd.s 100 - Fd.s (c_).toNat) == ((sumN Fd.s 100) - (Fd.s (c_).toNat))), .bool ((sumN Fd.s 100 - Fd.s (c_).toNat) == ((sumN Fd.s 100) - (Fd.s (c_).toNat))), .bool false, undef, undef, .bool false, .bool false, undef, undef, .bool false, .bool false, undef, undef, undef, undef, undef, undef, undef, undef, undef, undef, undef, .bool false], []⟩) (by kernel_rfl) ?_
             refine wv (.bool false) ?_
             refine wpList_nil (then_normal ?_)
             refine wp_ret ?_
             refine ret1 (.bool true) rfl ?_ rfl ?_
             · refine (resT (v := .bool false) (by kernel_rfl)).trans ?_
               refine congrArg Value.bool ?_
               first | exact beq_self_eq_true _ | (exfalso; omega)
             exact ⟨rfl, H28⟩
         · skip
           have h5d := eF h5
           refine wcl (iSow_4 Fd hF_ hd_.ok c_ p1 hc_ (by omega) (by have q_ := eF h5; omega) _) ?_
           intro w82 E58
           refine wv (.tuple #[.agg (Fld.cells Fld.zero), .int .i64 4]) ?_
           refine wv (.agg (Fld.cells Fld.zero)) ?_
           refine wv (.int .i64 4) ?_
           have H29 := H23.trans E58
           replace B1 := B1.ext E58
           replace B2 := ((((X20.blk (B2.ext E43) q_g2_g16).ext E44).ext E45).ext E46).ext E58
           replace B3 := ((((X20.blk (B3.ext E43) q_g3_g16).ext E44).ext E45).ext E46).ext E58
           replace B4 := ((((X20.blk (B4.ext E43) q_g4_g16).ext E44).ext E45).ext E46).ext E58
           replace B5 := ((((X20.blk (B5.ext E43) q_g5_g16).ext E44).ext E45).ext E46).ext E58
           replace B6 := B6.ext E58
           replace B7 := ((((X20.blk (B7.ext E43) q_g7_g16).ext E44).ext E45).ext E46).ext E58
           replace B8 := ((((X20.blk (B8.ext E43) q_g8_g16).ext E44).ext E45).ext E46).ext E58
           replace B9 := ((((X20.blk (B9.ext E43) q_g9_g16).ext E44).ext E45).ext E46).ext E58
           replace B10 := ((((X20.blk (B10.ext E43) q_g10_g16).ext E44).ext E45).ext E46).ext E58
           replace B11 := ((((X20.blk (B11.ext E43) q_g11_g16).ext E44).ext E45).ext E46).ext E58
           replace B12 := ((((X20.blk (B12.ext E43) q_g12_g16).ext E44).ext E45).ext E46).ext E58
           replace B13 := ((((X20.blk (B13.ext E43) q_g13_g16).ext E44).ext E45).ext E46).ext E58
           replace B14 := ((((X20.blk (B14.ext E43) q_g14_g16).ext E44).ext E45).ext E46).ext E58
           replace B15 := B15.ext E58
           replace B16 := B16.ext E58
           refine wnew (Fld.cells Fld.zero) Tryz.zeroValue29 zero_impl_Field ?_
           intro g21 w83 B21 E59 hg_
           have q_g1_g21 := Nat.ne_of_lt (Nat.lt_of_lt_of_le B1.lt hg_)
           have q_g2_g21 := Nat.ne_of_lt (Nat.lt_of_lt_of_le B2.lt hg_)
           have q_g3_g21 := Nat.ne_of_lt (Nat.lt_of_lt_of_le B3.lt hg_)
           have q_g4_g21 := Nat.ne_of_lt (Nat.lt_of_lt_of_le B4.lt hg_)
           have q_g5_g21 := Nat.ne_of_lt (Nat.lt_of_lt_of_le B5.lt hg_)
           have q_g6_g21 := Nat.ne_of_lt (Nat.lt_of_lt_of_le B6.lt hg_)
           have q_g7_g21 := Nat.ne_of_lt (Nat.lt_of_lt_of_le B7.lt hg_)
           have q_g8_g21 := Nat.ne_of_lt (Nat.lt_of_lt_of_le B8.lt hg_)
           have q_g9_g21 := Nat.ne_of_lt (Nat.lt_of_lt_of_le B9.lt hg_)
           have q_g10_g21 := Nat.ne_of_lt (Nat.lt_of_lt_of_le B10.lt hg_)
           have q_g11_g21 := Nat.ne_of_lt (Nat.lt_of_lt_of_le B11.lt hg_)
           have q_g12_g21 := Nat.ne_of_lt (Nat.lt_of_lt_of_le B12.lt hg_)
           have q_g13_g21 := Nat.ne_of_lt (Nat.lt_of_lt_of_le B13.lt hg_)
           have q_g14_g21 := Nat.ne_of_lt (Nat.lt_of_lt_of_le B14.lt hg_)
           have q_g15_g21 := Nat.ne_of_lt (Nat.lt_of_lt_of_le B15.lt hg_)
           have q_g16_g21 := Nat.ne_of_lt (Nat.lt_of_lt_of_le B16.lt hg_)
           have lo_g21 := Nat.le_trans (H29).size hg_
           refine wput (Fld.cells Fld.zero) row_impl_Field B21 (by exact Fld.size_cells _) (by exact Fld.size_cells _) (by exact Fld.one_cells _) ?_
           intro w84 B21_ X25
           clear B21; have B21 := B21_; clear B21_
           refine wv (.int .i64 4) ?_
           refine wpList_nil (then_normal ?_)
           refine wp_frame (a' := ⟨#[v, v2, undef, undef, .bool false, .pointer (some ⟨g1, 0, none⟩), .int .i64 c_, .pointer (some ⟨g2, 0, none⟩), .int .i64 0, .pointer (some ⟨g3, 0, none⟩), .int .i64 0, .pointer (some ⟨g4, 0, none⟩), .int .i64 0, .pointer (some ⟨g5, 0, none⟩), .int .i64 0, .int .i64 (sumN Fd.s 100), .int .i64 0, .pointer (some ⟨g6, 0, none⟩), .int .i64 4, .pointer (some ⟨g13, 0, none⟩), .int .i64 0, .pointer (some ⟨g14, 0, none⟩), .int .i64 0, .int .i64 (sumN Fd.s 100), .int .i64 0, .int .i64 p1, .pointer (some ⟨g15, 0, none⟩), .int .i64 (minI p1 (Fd.s (c_).toNat)), .int .i64 0, .pointer (some ⟨g16, 0, none⟩), .int .i64 (minI p1 (Fd.s (c_).toNat)), .int .i64 0, .int .i64 (sumN Fd.s 100 - minI p1 (Fd.s (c_).toNat)), .int .i64 0, .int .i64 (Fd.s (c_).toNat), .int .i64 0, .int .i64 (Fd.k (c_).toNat), .int .i64 0, .pointer (some ⟨g21, 0, none⟩), .int .i64 4, undef, undef, undef, undef, undef, undef, undef, undef, undef, undef, v, .bool (decide (4096 < (xs.length : Int))), .bool false, v2, .bool (decide (4096 < (ys.length : Int))), .bool (decide (4096 < (ys.length : Int))), v, .agg Fd.cells, v2, .agg Fd.cells, .int .i64 c_, .tuple #[.agg Fd.cells, .int .i64 0], .agg Fd.cells, .string (bs (fieldT Fd)), .tuple #[.agg Fd.cells, .int .i64 0], .agg Fd.cells, .int .i64 0, .tuple #[.agg (Fld.cells (mirF Fd)), .int .i64 0], .agg Fd.cells, .tuple #[.agg (Fld.cells (mirF Fd)), .int .i64 0], .agg (Fld.cells (mirF Fd)), .int .i64 0, .tuple #[.agg (Fld.cells (mirF Fd)), .int .i64 0], .agg Fd.cells, .tuple #[.agg (Fld.cells (mirF Fd)), .int .i64 0], .agg (Fld.cells (mirF Fd)), .int .i64 0, .tuple #[.agg Fd.cells, .int .i64 0], .agg (Fld.cells (mirF Fd)), .tuple #[.agg Fd.cells, .int .i64 0], .agg Fd.cells, .int .i64 0, .tuple #[.int .i64 (sumN Fd.s 100), .int .i64 0], .agg Fd.cells, .tuple #[.int .i64 (sumN Fd.s 100), .int .i64 0], .int .i64 (sumN Fd.s 100), .int .i64 0, .int .i64 0, .bool false, .bool false, .agg Fd.cells, .agg Fd.cells, .bool false, .bool false, .bool false, .agg Fd.cells, .agg Fd.cells, .bool true, .bool false, .bool false, .bool false, .agg Fd.cells, .bool true, .bool false, .bool false, .bool false, .int .i64 0, .int .i64 0, .bool false, .bool false, .bool false, .int .i64 0, .bool false, .bool false, .bool false, .agg (Fld.cells (mirF Fd)), .agg (Fld.cells (mirF Fd)), .bool false, .bool false, .bool false, .int .i64 0, .bool false, .bool false, .bool false, .agg Fd.cells, .agg Fd.cells, .bool false, .bool false, .bool false, .int .i64 0, .bool false, .bool false, .agg Fd.cells, .int .i64 4, .bool false, .int .i64 3, .int .i64 4, .tuple #[.agg Fd.cells, .int .i64 0], .agg (Fld.cells (turF (turF (turF Fd)))), .tuple #[.agg Fd.cells, .int .i64 0], .agg Fd.cells, .int .i64 0, .tuple #[.agg Fd.cells, .int .i64 0], .agg (Fld.cells (turF (turF (turF Fd)))), .tuple #[.agg Fd.cells, .int .i64 0], .agg Fd.cells, .int .i64 0, .tuple #[.int .i64 (sumN Fd.s 100), .int .i64 0], .agg Fd.cells, .tuple #[.int .i64 (sumN Fd.s 100), .int .i64 0], .int .i64 (sumN Fd.s 100), .int .i64 0, .int .i64 0, .int .i64 0, .bool false, .bool false, .int .i64 0, .bool false, .bool false, .bool false, .agg Fd.cells, .agg Fd.cells, .bool false, .bool false, .bool false, .int .i64 0, .bool false, .bool false, .bool false, .int .i64 (sumN Fd.s 100), .int .i64 (sumN Fd.s 100), .bool false, .bool false, .agg Fd.cells, v2, .int .i64 p1, .tuple #[.agg (Fld.cells (tookF Fd c_ p1)), .int .i64 (minI p1 (Fd.s (c_).toNat)), .int .i64 0], .agg Fd.cells, .int .i64 c_, .int .i64 p1, .tuple #[.agg (Fld.cells (tookF Fd c_ p1)), .int .i64 (minI p1 (Fd.s (c_).toNat)), .int .i64 0], .agg (Fld.cells (tookF Fd c_ p1)), .int .i64 (minI p1 (Fd.s (c_).toNat)), .int .i64 0, .tuple #[.agg (Fld.cells (tookF Fd c_ p1)), .int .i64 (minI p1 (Fd.s (c_).toNat)), .int .i64 0], .agg Fd.cells, .int .i64 c_, .int .i64 p1, .tuple #[.agg (Fld.cells (tookF Fd c_ p1)), .int .i64 (minI p1 (Fd.s (c_).toNat)), .int .i64 0], .agg (Fld.cells (tookF Fd c_ p1)), .int .i64 (minI p1 (Fd.s (c_).toNat)), .int .i64 0, .tuple #[.int .i64 (sumN Fd.s 100 - minI p1 (Fd.s (c_).toNat)), .int .i64 0], .agg (Fld.cells (tookF Fd c_ p1)), .tuple #[.int .i64 (sumN Fd.s 100 - minI p1 (Fd.s (c_).toNat)), .int .i64 0], .int .i64 (sumN Fd.s 100 - minI p1 (Fd.s (c_).toNat)), .int .i64 0, .tuple #[.int .i64 (Fd.s (c_).toNat), .int .i64 0], .agg Fd.cells, .int .i64 c_, .tuple #[.int .i64 (Fd.s (c_).toNat), .int .i64 0], .int .i64 (Fd.s (c_).toNat), .int .i64 0, .tuple #[.int .i64 (Fd.k (c_).toNat), .int .i64 0], .agg Fd.cells, .int .i64 c_, .tuple #[.int .i64 (Fd.k (c_).toNat), .int .i64 0], .int .i64 (Fd.k (c_).toNat), .int .i64 0, .agg Fd.cells, .agg Fd.cells, .bool false, .bool false, .int .i64 0, .int .i64 0, .bool false, .bool false, .bool false, .int .i64 0, .bool false, .bool false, .bool false, .agg (Fld.cells (tookF Fd c_ p1)), .agg (Fld.cells (tookF Fd c_ p1)), .bool false, .bool false, .bool false, .int .i64 (minI p1 (Fd.s (c_).toNat)), .int .i64 (minI p1 (Fd.s (c_).toNat)), .bool false, .bool false, .bool false, .int .i64 0, .bool false, .bool false, .bool false, .int .i64 (sumN Fd.s 100 - minI p1 (Fd.s (c_).toNat)), .int .i64 (minI p1 (Fd.s (c_).toNat)), .int .i64 ((sumN Fd.s 100 - minI p1 (Fd.s (c_).toNat)) + (minI p1 (Fd.s (c_).toNat))), .int .i64 (sumN Fd.s 100), .bool (((sumN Fd.s 100 - minI p1 (Fd.s (c_).toNat)) + (minI p1 (Fd.s (c_).toNat))) != (sumN Fd.s 100)), .bool (((sumN Fd.s 100 - minI p1 (Fd.s (c_).toNat)) + (minI p1 (Fd.s (c_).toNat))) != (sumN Fd.s 100)), .bool false, .int .i64 0, .bool false, .bool false, .bool false, .int .i64 (minI p1 (Fd.s (c_).toNat)), .int .i64 p1, .int .i64 (Fd.s (c_).toNat), .int .i64 (minI p1 (Fd.s (c_).toNat)), .bool false, .bool false, .bool false, .int .i64 0, .bool false, .bool false, .bool false, .int .i64 (Fd.k (c_).toNat), .int .i64 c_, .pointer (some ⟨g1, 2, none⟩), .pointer (some ⟨g1, 2 + (c_).toNat, none⟩), .int .u8 (Fd.k ((c_).toNat)), .int .i64 (Fd.k ((c_).toNat)), .bool ((Fd.k (c_).toNat) != (Fd.k ((c_).toNat))), .bool ((Fd.k (c_).toNat) != (Fd.k ((c_).toNat))), .tuple #[.agg (Fld.cells Fld.zero), .int .i64 4], .agg (Fld.cells (tookF Fd c_ p1)), .int .i64 c_, .int .i64 (minI p1 (Fd.s (c_).toNat)), .tuple #[.agg (Fld.cells Fld.zero), .int .i64 4], .agg (Fld.cells Fld.zero), .int .i64 4, undef, undef, undef, undef, undef, undef, undef, undef, undef, undef, undef, undef, undef, undef, undef, undef, undef, undef, undef, undef, undef, undef, undef, undef, undef, undef, undef, undef, undef, undef, undef, undef, undef, undef, undef, undef, undef, undef, undef, undef, undef, undef, undef, undef, undef, undef, undef, undef, undef, undef, undef, undef, undef, undef, undef, undef, undef, undef, undef, undef, undef, undef, undef, undef, undef, undef, undef, undef, undef, undef, undef, undef, undef, undef, undef, undef, undef, undef, undef, undef, undef, undef, undef, undef, undef, undef, undef, undef, undef, undef, undef, undef, undef, undef, undef, undef, undef, undef, undef, undef], []⟩) (by kernel_rfl) ?_
           refine wp_seq ?_
           refine wsr ?_
           replace B1 := X25.blk (B1.ext E59) q_g1_g21
           refine wrow row_impl_Field B1 (by exact Fld.size_cells _) ?_
           refine wv (.int .i64 c_) ?_
           refine wcl (IsSoil_ok Fd hF_ c_ hc_ _) ?_
           intro w85 E60
           refine wbl 275 false h5 ?_
           refine wv (.int .i64 4) ?_
           refine wv (.bool false) ?_
           refine wv (.bool false) ?_
           refine wv (.bool false) ?_
           refine wv (.int .i64 4) ?_
           refine wv (.bool false) ?_
           refine wv (.bool false) ?_
           refine wsk ?_
           refine wsk ?_
           refine wsk ?_
           refine wv (.bool false) ?_
           refine wv (.bool false) ?_
           refine wv (.bool false) ?_
           refine wv (.int .i64 4) ?_
           refine wv (.bool true) ?_
           refine wv (.bool true) ?_
           refine wv (.int .i64 4) ?_
           refine wvv (.bool (4 != 4)) (.bool false) (by simp) ?_
           refine wv (.bool false) ?_
           refine wv (.bool false) ?_
           refine wpList_nil (then_normal ?_)
           refine wcf ?_
           refine wp_skip ?_
           refine then_normal ?_
           refine wsr ?_
           replace B1 := B1.ext E60
           refine wrow row_impl_Field B1 (by exact Fld.size_cells _) ?_
           refine wv (.int .i64 c_) ?_
           refine wcl (iWithKind_ok Fd hF_ hd_.ok c_ hc_ _) ?_
           intro w86 E61
           refine wv (.tuple #[.agg (Fld.cells (withK Fd c_ 2)), .int .i64 0]) ?_
           refine wv (.agg (Fld.cells (withK Fd c_ 2))) ?_
           refine wv (.int .i64 0) ?_
           have H30 := ((X25.ext w lo_g21 (H29.trans E59)).trans E60).trans E61
           replace B1 := B1.ext E61
           replace B2 := ((X25.blk (B2.ext E59) q_g2_g21).ext E60).ext E61
           replace B3 := ((X25.blk (B3.ext E59) q_g3_g21).ext E60).ext E61
           replace B4 := ((X25.blk (B4.ext E59) q_g4_g21).ext E60).ext E61
           replace B5 := ((X25.blk (B5.ext E59) q_g5_g21).ext E60).ext E61
           replace B6 := ((X25.blk (B6.ext E59) q_g6_g21).ext E60).ext E61
           replace B7 := ((X25.blk (B7.ext E59) q_g7_g21).ext E60).ext E61
           replace B8 := ((X25.blk (B8.ext E59) q_g8_g21).ext E60).ext E61
           replace B9 := ((X25.blk (B9.ext E59) q_g9_g21).ext E60).ext E61
           replace B10 := ((X25.blk (B10.ext E59) q_g10_g21).ext E60).ext E61
           replace B11 := ((X25.blk (B11.ext E59) q_g11_g21).ext E60).ext E61
           replace B12 := ((X25.blk (B12.ext E59) q_g12_g21).ext E60).ext E61
           replace B13 := ((X25.blk (B13.ext E59) q_g13_g21).ext E60).ext E61
           replace B14 := ((X25.blk (B14.ext E59) q_g14_g21).ext E60).ext E61
           replace B15 := ((X25.blk (B15.ext E59) q_g15_g21).ext E60).ext E61
           replace B16 := ((X25.blk (B16.ext E59) q_g16_g21).ext E60).ext E61
           replace B21 := (B21.ext E60).ext E61
           refine wnew (Fld.cells Fld.zero) Tryz.zeroValue29 zero_impl_Field ?_
           intro g22 w87 B22 E62 hg_
           have q_g1_g22 := Nat.ne_of_lt (Nat.lt_of_lt_of_le B1.lt hg_)
           have q_g2_g22 := Nat.ne_of_lt (Nat.lt_of_lt_of_le B2.lt hg_)
           have q_g3_g22 := Nat.ne_of_lt (Nat.lt_of_lt_of_le B3.lt hg_)
           have q_g4_g22 := Nat.ne_of_lt (Nat.lt_of_lt_of_le B4.lt hg_)
           have q_g5_g22 := Nat.ne_of_lt (Nat.lt_of_lt_of_le B5.lt hg_)
           have q_g6_g22 := Nat.ne_of_lt (Nat.lt_of_lt_of_le B6.lt hg_)
           have q_g7_g22 := Nat.ne_of_lt (Nat.lt_of_lt_of_le B7.lt hg_)
           have q_g8_g22 := Nat.ne_of_lt (Nat.lt_of_lt_of_le B8.lt hg_)
           have q_g9_g22 := Nat.ne_of_lt (Nat.lt_of_lt_of_le B9.lt hg_)
           have q_g10_g22 := Nat.ne_of_lt (Nat.lt_of_lt_of_le B10.lt hg_)
           have q_g11_g22 := Nat.ne_of_lt (Nat.lt_of_lt_of_le B11.lt hg_)
           have q_g12_g22 := Nat.ne_of_lt (Nat.lt_of_lt_of_le B12.lt hg_)
           have q_g13_g22 := Nat.ne_of_lt (Nat.lt_of_lt_of_le B13.lt hg_)
           have q_g14_g22 := Nat.ne_of_lt (Nat.lt_of_lt_of_le B14.lt hg_)
           have q_g15_g22 := Nat.ne_of_lt (Nat.lt_of_lt_of_le B15.lt hg_)
           have q_g16_g22 := Nat.ne_of_lt (Nat.lt_of_lt_of_le B16.lt hg_)
           have q_g21_g22 := Nat.ne_of_lt (Nat.lt_of_lt_of_le B21.lt hg_)
           have lo_g22 := Nat.le_trans (H30).size hg_
           refine wput (Fld.cells (withK Fd c_ 2)) row_impl_Field B22 (by exact Fld.size_cells _) (by exact Fld.size_cells _) (by exact Fld.one_cells _) ?_
           intro w88 B22_ X26
           clear B22; have B22 := B22_; clear B22_
           refine wv (.int .i64 0) ?_
           refine wpList_nil (then_normal ?_)
           refine wp_frame (a' := ⟨#[v, v2, undef, undef, .bool false, .pointer (some ⟨g1, 0, none⟩), .int .i64 c_, .pointer (some ⟨g2, 0, none⟩), .int .i64 0, .pointer (some ⟨g3, 0, none⟩), .int .i64 0, .pointer (some ⟨g4, 0, none⟩), .int .i64 0, .pointer (some ⟨g5, 0, none⟩), .int .i64 0, .int .i64 (sumN Fd.s 100), .int .i64 0, .pointer (some ⟨g6, 0, none⟩), .int .i64 4, .pointer (some ⟨g13, 0, none⟩), .int .i64 0, .pointer (some ⟨g14, 0, none⟩), .int .i64 0, .int .i64 (sumN Fd.s 100), .int .i64 0, .int .i64 p1, .pointer (some ⟨g15, 0, none⟩), .int .i64 (minI p1 (Fd.s (c_).toNat)), .int .i64 0, .pointer (some ⟨g16, 0, none⟩), .int .i64 (minI p1 (Fd.s (c_).toNat)), .int .i64 0, .int .i64 (sumN Fd.s 100 - minI p1 (Fd.s (c_).toNat)), .int .i64 0, .int .i64 (Fd.s (c_).toNat), .int .i64 0, .int .i64 (Fd.k (c_).toNat), .int .i64 0, .pointer (some ⟨g21, 0, none⟩), .int .i64 4, .pointer (some ⟨g22, 0, none⟩), .int .i64 0, undef, undef, undef, undef, undef, undef, undef, undef, v, .bool (decide (4096 < (xs.length : Int))), .bool false, v2, .bool (decide (4096 < (ys.length : Int))), .bool (decide (4096 < (ys.length : Int))), v, .agg Fd.cells, v2, .agg Fd.cells, .int .i64 c_, .tuple #[.agg Fd.cells, .int .i64 0], .agg Fd.cells, .string (bs (fieldT Fd)), .tuple #[.agg Fd.cells, .int .i64 0], .agg Fd.cells, .int .i64 0, .tuple #[.agg (Fld.cells (mirF Fd)), .int .i64 0], .agg Fd.cells, .tuple #[.agg (Fld.cells (mirF Fd)), .int .i64 0], .agg (Fld.cells (mirF Fd)), .int .i64 0, .tuple #[.agg (Fld.cells (mirF Fd)), .int .i64 0], .agg Fd.cells, .tuple #[.agg (Fld.cells (mirF Fd)), .int .i64 0], .agg (Fld.cells (mirF Fd)), .int .i64 0, .tuple #[.agg Fd.cells, .int .i64 0], .agg (Fld.cells (mirF Fd)), .tuple #[.agg Fd.cells, .int .i64 0], .agg Fd.cells, .int .i64 0, .tuple #[.int .i64 (sumN Fd.s 100), .int .i64 0], .agg Fd.cells, .tuple #[.int .i64 (sumN Fd.s 100), .int .i64 0], .int .i64 (sumN Fd.s 100), .int .i64 0, .int .i64 0, .bool false, .bool false, .agg Fd.cells, .agg Fd.cells, .bool false, .bool false, .bool false, .agg Fd.cells, .agg Fd.cells, .bool true, .bool false, .bool false, .bool false, .agg Fd.cells, .bool true, .bool false, .bool false, .bool false, .int .i64 0, .int .i64 0, .bool false, .bool false, .bool false, .int .i64 0, .bool false, .bool false, .bool false, .agg (Fld.cells (mirF Fd)), .agg (Fld.cells (mirF Fd)), .bool false, .bool false, .bool false, .int .i64 0, .bool false, .bool false, .bool false, .agg Fd.cells, .agg Fd.cells, .bool false, .bool false, .bool false, .int .i64 0, .bool false, .bool false, .agg Fd.cells, .int .i64 4, .bool false, .int .i64 3, .int .i64 4, .tuple #[.agg Fd.cells, .int .i64 0], .agg (Fld.cells (turF (turF (turF Fd)))), .tuple #[.agg Fd.cells, .int .i64 0], .agg Fd.cells, .int .i64 0, .tuple #[.agg Fd.cells, .int .i64 0], .agg (Fld.cells (turF (turF (turF Fd)))), .tuple #[.agg Fd.cells, .int .i64 0], .agg Fd.cells, .int .i64 0, .tuple #[.int .i64 (sumN Fd.s 100), .int .i64 0], .agg Fd.cells, .tuple #[.int .i64 (sumN Fd.s 100), .int .i64 0], .int .i64 (sumN Fd.s 100), .int .i64 0, .int .i64 0, .int .i64 0, .bool false, .bool false, .int .i64 0, .bool false, .bool false, .bool false, .agg Fd.cells, .agg Fd.cells, .bool false, .bool false, .bool false, .int .i64 0, .bool false, .bool false, .bool false, .int .i64 (sumN Fd.s 100), .int .i64 (sumN Fd.s 100), .bool false, .bool false, .agg Fd.cells, v2, .int .i64 p1, .tuple #[.agg (Fld.cells (tookF Fd c_ p1)), .int .i64 (minI p1 (Fd.s (c_).toNat)), .int .i64 0], .agg Fd.cells, .int .i64 c_, .int .i64 p1, .tuple #[.agg (Fld.cells (tookF Fd c_ p1)), .int .i64 (minI p1 (Fd.s (c_).toNat)), .int .i64 0], .agg (Fld.cells (tookF Fd c_ p1)), .int .i64 (minI p1 (Fd.s (c_).toNat)), .int .i64 0, .tuple #[.agg (Fld.cells (tookF Fd c_ p1)), .int .i64 (minI p1 (Fd.s (c_).toNat)), .int .i64 0], .agg Fd.cells, .int .i64 c_, .int .i64 p1, .tuple #[.agg (Fld.cells (tookF Fd c_ p1)), .int .i64 (minI p1 (Fd.s (c_).toNat)), .int .i64 0], .agg (Fld.cells (tookF Fd c_ p1)), .int .i64 (minI p1 (Fd.s (c_).toNat)), .int .i64 0, .tuple #[.int .i64 (sumN Fd.s 100 - minI p1 (Fd.s (c_).toNat)), .int .i64 0], .agg (Fld.cells (tookF Fd c_ p1)), .tuple #[.int .i64 (sumN Fd.s 100 - minI p1 (Fd.s (c_).toNat)), .int .i64 0], .int .i64 (sumN Fd.s 100 - minI p1 (Fd.s (c_).toNat)), .int .i64 0, .tuple #[.int .i64 (Fd.s (c_).toNat), .int .i64 0], .agg Fd.cells, .int .i64 c_, .tuple #[.int .i64 (Fd.s (c_).toNat), .int .i64 0], .int .i64 (Fd.s (c_).toNat), .int .i64 0, .tuple #[.int .i64 (Fd.k (c_).toNat), .int .i64 0], .agg Fd.cells, .int .i64 c_, .tuple #[.int .i64 (Fd.k (c_).toNat), .int .i64 0], .int .i64 (Fd.k (c_).toNat), .int .i64 0, .agg Fd.cells, .agg Fd.cells, .bool false, .bool false, .int .i64 0, .int .i64 0, .bool false, .bool false, .bool false, .int .i64 0, .bool false, .bool false, .bool false, .agg (Fld.cells (tookF Fd c_ p1)), .agg (Fld.cells (tookF Fd c_ p1)), .bool false, .bool false, .bool false, .int .i64 (minI p1 (Fd.s (c_).toNat)), .int .i64 (minI p1 (Fd.s (c_).toNat)), .bool false, .bool false, .bool false, .int .i64 0, .bool false, .bool false, .bool false, .int .i64 (sumN Fd.s 100 - minI p1 (Fd.s (c_).toNat)), .int .i64 (minI p1 (Fd.s (c_).toNat)), .int .i64 ((sumN Fd.s 100 - minI p1 (Fd.s (c_).toNat)) + (minI p1 (Fd.s (c_).toNat))), .int .i64 (sumN Fd.s 100), .bool (((sumN Fd.s 100 - minI p1 (Fd.s (c_).toNat)) + (minI p1 (Fd.s (c_).toNat))) != (sumN Fd.s 100)), .bool (((sumN Fd.s 100 - minI p1 (Fd.s (c_).toNat)) + (minI p1 (Fd.s (c_).toNat))) != (sumN Fd.s 100)), .bool false, .int .i64 0, .bool false, .bool false, .bool false, .int .i64 (minI p1 (Fd.s (c_).toNat)), .int .i64 p1, .int .i64 (Fd.s (c_).toNat), .int .i64 (minI p1 (Fd.s (c_).toNat)), .bool false, .bool false, .bool false, .int .i64 0, .bool false, .bool false, .bool false, .int .i64 (Fd.k (c_).toNat), .int .i64 c_, .pointer (some ⟨g1, 2, none⟩), .pointer (some ⟨g1, 2 + (c_).toNat, none⟩), .int .u8 (Fd.k ((c_).toNat)), .int .i64 (Fd.k ((c_).toNat)), .bool ((Fd.k (c_).toNat) != (Fd.k ((c_).toNat))), .bool ((Fd.k (c_).toNat) != (Fd.k ((c_).toNat))), .tuple #[.agg (Fld.cells Fld.zero), .int .i64 4], .agg (Fld.cells (tookF Fd c_ p1)), .int .i64 c_, .int .i64 (minI p1 (Fd.s (c_).toNat)), .tuple #[.agg (Fld.cells Fld.zero), .int .i64 4], .agg (Fld.cells Fld.zero), .int .i64 4, .agg Fd.cells, .int .i64 c_, .bool false, .int .i64 4, .bool false, .bool false, .bool false, .int .i64 4, .bool false, .bool false, undef, undef, undef, .bool false, .bool false, .bool false, .int .i64 4, .bool true, .bool true, .int .i64 4, .bool false, .bool false, .bool false, .tuple #[.agg (Fld.cells (withK Fd c_ 2)), .int .i64 0], .agg Fd.cells, .int .i64 c_, .tuple #[.agg (Fld.cells (withK Fd c_ 2)), .int .i64 0], .agg (Fld.cells (withK Fd c_ 2)), .int .i64 0, undef, undef, undef, undef, undef, undef, undef, undef, undef, undef, undef, undef, undef, undef, undef, undef, undef, undef, undef, undef, undef, undef, undef, undef, undef, undef, undef, undef, undef, undef, undef, undef, undef, undef, undef, undef, undef, undef, undef, undef, undef, undef, undef, undef, undef, undef, undef, undef, undef, undef, undef, undef, undef, undef, undef, undef, undef, undef, undef, undef, undef, undef, undef, undef, undef, undef, undef, undef, undef, undef, undef], []⟩) (by kernel_rfl) ?_
           refine wsr ?_
           replace B1 := X26.blk (B1.ext E62) q_g1_g22
           refine wrow row_impl_Field B1 (by exact Fld.size_cells _) ?_
           refine wv (.int .i64 c_) ?_
           refine wcl (sWithKind_ok Fd hF_ hd_.ok c_ hc_ _) ?_
           intro w89 E63
           refine wv (.tuple #[.agg (Fld.cells (withK Fd c_ 2)), .int .i64 0]) ?_
           refine wv (.agg (Fld.cells (withK Fd c_ 2))) ?_
           refine wv (.int .i64 0) ?_
           have H31 := (X26.ext w lo_g22 (H30.trans E62)).trans E63
           replace B1 := B1.ext E63
           replace B2 := (X26.blk (B2.ext E62) q_g2_g22).ext E63
           replace B3 := (X26.blk (B3.ext E62) q_g3_g22).ext E63
           replace B4 := (X26.blk (B4.ext E62) q_g4_g22).ext E63
           replace B5 := (X26.blk (B5.ext E62) q_g5_g22).ext E63
           replace B6 := (X26.blk (B6.ext E62) q_g6_g22).ext E63
           replace B7 := (X26.blk (B7.ext E62) q_g7_g22).ext E63
           replace B8 := (X26.blk (B8.ext E62) q_g8_g22).ext E63
           replace B9 := (X26.blk (B9.ext E62) q_g9_g22).ext E63
           replace B10 := (X26.blk (B10.ext E62) q_g10_g22).ext E63
           replace B11 := (X26.blk (B11.ext E62) q_g11_g22).ext E63
           replace B12 := (X26.blk (B12.ext E62) q_g12_g22).ext E63
           replace B13 := (X26.blk (B13.ext E62) q_g13_g22).ext E63
           replace B14 := (X26.blk (B14.ext E62) q_g14_g22).ext E63
           replace B15 := (X26.blk (B15.ext E62) q_g15_g22).ext E63
           replace B16 := (X26.blk (B16.ext E62) q_g16_g22).ext E63
           replace B21 := (X26.blk (B21.ext E62) q_g21_g22).ext E63
           replace B22 := B22.ext E63
           refine wnew (Fld.cells Fld.zero) Tryz.zeroValue29 zero_impl_Field ?_
           intro g23 w90 B23 E64 hg_
           have q_g1_g23 := Nat.ne_of_lt (Nat.lt_of_lt_of_le B1.lt hg_)
           have q_g2_g23 := Nat.ne_of_lt (Nat.lt_of_lt_of_le B2.lt hg_)
           have q_g3_g23 := Nat.ne_of_lt (Nat.lt_of_lt_of_le B3.lt hg_)
           have q_g4_g23 := Nat.ne_of_lt (Nat.lt_of_lt_of_le B4.lt hg_)
           have q_g5_g23 := Nat.ne_of_lt (Nat.lt_of_lt_of_le B5.lt hg_)
           have q_g6_g23 := Nat.ne_of_lt (Nat.lt_of_lt_of_le B6.lt hg_)
           have q_g7_g23 := Nat.ne_of_lt (Nat.lt_of_lt_of_le B7.lt hg_)
           have q_g8_g23 := Nat.ne_of_lt (Nat.lt_of_lt_of_le B8.lt hg_)
           have q_g9_g23 := Nat.ne_of_lt (Nat.lt_of_lt_of_le B9.lt hg_)
           have q_g10_g23 := Nat.ne_of_lt (Nat.lt_of_lt_of_le B10.lt hg_)
           have q_g11_g23 := Nat.ne_of_lt (Nat.lt_of_lt_of_le B11.lt hg_)
           have q_g12_g23 := Nat.ne_of_lt (Nat.lt_of_lt_of_le B12.lt hg_)
           have q_g13_g23 := Nat.ne_of_lt (Nat.lt_of_lt_of_le B13.lt hg_)
           have q_g14_g23 := Nat.ne_of_lt (Nat.lt_of_lt_of_le B14.lt hg_)
           have q_g15_g23 := Nat.ne_of_lt (Nat.lt_of_lt_of_le B15.lt hg_)
           have q_g16_g23 := Nat.ne_of_lt (Nat.lt_of_lt_of_le B16.lt hg_)
           have q_g21_g23 := Nat.ne_of_lt (Nat.lt_of_lt_of_le B21.lt hg_)
           have q_g22_g23 := Nat.ne_of_lt (Nat.lt_of_lt_of_le B22.lt hg_)
           have lo_g23 := Nat.le_trans (H31).size hg_
           refine wput (Fld.cells (withK Fd c_ 2)) row_impl_Field B23 (by exact Fld.size_cells _) (by exact Fld.size_cells _) (by exact Fld.one_cells _) ?_
           intro w91 B23_ X27
           clear B23; have B23 := B23_; clear B23_
           refine wv (.int .i64 0) ?_
           refine wpList_nil (then_normal ?_)
           refine wsr ?_
           refine wrow row_impl_Field B23 (by exact Fld.size_cells _) ?_
           refine wcl (iSeedsIn_ok (withK Fd c_ 2) (wk_wf hF_ hd_.ok hc_) (wk_ok hd_.ok hc_) (v := sumN Fd.s 100 - Fd.s (c_).toNat) (wk_sum hd_.ok hc_) _) ?_
           intro w92 E65
           refine wv (.tuple #[.int .i64 (sumN Fd.s 100 - Fd.s (c_).toNat), .int .i64 0]) ?_
           refine wv (.int .i64 (sumN Fd.s 100 - Fd.s (c_).toNat)) ?_
           refine wv (.int .i64 0) ?_
           refine wv (.int .i64 (sumN Fd.s 100 - Fd.s (c_).toNat)) ?_
           refine wv (.int .i64 0) ?_
           refine wpList_nil (then_normal ?_)
           refine wsr ?_
           refine wv (.pointer (some ⟨g1, 0, none⟩)) ?_
           replace B1 := (X27.blk (B1.ext E64) q_g1_g23).ext E65
           refine wld g1 (0) scal_int8 (B1.get (Fld.get0 _)) ?_
           refine wi64 Fd.w ?_
           refine wv (.pointer (some ⟨g1, 1, none⟩)) ?_
           refine wld g1 (1) scal_int8 (B1.get (Fld.get1 _)) ?_
           refine wi64 Fd.h ?_
           refine wv (.int .i64 p1) ?_
           refine wcl (iPlain_ok Fd.w Fd.h p1 (by omega) (by omega) (by omega) _) ?_
           intro w93 E66
           refine wv (.tuple #[.agg (Fld.cells (plnF Fd.w Fd.h p1)), .int .i64 0]) ?_
           refine wv (.agg (Fld.cells (plnF Fd.w Fd.h p1))) ?_
           refine wv (.int .i64 0) ?_
           have H32 := ((X27.ext w lo_g23 (H31.trans E64)).trans E65).trans E66
           replace B1 := B1.ext E66
           replace B2 := ((X27.blk (B2.ext E64) q_g2_g23).ext E65).ext E66
           replace B3 := ((X27.blk (B3.ext E64) q_g3_g23).ext E65).ext E66
           replace B4 := ((X27.blk (B4.ext E64) q_g4_g23).ext E65).ext E66
           replace B5 := ((X27.blk (B5.ext E64) q_g5_g23).ext E65).ext E66
           replace B6 := ((X27.blk (B6.ext E64) q_g6_g23).ext E65).ext E66
           replace B7 := ((X27.blk (B7.ext E64) q_g7_g23).ext E65).ext E66
           replace B8 := ((X27.blk (B8.ext E64) q_g8_g23).ext E65).ext E66
           replace B9 := ((X27.blk (B9.ext E64) q_g9_g23).ext E65).ext E66
           replace B10 := ((X27.blk (B10.ext E64) q_g10_g23).ext E65).ext E66
           replace B11 := ((X27.blk (B11.ext E64) q_g11_g23).ext E65).ext E66
           replace B12 := ((X27.blk (B12.ext E64) q_g12_g23).ext E65).ext E66
           replace B13 := ((X27.blk (B13.ext E64) q_g13_g23).ext E65).ext E66
           replace B14 := ((X27.blk (B14.ext E64) q_g14_g23).ext E65).ext E66
           replace B15 := ((X27.blk (B15.ext E64) q_g15_g23).ext E65).ext E66
           replace B16 := ((X27.blk (B16.ext E64) q_g16_g23).ext E65).ext E66
           replace B21 := ((X27.blk (B21.ext E64) q_g21_g23).ext E65).ext E66
           replace B22 := ((X27.blk (B22.ext E64) q_g22_g23).ext E65).ext E66
           replace B23 := (B23.ext E65).ext E66
           refine wnew (Fld.cells Fld.zero) Tryz.zeroValue29 zero_impl_Field ?_
           intro g24 w94 B24 E67 hg_
           have q_g1_g24 := Nat.ne_of_lt (Nat.lt_of_lt_of_le B1.lt hg_)
           have q_g2_g24 := Nat.ne_of_lt (Nat.lt_of_lt_of_le B2.lt hg_)
           have q_g3_g24 := Nat.ne_of_lt (Nat.lt_of_lt_of_le B3.lt hg_)
           have q_g4_g24 := Nat.ne_of_lt (Nat.lt_of_lt_of_le B4.lt hg_)
           have q_g5_g24 := Nat.ne_of_lt (Nat.lt_of_lt_of_le B5.lt hg_)
           have q_g6_g24 := Nat.ne_of_lt (Nat.lt_of_lt_of_le B6.lt hg_)
           have q_g7_g24 := Nat.ne_of_lt (Nat.lt_of_lt_of_le B7.lt hg_)
           have q_g8_g24 := Nat.ne_of_lt (Nat.lt_of_lt_of_le B8.lt hg_)
           have q_g9_g24 := Nat.ne_of_lt (Nat.lt_of_lt_of_le B9.lt hg_)
           have q_g10_g24 := Nat.ne_of_lt (Nat.lt_of_lt_of_le B10.lt hg_)
           have q_g11_g24 := Nat.ne_of_lt (Nat.lt_of_lt_of_le B11.lt hg_)
           have q_g12_g24 := Nat.ne_of_lt (Nat.lt_of_lt_of_le B12.lt hg_)
           have q_g13_g24 := Nat.ne_of_lt (Nat.lt_of_lt_of_le B13.lt hg_)
           have q_g14_g24 := Nat.ne_of_lt (Nat.lt_of_lt_of_le B14.lt hg_)
           have q_g15_g24 := Nat.ne_of_lt (Nat.lt_of_lt_of_le B15.lt hg_)
           have q_g16_g24 := Nat.ne_of_lt (Nat.lt_of_lt_of_le B16.lt hg_)
           have q_g21_g24 := Nat.ne_of_lt (Nat.lt_of_lt_of_le B21.lt hg_)
           have q_g22_g24 := Nat.ne_of_lt (Nat.lt_of_lt_of_le B22.lt hg_)
           have q_g23_g24 := Nat.ne_of_lt (Nat.lt_of_lt_of_le B23.lt hg_)
           have lo_g24 := Nat.le_trans (H32).size hg_
           refine wput (Fld.cells (plnF Fd.w Fd.h p1)) row_impl_Field B24 (by exact Fld.size_cells _) (by exact Fld.size_cells _) (by exact Fld.one_cells _) ?_
           intro w95 B24_ X28
           clear B24; have B24 := B24_; clear B24_
           refine wv (.int .i64 0) ?_
           refine wpList_nil (then_normal ?_)
           refine wsr ?_
           refine wrow row_impl_Field B24 (by exact Fld.size_cells _) ?_
           refine wcl (iSeedsIn_ok (plnF Fd.w Fd.h p1) (pln_wf (by omega) (by omega) (by omega)) (pln_ok (by omega) (by omega) (by omega)) (v := p1 * Fd.w * Fd.h) (pln_sum (by omega) (by omega) (by omega)) _) ?_
           intro w96 E68
           refine wv (.tuple #[.int .i64 (p1 * Fd.w * Fd.h), .int .i64 0]) ?_
           refine wv (.int .i64 (p1 * Fd.w * Fd.h)) ?_
           refine wv (.int .i64 0) ?_
           refine wv (.int .i64 (p1 * Fd.w * Fd.h)) ?_
           refine wv (.int .i64 0) ?_
           refine wpList_nil (then_normal ?_)
           refine wp_frame (a' := ⟨#[v, v2, undef, undef, .bool false, .pointer (some ⟨g1, 0, none⟩), .int .i64 c_, .pointer (some ⟨g2, 0, none⟩), .int .i64 0, .pointer (some ⟨g3, 0, none⟩), .int .i64 0, .pointer (some ⟨g4, 0, none⟩), .int .i64 0, .pointer (some ⟨g5, 0, none⟩), .int .i64 0, .int .i64 (sumN Fd.s 100), .int .i64 0, .pointer (some ⟨g6, 0, none⟩), .int .i64 4, .pointer (some ⟨g13, 0, none⟩), .int .i64 0, .pointer (some ⟨g14, 0, none⟩), .int .i64 0, .int .i64 (sumN Fd.s 100), .int .i64 0, .int .i64 p1, .pointer (some ⟨g15, 0, none⟩), .int .i64 (minI p1 (Fd.s (c_).toNat)), .int .i64 0, .pointer (some ⟨g16, 0, none⟩), .int .i64 (minI p1 (Fd.s (c_).toNat)), .int .i64 0, .int .i64 (sumN Fd.s 100 - minI p1 (Fd.s (c_).toNat)), .int .i64 0, .int .i64 (Fd.s (c_).toNat), .int .i64 0, .int .i64 (Fd.k (c_).toNat), .int .i64 0, .pointer (some ⟨g21, 0, none⟩), .int .i64 4, .pointer (some ⟨g22, 0, none⟩), .int .i64 0, .pointer (some ⟨g23, 0, none⟩), .int .i64 0, .int .i64 (sumN Fd.s 100 - Fd.s (c_).toNat), .int .i64 0, .pointer (some ⟨g24, 0, none⟩), .int .i64 0, .int .i64 (p1 * Fd.w * Fd.h), .int .i64 0, v, .bool (decide (4096 < (xs.length : Int))), .bool false, v2, .bool (decide (4096 < (ys.length : Int))), .bool (decide (4096 < (ys.length : Int))), v, .agg Fd.cells, v2, .agg Fd.cells, .int .i64 c_, .tuple #[.agg Fd.cells, .int .i64 0], .agg Fd.cells, .string (bs (fieldT Fd)), .tuple #[.agg Fd.cells, .int .i64 0], .agg Fd.cells, .int .i64 0, .tuple #[.agg (Fld.cells (mirF Fd)), .int .i64 0], .agg Fd.cells, .tuple #[.agg (Fld.cells (mirF Fd)), .int .i64 0], .agg (Fld.cells (mirF Fd)), .int .i64 0, .tuple #[.agg (Fld.cells (mirF Fd)), .int .i64 0], .agg Fd.cells, .tuple #[.agg (Fld.cells (mirF Fd)), .int .i64 0], .agg (Fld.cells (mirF Fd)), .int .i64 0, .tuple #[.agg Fd.cells, .int .i64 0], .agg (Fld.cells (mirF Fd)), .tuple #[.agg Fd.cells, .int .i64 0], .agg Fd.cells, .int .i64 0, .tuple #[.int .i64 (sumN Fd.s 100), .int .i64 0], .agg Fd.cells, .tuple #[.int .i64 (sumN Fd.s 100), .int .i64 0], .int .i64 (sumN Fd.s 100), .int .i64 0, .int .i64 0, .bool false, .bool false, .agg Fd.cells, .agg Fd.cells, .bool false, .bool false, .bool false, .agg Fd.cells, .agg Fd.cells, .bool true, .bool false, .bool false, .bool false, .agg Fd.cells, .bool true, .bool false, .bool false, .bool false, .int .i64 0, .int .i64 0, .bool false, .bool false, .bool false, .int .i64 0, .bool false, .bool false, .bool false, .agg (Fld.cells (mirF Fd)), .agg (Fld.cells (mirF Fd)), .bool false, .bool false, .bool false, .int .i64 0, .bool false, .bool false, .bool false, .agg Fd.cells, .agg Fd.cells, .bool false, .bool false, .bool false, .int .i64 0, .bool false, .bool false, .agg Fd.cells, .int .i64 4, .bool false, .int .i64 3, .int .i64 4, .tuple #[.agg Fd.cells, .int .i64 0], .agg (Fld.cells (turF (turF (turF Fd)))), .tuple #[.agg Fd.cells, .int .i64 0], .agg Fd.cells, .int .i64 0, .tuple #[.agg Fd.cells, .int .i64 0], .agg (Fld.cells (turF (turF (turF Fd)))), .tuple #[.agg Fd.cells, .int .i64 0], .agg Fd.cells, .int .i64 0, .tuple #[.int .i64 (sumN Fd.s 100), .int .i64 0], .agg Fd.cells, .tuple #[.int .i64 (sumN Fd.s 100), .int .i64 0], .int .i64 (sumN Fd.s 100), .int .i64 0, .int .i64 0, .int .i64 0, .bool false, .bool false, .int .i64 0, .bool false, .bool false, .bool false, .agg Fd.cells, .agg Fd.cells, .bool false, .bool false, .bool false, .int .i64 0, .bool false, .bool false, .bool false, .int .i64 (sumN Fd.s 100), .int .i64 (sumN Fd.s 100), .bool false, .bool false, .agg Fd.cells, v2, .int .i64 p1, .tuple #[.agg (Fld.cells (tookF Fd c_ p1)), .int .i64 (minI p1 (Fd.s (c_).toNat)), .int .i64 0], .agg Fd.cells, .int .i64 c_, .int .i64 p1, .tuple #[.agg (Fld.cells (tookF Fd c_ p1)), .int .i64 (minI p1 (Fd.s (c_).toNat)), .int .i64 0], .agg (Fld.cells (tookF Fd c_ p1)), .int .i64 (minI p1 (Fd.s (c_).toNat)), .int .i64 0, .tuple #[.agg (Fld.cells (tookF Fd c_ p1)), .int .i64 (minI p1 (Fd.s (c_).toNat)), .int .i64 0], .agg Fd.cells, .int .i64 c_, .int .i64 p1, .tuple #[.agg (Fld.cells (tookF Fd c_ p1)), .int .i64 (minI p1 (Fd.s (c_).toNat)), .int .i64 0], .agg (Fld.cells (tookF Fd c_ p1)), .int .i64 (minI p1 (Fd.s (c_).toNat)), .int .i64 0, .tuple #[.int .i64 (sumN Fd.s 100 - minI p1 (Fd.s (c_).toNat)), .int .i64 0], .agg (Fld.cells (tookF Fd c_ p1)), .tuple #[.int .i64 (sumN Fd.s 100 - minI p1 (Fd.s (c_).toNat)), .int .i64 0], .int .i64 (sumN Fd.s 100 - minI p1 (Fd.s (c_).toNat)), .int .i64 0, .tuple #[.int .i64 (Fd.s (c_).toNat), .int .i64 0], .agg Fd.cells, .int .i64 c_, .tuple #[.int .i64 (Fd.s (c_).toNat), .int .i64 0], .int .i64 (Fd.s (c_).toNat), .int .i64 0, .tuple #[.int .i64 (Fd.k (c_).toNat), .int .i64 0], .agg Fd.cells, .int .i64 c_, .tuple #[.int .i64 (Fd.k (c_).toNat), .int .i64 0], .int .i64 (Fd.k (c_).toNat), .int .i64 0, .agg Fd.cells, .agg Fd.cells, .bool false, .bool false, .int .i64 0, .int .i64 0, .bool false, .bool false, .bool false, .int .i64 0, .bool false, .bool false, .bool false, .agg (Fld.cells (tookF Fd c_ p1)), .agg (Fld.cells (tookF Fd c_ p1)), .bool false, .bool false, .bool false, .int .i64 (minI p1 (Fd.s (c_).toNat)), .int .i64 (minI p1 (Fd.s (c_).toNat)), .bool false, .bool false, .bool false, .int .i64 0, .bool false, .bool false, .bool false, .int .i64 (sumN Fd.s 100 - minI p1 (Fd.s (c_).toNat)), .int .i64 (minI p1 (Fd.s (c_).toNat)), .int .i64 ((sumN Fd.s 100 - minI p1 (Fd.s (c_).toNat)) + (minI p1 (Fd.s (c_).toNat))), .int .i64 (sumN Fd.s 100), .bool (((sumN Fd.s 100 - minI p1 (Fd.s (c_).toNat)) + (minI p1 (Fd.s (c_).toNat))) != (sumN Fd.s 100)), .bool (((sumN Fd.s 100 - minI p1 (Fd.s (c_).toNat)) + (minI p1 (Fd.s (c_).toNat))) != (sumN Fd.s 100)), .bool false, .int .i64 0, .bool false, .bool false, .bool false, .int .i64 (minI p1 (Fd.s (c_).toNat)), .int .i64 p1, .int .i64 (Fd.s (c_).toNat), .int .i64 (minI p1 (Fd.s (c_).toNat)), .bool false, .bool false, .bool false, .int .i64 0, .bool false, .bool false, .bool false, .int .i64 (Fd.k (c_).toNat), .int .i64 c_, .pointer (some ⟨g1, 2, none⟩), .pointer (some ⟨g1, 2 + (c_).toNat, none⟩), .int .u8 (Fd.k ((c_).toNat)), .int .i64 (Fd.k ((c_).toNat)), .bool ((Fd.k (c_).toNat) != (Fd.k ((c_).toNat))), .bool ((Fd.k (c_).toNat) != (Fd.k ((c_).toNat))), .tuple #[.agg (Fld.cells Fld.zero), .int .i64 4], .agg (Fld.cells (tookF Fd c_ p1)), .int .i64 c_, .int .i64 (minI p1 (Fd.s (c_).toNat)), .tuple #[.agg (Fld.cells Fld.zero), .int .i64 4], .agg (Fld.cells Fld.zero), .int .i64 4, .agg Fd.cells, .int .i64 c_, .bool false, .int .i64 4, .bool false, .bool false, .bool false, .int .i64 4, .bool false, .bool false, undef, undef, undef, .bool false, .bool false, .bool false, .int .i64 4, .bool true, .bool true, .int .i64 4, .bool false, .bool false, .bool false, .tuple #[.agg (Fld.cells (withK Fd c_ 2)), .int .i64 0], .agg Fd.cells, .int .i64 c_, .tuple #[.agg (Fld.cells (withK Fd c_ 2)), .int .i64 0], .agg (Fld.cells (withK Fd c_ 2)), .int .i64 0, .tuple #[.agg (Fld.cells (withK Fd c_ 2)), .int .i64 0], .agg Fd.cells, .int .i64 c_, .tuple #[.agg (Fld.cells (withK Fd c_ 2)), .int .i64 0], .agg (Fld.cells (withK Fd c_ 2)), .int .i64 0, .tuple #[.int .i64 (sumN Fd.s 100 - Fd.s (c_).toNat), .int .i64 0], .agg (Fld.cells (withK Fd c_ 2)), .tuple #[.int .i64 (sumN Fd.s 100 - Fd.s (c_).toNat), .int .i64 0], .int .i64 (sumN Fd.s 100 - Fd.s (c_).toNat), .int .i64 0, .tuple #[.agg (Fld.cells (plnF Fd.w Fd.h p1)), .int .i64 0], .pointer (some ⟨g1, 0, none⟩), .int .i8 Fd.w, .int .i64 Fd.w, .pointer (some ⟨g1, 1, none⟩), .int .i8 Fd.h, .int .i64 Fd.h, .int .i64 p1, .tuple #[.agg (Fld.cells (plnF Fd.w Fd.h p1)), .int .i64 0], .agg (Fld.cells (plnF Fd.w Fd.h p1)), .int .i64 0, .tuple #[.int .i64 (p1 * Fd.w * Fd.h), .int .i64 0], .agg (Fld.cells (plnF Fd.w Fd.h p1)), .tuple #[.int .i64 (p1 * Fd.w * Fd.h), .int .i64 0], .int .i64 (p1 * Fd.w * Fd.h), .int .i64 0, undef, undef, undef, undef, undef, undef, undef, undef, undef, undef, undef, undef, undef, undef, undef, undef, undef, undef, undef, undef, undef, undef, undef, undef, undef, undef, undef, undef, undef, undef, undef, undef, undef, undef, undef, undef, undef, undef, undef, undef, undef, undef, undef, undef], []⟩) (by kernel_rfl) ?_
           refine wsr ?_
           refine wv (.int .i64 0) ?_
           refine wv (.int .i64 0) ?_
           refine wvv (.bool (0 == 0)) (.bool true) (by simp) ?_
           refine wv (.bool true) ?_
           refine wv (.int .i64 0) ?_
           refine wvv (.bool (0 == 0)) (.bool true) (by simp) ?_
           refine wv (.bool true) ?_
           refine wv (.bool true) ?_
           replace B22 := (X28.blk (B22.ext E67) q_g22_g24).ext E68
           refine wrow row_impl_Field B22 (by exact Fld.size_cells _) ?_
           replace B23 := (X28.blk (B23.ext E67) q_g23_g24).ext E68
           refine wrow row_impl_Field B23 (by exact Fld.size_cells _) ?_
           refine weqA fldt_impl_Field.eg (equalIn_fld fldt_impl_Field 9997 (withK Fd c_ 2) (withK Fd c_ 2)) ?_
           refine wbl 339 true (eqFld_s (withK Fd c_ 2)) ?_
           refine wv (.bool true) ?_
           refine wv (.bool true) ?_
           refine wv (.int .i64 0) ?_
           refine wvv (.bool (0 == 0)) (.bool true) (by simp) ?_
           refine wv (.bool true) ?_
           refine wv (.bool true) ?_
           refine wv (.int .i64 (sumN Fd.s 100 - Fd.s (c_).toNat)) ?_
           refine wv (.int .i64 (sumN Fd.s 100)) ?_
           refine wv (.int .i64 (Fd.s (c_).toNat)) ?_
           refine wi64 ((sumN Fd.s 100) - (Fd.s (c_).toNat)) ?_
           refine wv (.bool ((sumN Fd.s 100 - Fd.s (c_).toNat) == ((sumN Fd.s 100) - (Fd.s (c_).toNat)))) ?_
           refine wv (.bool ((sumN Fd.s 100 - Fd.s (c_).toNat) == ((sumN Fd.s 100) - (Fd.s (c_).toNat)))) ?_
           refine wv (.bool ((sumN Fd.s 100 - Fd.s (c_).toNat) == ((sumN Fd.s 100) - (Fd.s (c_).toNat)))) ?_
           have H33 := (X28.ext w lo_g24 (H32.trans E67)).trans E68
           refine split_bool ((sumN Fd.s 100 - Fd.s (c_).toNat) == ((sumN Fd.s 100) - (Fd.s (c_).toNat))) (fun h7 => ?_) (fun h7 => ?_)
           · skip
             refine wbl 352 true h7 ?_
             have h7d := eT h7
             refine wv (.int .i64 0) ?_
             refine wvv (.bool (0 == 0)) (.bool true) (by simp) ?_
             refine wv (.bool true) ?_
             refine wv (.bool true) ?_
             refine wv (.int .i64 0) ?_
             refine wvv (.bool (0 == 0)) (.bool true) (by simp) ?_
             refine wv (.bool true) ?_
             refine wv (.bool true) ?_
             refine wv (.int .i64 (p1 * Fd.w * Fd.h)) ?_
             refine wv (.int .i64 p1) ?_
             refine wv (.pointer (some ⟨g1, 0, none⟩)) ?_
             replace B1 := (X28.blk (B1.ext E67) q_g1_g24).ext E68
             refine wld g1 (0) scal_int8 (B1.get (Fld.get0 _)) ?_
             refine wi64 Fd.w ?_
             refine wi64 (p1 * Fd.w) ?_
             refine wv (.pointer (some ⟨g1, 1, none⟩)) ?_
             refine wld g1 (1) scal_int8 (B1.get (Fld.get1 _)) ?_
             refine wi64 Fd.h ?_
             refine wi64 ((p1 * Fd.w) * Fd.h) ?_
             refine wv (.bool ((p1 * Fd.w * Fd.h) == ((p1 * Fd.w) * Fd.h))) ?_
             refine wv (.bool ((p1 * Fd.w * Fd.h) == ((p1 * Fd.w) * Fd.h))) ?_
             refine wpl_frame (a' := ⟨#[v, v2, undef, undef, .bool false, .pointer (some ⟨g1, 0, none⟩), .int .i64 c_, .pointer (some ⟨g2, 0, none⟩), .int .i64 0, .pointer (some ⟨g3, 0, none⟩), .int .i64 0, .pointer (some ⟨g4, 0, none⟩), .int .i64 0, .pointer (some ⟨g5, 0, none⟩), .int .i64 0, .int .i64 (sumN Fd.s 100), .int .i64 0, .pointer (some ⟨g6, 0, none⟩), .int .i64 4, .pointer (some ⟨g13, 0, none⟩), .int .i64 0, .pointer (some ⟨g14, 0, none⟩), .int .i64 0, .int .i64 (sumN Fd.s 100), .int .i64 0, .int .i64 p1, .pointer (some ⟨g15, 0, none⟩), .int .i64 (minI p1 (Fd.s (c_).toNat)), .int .i64 0, .pointer (some ⟨g16, 0, none⟩), .int .i64 (minI p1 (Fd.s (c_).toNat)), .int .i64 0, .int .i64 (sumN Fd.s 100 - minI p1 (Fd.s (c_).toNat)), .int .i64 0, .int .i64 (Fd.s (c_).toNat), .int .i64 0, .int .i64 (Fd.k (c_).toNat), .int .i64 0, .pointer (some ⟨g21, 0, none⟩), .int .i64 4, .pointer (some ⟨g22, 0, none⟩), .int .i64 0, .pointer (some ⟨g23, 0, none⟩), .int .i64 0, .int .i64 (sumN Fd.s 100 - Fd.s (c_).toNat), .int .i64 0, .pointer (some ⟨g24, 0, none⟩), .int .i64 0, .int .i64 (p1 * Fd.w * Fd.h), .int .i64 0, v, .bool (decide (4096 < (xs.length : Int))), .bool false, v2, .bool (decide (4096 < (ys.length : Int))), .bool (decide (4096 < (ys.length : Int))), v, .agg Fd.cells, v2, .agg Fd.cells, .int .i64 c_, .tuple #[.agg Fd.cells, .int .i64 0], .agg Fd.cells, .string (bs (fieldT Fd)), .tuple #[.agg Fd.cells, .int .i64 0], .agg Fd.cells, .int .i64 0, .tuple #[.agg (Fld.cells (mirF Fd)), .int .i64 0], .agg Fd.cells, .tuple #[.agg (Fld.cells (mirF Fd)), .int .i64 0], .agg (Fld.cells (mirF Fd)), .int .i64 0, .tuple #[.agg (Fld.cells (mirF Fd)), .int .i64 0], .agg Fd.cells, .tuple #[.agg (Fld.cells (mirF Fd)), .int .i64 0], .agg (Fld.cells (mirF Fd)), .int .i64 0, .tuple #[.agg Fd.cells, .int .i64 0], .agg (Fld.cells (mirF Fd)), .tuple #[.agg Fd.cells, .int .i64 0], .agg Fd.cells, .int .i64 0, .tuple #[.int .i64 (sumN Fd.s 100), .int .i64 0], .agg Fd.cells, .tuple #[.int .i64 (sumN Fd.s 100), .int .i64 0], .int .i64 (sumN Fd.s 100), .int .i64 0, .int .i64 0, .bool false, .bool false, .agg Fd.cells, .agg Fd.cells, .bool false, .bool false, .bool false, .agg Fd.cells, .agg Fd.cells, .bool true, .bool false, .bool false, .bool false, .agg Fd.cells, .bool true, .bool false, .bool false, .bool false, .int .i64 0, .int .i64 0, .bool false, .bool false, .bool false, .int .i64 0, .bool false, .bool false, .bool false, .agg (Fld.cells (mirF Fd)), .agg (Fld.cells (mirF Fd)), .bool false, .bool false, .bool false, .int .i64 0, .bool false, .bool false, .bool false, .agg Fd.cells, .agg Fd.cells, .bool false, .bool false, .bool false, .int .i64 0, .bool false, .bool false, .agg Fd.cells, .int .i64 4, .bool false, .int .i64 3, .int .i64 4, .tuple #[.agg Fd.cells, .int .i64 0], .agg (Fld.cells (turF (turF (turF Fd)))), .tuple #[.agg Fd.cells, .int .i64 0], .agg Fd.cells, .int .i64 0, .tuple #[.agg Fd.cells, .int .i64 0], .agg (Fld.cells (turF (turF (turF Fd)))), .tuple #[.agg Fd.cells, .int .i64 0], .agg Fd.cells, .int .i64 0, .tuple #[.int .i64 (sumN Fd.s 100), .int .i64 0], .agg Fd.cells, .tuple #[.int .i64 (sumN Fd.s 100), .int .i64 0], .int .i64 (sumN Fd.s 100), .int .i64 0, .int .i64 0, .int .i64 0, .bool false, .bool false, .int .i64 0, .bool false, .bool false, .bool false, .agg Fd.cells, .agg Fd.cells, .bool false, .bool false, .bool false, .int .i64 0, .bool false, .bool false, .bool false, .int .i64 (sumN Fd.s 100), .int .i64 (sumN Fd.s 100), .bool false, .bool false, .agg Fd.cells, v2, .int .i64 p1, .tuple #[.agg (Fld.cells (tookF Fd c_ p1)), .int .i64 (minI p1 (Fd.s (c_).toNat)), .int .i64 0], .agg Fd.cells, .int .i64 c_, .int .i64 p1, .tuple #[.agg (Fld.cells (tookF Fd c_ p1)), .int .i64 (minI p1 (Fd.s (c_).toNat)), .int .i64 0], .agg (Fld.cells (tookF Fd c_ p1)), .int .i64 (minI p1 (Fd.s (c_).toNat)), .int .i64 0, .tuple #[.agg (Fld.cells (tookF Fd c_ p1)), .int .i64 (minI p1 (Fd.s (c_).toNat)), .int .i64 0], .agg Fd.cells, .int .i64 c_, .int .i64 p1, .tuple #[.agg (Fld.cells (tookF Fd c_ p1)), .int .i64 (minI p1 (Fd.s (c_).toNat)), .int .i64 0], .agg (Fld.cells (tookF Fd c_ p1)), .int .i64 (minI p1 (Fd.s (c_).toNat)), .int .i64 0, .tuple #[.int .i64 (sumN Fd.s 100 - minI p1 (Fd.s (c_).toNat)), .int .i64 0], .agg (Fld.cells (tookF Fd c_ p1)), .tuple #[.int .i64 (sumN Fd.s 100 - minI p1 (Fd.s (c_).toNat)), .int .i64 0], .int .i64 (sumN Fd.s 100 - minI p1 (Fd.s (c_).toNat)), .int .i64 0, .tuple #[.int .i64 (Fd.s (c_).toNat), .int .i64 0], .agg Fd.cells, .int .i64 c_, .tuple #[.int .i64 (Fd.s (c_).toNat), .int .i64 0], .int .i64 (Fd.s (c_).toNat), .int .i64 0, .tuple #[.int .i64 (Fd.k (c_).toNat), .int .i64 0], .agg Fd.cells, .int .i64 c_, .tuple #[.int .i64 (Fd.k (c_).toNat), .int .i64 0], .int .i64 (Fd.k (c_).toNat), .int .i64 0, .agg Fd.cells, .agg Fd.cells, .bool false, .bool false, .int .i64 0, .int .i64 0, .bool false, .bool false, .bool false, .int .i64 0, .bool false, .bool false, .bool false, .agg (Fld.cells (tookF Fd c_ p1)), .agg (Fld.cells (tookF Fd c_ p1)), .bool false, .bool false, .bool false, .int .i64 (minI p1 (Fd.s (c_).toNat)), .int .i64 (minI p1 (Fd.s (c_).toNat)), .bool false, .bool false, .bool false, .int .i64 0, .bool false, .bool false, .bool false, .int .i64 (sumN Fd.s 100 - minI p1 (Fd.s (c_).toNat)), .int .i64 (minI p1 (Fd.s (c_).toNat)), .int .i64 ((sumN Fd.s 100 - minI p1 (Fd.s (c_).toNat)) + (minI p1 (Fd.s (c_).toNat))), .int .i64 (sumN Fd.s 100), .bool (((sumN Fd.s 100 - minI p1 (Fd.s (c_).toNat)) + (minI p1 (Fd.s (c_).toNat))) != (sumN Fd.s 100)), .bool (((sumN Fd.s 100 - minI p1 (Fd.s (c_).toNat)) + (minI p1 (Fd.s (c_).toNat))) != (sumN Fd.s 100)), .bool false, .int .i64 0, .bool false, .bool false, .bool false, .int .i64 (minI p1 (Fd.s (c_).toNat)), .int .i64 p1, .int .i64 (Fd.s (c_).toNat), .int .i64 (minI p1 (Fd.s (c_).toNat)), .bool false, .bool false, .bool false, .int .i64 0, .bool false, .bool false, .bool false, .int .i64 (Fd.k (c_).toNat), .int .i64 c_, .pointer (some ⟨g1, 2, none⟩), .pointer (some ⟨g1, 2 + (c_).toNat, none⟩), .int .u8 (Fd.k ((c_).toNat)), .int .i64 (Fd.k ((c_).toNat)), .bool ((Fd.k (c_).toNat) != (Fd.k ((c_).toNat))), .bool ((Fd.k (c_).toNat) != (Fd.k ((c_).toNat))), .tuple #[.agg (Fld.cells Fld.zero), .int .i64 4], .agg (Fld.cells (tookF Fd c_ p1)), .int .i64 c_, .int .i64 (minI p1 (Fd.s (c_).toNat)), .tuple #[.agg (Fld.cells Fld.zero), .int .i64 4], .agg (Fld.cells Fld.zero), .int .i64 4, .agg Fd.cells, .int .i64 c_, .bool false, .int .i64 4, .bool false, .bool false, .bool false, .int .i64 4, .bool false, .bool false, undef, undef, undef, .bool false, .bool false, .bool false, .int .i64 4, .bool true, .bool true, .int .i64 4, .bool false, .bool false, .bool false, .tuple #[.agg (Fld.cells (withK Fd c_ 2)), .int .i64 0], .agg Fd.cells, .int .i64 c_, .tuple #[.agg (Fld.cells (withK Fd c_ 2)), .int .i64 0], .agg (Fld.cells (withK Fd c_ 2)), .int .i64 0, .tuple #[.agg (Fld.cells (withK Fd c_ 2)), .int .i64 0], .agg Fd.cells, .int .i64 c_, .tuple #[.agg (Fld.cells (withK Fd c_ 2)), .int .i64 0], .agg (Fld.cells (withK Fd c_ 2)), .int .i64 0, .tuple #[.int .i64 (sumN Fd.s 100 - Fd.s (c_).toNat), .int .i64 0], .agg (Fld.cells (withK Fd c_ 2)), .tuple #[.int .i64 (sumN Fd.s 100 - Fd.s (c_).toNat), .int .i64 0], .int .i64 (sumN Fd.s 100 - Fd.s (c_).toNat), .int .i64 0, .tuple #[.agg (Fld.cells (plnF Fd.w Fd.h p1)), .int .i64 0], .pointer (some ⟨g1, 0, none⟩), .int .i8 Fd.w, .int .i64 Fd.w, .pointer (some ⟨g1, 1, none⟩), .int .i8 Fd.h, .int .i64 Fd.h, .int .i64 p1, .tuple #[.agg (Fld.cells (plnF Fd.w Fd.h p1)), .int .i64 0], .agg (Fld.cells (plnF Fd.w Fd.h p1)), .int .i64 0, .tuple #[.int .i64 (p1 * Fd.w * Fd.h), .int .i64 0], .agg (Fld.cells (plnF Fd.w Fd.h p1)), .tuple #[.int .i64 (p1 * Fd.w * Fd.h), .int .i64 0], .int .i64 (p1 * Fd.w * Fd.h), .int .i64 0, .int .i64 0, .int .i64 0, .bool true, .bool true, .int .i64 0, .bool true, .bool true, .bool true, .agg (Fld.cells (withK Fd c_ 2)), .agg (Fld.cells (withK Fd c_ 2)), .bool true, .bool true, .bool true, .int .i64 0, .bool true, .bool true, .bool true, .int .i64 (sumN Fd.s 100 - Fd.s (c_).toNat), .int .i64 (sumN Fd.s 100), .int .i64 (Fd.s (c_).toNat), .int .i64 ((sumN Fd.s 100) - (Fd.s (c_).toNat)), .bool ((sumN Fd.s 100 - Fd.s (c_).toNat) == ((sumN Fd.s 100) - (Fd.s (c_).toNat))), .bool ((sumN Fd.s 100 - Fd.s (c_).toNat) == ((sumN Fd.s 100) - (Fd.s (c_).toNat))), .bool true, .int .i64 0, .bool true, .bool true, .bool true, .int .i64 0, .bool true, .bool true, .bool true, .int .i64 (p1 * Fd.w * Fd.h), .int .i64 p1, .pointer (some ⟨g1, 0, none⟩), .int .i8 Fd.w, .int .i64 Fd.w, .int .i64 (p1 * Fd.w), .pointer (some ⟨g1, 1, none⟩), .int .i8 Fd.h, .int .i64 Fd.h, .int .i64 ((p1 * Fd.w) * Fd.h), .bool ((p1 * Fd.w * Fd.h) == ((p1 * Fd.w) * Fd.h)), .bool ((p1 * Fd.w * Fd.h) == ((p1 * Fd.w) * Fd.h))], []⟩) (by kernel_rfl) ?_
             refine wv (.bool ((p1 * Fd.w * Fd.h) == ((p1 * Fd.w) * Fd.h))) ?_
             refine wpList_nil (then_normal ?_)
             refine wp_ret ?_
             refine ret1 (.bool true) rfl ?_ rfl ?_
             · refine (resT (v := .bool ((p1 * Fd.w * Fd.h) == ((p1 * Fd.w) * Fd.h))) (by kernel_rfl)).trans ?_
               refine congrArg Value.bool ?_
               first | exact beq_self_eq_true _ | (exfalso; omega)
             exact ⟨rfl, H33⟩
           · skip
             refine wbl 352 false h7 ?_
             have h7d := eF h7
             refine wsk ?_
             refine wsk ?_
             refine wv (.bool false) ?_
             refine wv (.bool false) ?_
             refine wsk ?_
             refine wsk ?_
             refine wv (.bool false) ?_
             refine wv (.bool false) ?_
             refine wsk ?_
             refine wsk ?_
             refine wsk ?_
             refine wsk ?_
             refine wsk ?_
             refine wsk ?_
             refine wsk ?_
             refine wsk ?_
             refine wsk ?_
             refine wsk ?_
             refine wsk ?_
             refine wv (.bool false) ?_
             refine wpl_frame (a' := ⟨#[v, v2, undef, undef, .bool false, .pointer (some ⟨g1, 0, none⟩), .int .i64 c_, .pointer (some ⟨g2, 0, none⟩), .int .i64 0, .pointer (some ⟨g3, 0, none⟩), .int .i64 0, .pointer (some ⟨g4, 0, none⟩), .int .i64 0, .pointer (some ⟨g5, 0, none⟩), .int .i64 0, .int .i64 (sumN Fd.s 100), .int .i64 0, .pointer (some ⟨g6, 0, none⟩), .int .i64 4, .pointer (some ⟨g13, 0, none⟩), .int .i64 0, .pointer (some ⟨g14, 0, none⟩), .int .i64 0, .int .i64 (sumN Fd.s 100), .int .i64 0, .int .i64 p1, .pointer (some ⟨g15, 0, none⟩), .int .i64 (minI p1 (Fd.s (c_).toNat)), .int .i64 0, .pointer (some ⟨g16, 0, none⟩), .int .i64 (minI p1 (Fd.s (c_).toNat)), .int .i64 0, .int .i64 (sumN Fd.s 100 - minI p1 (Fd.s (c_).toNat)), .int .i64 0, .int .i64 (Fd.s (c_).toNat), .int .i64 0, .int .i64 (Fd.k (c_).toNat), .int .i64 0, .pointer (some ⟨g21, 0, none⟩), .int .i64 4, .pointer (some ⟨g22, 0, none⟩), .int .i64 0, .pointer (some ⟨g23, 0, none⟩), .int .i64 0, .int .i64 (sumN Fd.s 100 - Fd.s (c_).toNat), .int .i64 0, .pointer (some ⟨g24, 0, none⟩), .int .i64 0, .int .i64 (p1 * Fd.w * Fd.h), .int .i64 0, v, .bool (decide (4096 < (xs.length : Int))), .bool false, v2, .bool (decide (4096 < (ys.length : Int))), .bool (decide (4096 < (ys.length : Int))), v, .agg Fd.cells, v2, .agg Fd.cells, .int .i64 c_, .tuple #[.agg Fd.cells, .int .i64 0], .agg Fd.cells, .string (bs (fieldT Fd)), .tuple #[.agg Fd.cells, .int .i64 0], .agg Fd.cells, .int .i64 0, .tuple #[.agg (Fld.cells (mirF Fd)), .int .i64 0], .agg Fd.cells, .tuple #[.agg (Fld.cells (mirF Fd)), .int .i64 0], .agg (Fld.cells (mirF Fd)), .int .i64 0, .tuple #[.agg (Fld.cells (mirF Fd)), .int .i64 0], .agg Fd.cells, .tuple #[.agg (Fld.cells (mirF Fd)), .int .i64 0], .agg (Fld.cells (mirF Fd)), .int .i64 0, .tuple #[.agg Fd.cells, .int .i64 0], .agg (Fld.cells (mirF Fd)), .tuple #[.agg Fd.cells, .int .i64 0], .agg Fd.cells, .int .i64 0, .tuple #[.int .i64 (sumN Fd.s 100), .int .i64 0], .agg Fd.cells, .tuple #[.int .i64 (sumN Fd.s 100), .int .i64 0], .int .i64 (sumN Fd.s 100), .int .i64 0, .int .i64 0, .bool false, .bool false, .agg Fd.cells, .agg Fd.cells, .bool false, .bool false, .bool false, .agg Fd.cells, .agg Fd.cells, .bool true, .bool false, .bool false, .bool false, .agg Fd.cells, .bool true, .bool false, .bool false, .bool false, .int .i64 0, .int .i64 0, .bool false, .bool false, .bool false, .int .i64 0, .bool false, .bool false, .bool false, .agg (Fld.cells (mirF Fd)), .agg (Fld.cells (mirF Fd)), .bool false, .bool false, .bool false, .int .i64 0, .bool false, .bool false, .bool false, .agg Fd.cells, .agg Fd.cells, .bool false, .bool false, .bool false, .int .i64 0, .bool false, .bool false, .agg Fd.cells, .int .i64 4, .bool false, .int .i64 3, .int .i64 4, .tuple #[.agg Fd.cells, .int .i64 0], .agg (Fld.cells (turF (turF (turF Fd)))), .tuple #[.agg Fd.cells, .int .i64 0], .agg Fd.cells, .int .i64 0, .tuple #[.agg Fd.cells, .int .i64 0], .agg (Fld.cells (turF (turF (turF Fd)))), .tuple #[.agg Fd.cells, .int .i64 0], .agg Fd.cells, .int .i64 0, .tuple #[.int .i64 (sumN Fd.s 100), .int .i64 0], .agg Fd.cells, .tuple #[.int .i64 (sumN Fd.s 100), .int .i64 0], .int .i64 (sumN Fd.s 100), .int .i64 0, .int .i64 0, .int .i64 0, .bool false, .bool false, .int .i64 0, .bool false, .bool false, .bool false, .agg Fd.cells, .agg Fd.cells, .bool false, .bool false, .bool false, .int .i64 0, .bool false, .bool false, .bool false, .int .i64 (sumN Fd.s 100), .int .i64 (sumN Fd.s 100), .bool false, .bool false, .agg Fd.cells, v2, .int .i64 p1, .tuple #[.agg (Fld.cells (tookF Fd c_ p1)), .int .i64 (minI p1 (Fd.s (c_).toNat)), .int .i64 0], .agg Fd.cells, .int .i64 c_, .int .i64 p1, .tuple #[.agg (Fld.cells (tookF Fd c_ p1)), .int .i64 (minI p1 (Fd.s (c_).toNat)), .int .i64 0], .agg (Fld.cells (tookF Fd c_ p1)), .int .i64 (minI p1 (Fd.s (c_).toNat)), .int .i64 0, .tuple #[.agg (Fld.cells (tookF Fd c_ p1)), .int .i64 (minI p1 (Fd.s (c_).toNat)), .int .i64 0], .agg Fd.cells, .int .i64 c_, .int .i64 p1, .tuple #[.agg (Fld.cells (tookF Fd c_ p1)), .int .i64 (minI p1 (Fd.s (c_).toNat)), .int .i64 0], .agg (Fld.cells (tookF Fd c_ p1)), .int .i64 (minI p1 (Fd.s (c_).toNat)), .int .i64 0, .tuple #[.int .i64 (sumN Fd.s 100 - minI p1 (Fd.s (c_).toNat)), .int .i64 0], .agg (Fld.cells (tookF Fd c_ p1)), .tuple #[.int .i64 (sumN Fd.s 100 - minI p1 (Fd.s (c_).toNat)), .int .i64 0], .int .i64 (sumN Fd.s 100 - minI p1 (Fd.s (c_).toNat)), .int .i64 0, .tuple #[.int .i64 (Fd.s (c_).toNat), .int .i64 0], .agg Fd.cells, .int .i64 c_, .tuple #[.int .i64 (Fd.s (c_).toNat), .int .i64 0], .int .i64 (Fd.s (c_).toNat), .int .i64 0, .tuple #[.int .i64 (Fd.k (c_).toNat), .int .i64 0], .agg Fd.cells, .int .i64 c_, .tuple #[.int .i64 (Fd.k (c_).toNat), .int .i64 0], .int .i64 (Fd.k (c_).toNat), .int .i64 0, .agg Fd.cells, .agg Fd.cells, .bool false, .bool false, .int .i64 0, .int .i64 0, .bool false, .bool false, .bool false, .int .i64 0, .bool false, .bool false, .bool false, .agg (Fld.cells (tookF Fd c_ p1)), .agg (Fld.cells (tookF Fd c_ p1)), .bool false, .bool false, .bool false, .int .i64 (minI p1 (Fd.s (c_).toNat)), .int .i64 (minI p1 (Fd.s (c_).toNat)), .bool false, .bool false, .bool false, .int .i64 0, .bool false, .bool false, .bool false, .int .i64 (sumN Fd.s 100 - minI p1 (Fd.s (c_).toNat)), .int .i64 (minI p1 (Fd.s (c_).toNat)), .int .i64 ((sumN Fd.s 100 - minI p1 (Fd.s (c_).toNat)) + (minI p1 (Fd.s (c_).toNat))), .int .i64 (sumN Fd.s 100), .bool (((sumN Fd.s 100 - minI p1 (Fd.s (c_).toNat)) + (minI p1 (Fd.s (c_).toNat))) != (sumN Fd.s 100)), .bool (((sumN Fd.s 100 - minI p1 (Fd.s (c_).toNat)) + (minI p1 (Fd.s (c_).toNat))) != (sumN Fd.s 100)), .bool false, .int .i64 0, .bool false, .bool false, .bool false, .int .i64 (minI p1 (Fd.s (c_).toNat)), .int .i64 p1, .int .i64 (Fd.s (c_).toNat), .int .i64 (minI p1 (Fd.s (c_).toNat)), .bool false, .bool false, .bool false, .int .i64 0, .bool false, .bool false, .bool false, .int .i64 (Fd.k (c_).toNat), .int .i64 c_, .pointer (some ⟨g1, 2, none⟩), .pointer (some ⟨g1, 2 + (c_).toNat, none⟩), .int .u8 (Fd.k ((c_).toNat)), .int .i64 (Fd.k ((c_).toNat)), .bool ((Fd.k (c_).toNat) != (Fd.k ((c_).toNat))), .bool ((Fd.k (c_).toNat) != (Fd.k ((c_).toNat))), .tuple #[.agg (Fld.cells Fld.zero), .int .i64 4], .agg (Fld.cells (tookF Fd c_ p1)), .int .i64 c_, .int .i64 (minI p1 (Fd.s (c_).toNat)), .tuple #[.agg (Fld.cells Fld.zero), .int .i64 4], .agg (Fld.cells Fld.zero), .int .i64 4, .agg Fd.cells, .int .i64 c_, .bool false, .int .i64 4, .bool false, .bool false, .bool false, .int .i64 4, .bool false, .bool false, undef, undef, undef, .bool false, .bool false, .bool false, .int .i64 4, .bool true, .bool true, .int .i64 4, .bool false, .bool false, .bool false, .tuple #[.agg (Fld.cells (withK Fd c_ 2)), .int .i64 0], .agg Fd.cells, .int .i64 c_, .tuple #[.agg (Fld.cells (withK Fd c_ 2)), .int .i64 0], .agg (Fld.cells (withK Fd c_ 2)), .int .i64 0, .tuple #[.agg (Fld.cells (withK Fd c_ 2)), .int .i64 0], .agg Fd.cells, .int .i64 c_, .tuple #[.agg (Fld.cells (withK Fd c_ 2)), .int .i64 0], .agg (Fld.cells (withK Fd c_ 2)), .int .i64 0, .tuple #[.int .i64 (sumN Fd.s 100 - Fd.s (c_).toNat), .int .i64 0], .agg (Fld.cells (withK Fd c_ 2)), .tuple #[.int .i64 (sumN Fd.s 100 - Fd.s (c_).toNat), .int .i64 0], .int .i64 (sumN Fd.s 100 - Fd.s (c_).toNat), .int .i64 0, .tuple #[.agg (Fld.cells (plnF Fd.w Fd.h p1)), .int .i64 0], .pointer (some ⟨g1, 0, none⟩), .int .i8 Fd.w, .int .i64 Fd.w, .pointer (some ⟨g1, 1, none⟩), .int .i8 Fd.h, .int .i64 Fd.h, .int .i64 p1, .tuple #[.agg (Fld.cells (plnF Fd.w Fd.h p1)), .int .i64 0], .agg (Fld.cells (plnF Fd.w Fd.h p1)), .int .i64 0, .tuple #[.int .i64 (p1 * Fd.w * Fd.h), .int .i64 0], .agg (Fld.cells (plnF Fd.w Fd.h p1)), .tuple #[.int .i64 (p1 * Fd.w * Fd.h), .int .i64 0], .int .i64 (p1 * Fd.w * Fd.h), .int .i64 0, .int .i64 0, .int .i64 0, .bool true, .bool true, .int .i64 0, .bool true, .bool true, .bool true, .agg (Fld.cells (withK Fd c_ 2)), .agg (Fld.cells (withK Fd c_ 2)), .bool true, .bool true, .bool true, .int .i64 0, .bool true, .bool true, .bool true, .int .i64 (sumN Fd.s 100 - Fd.s (c_).toNat), .int .i64 (sumN Fd.s 100), .int .i64 (Fd.s (c_).toNat), .int .i64 ((sumN Fd.s 100) - (Fd.s (c_).toNat)), .bool ((sumN Fd.s 100 - Fd.s (c_).toNat) == ((sumN Fd.s 100) - (Fd.s (c_).toNat))), .bool ((sumN Fd.s 100 - Fd.s (c_).toNat) == ((sumN Fd.s 100) - (Fd.s (c_).toNat))), .bool false, undef, undef, .bool false, .bool false, undef, undef, .bool false, .bool false, undef, undef, undef, undef, undef, undef, undef, undef, undef, undef, undef, .bool false], []⟩) (by kernel_rfl) ?_
             refine wv (.bool false) ?_
             refine wpList_nil (then_normal ?_)
             refine wp_ret ?_
             refine ret1 (.bool true) rfl ?_ rfl ?_
             · refine (resT (v := .bool false) (by kernel_rfl)).trans ?_
               refine congrArg Value.bool ?_
               first | exact beq_self_eq_true _ | (exfalso; omega)
             exact ⟨rfl, H33⟩
end
--# row FnFields
set_option maxRecDepth 100000 in
theorem fnFields_lifted (os : Os) (started : os.Started) (H : Type) (enc : TypeId × Value → H) :
    ReturnsInHanded {} Tryz.checked os 3 .any (fun w args => (Rows.fnFieldsSpec.pre enc Tryz.prog Tryz.f3 Rows.fnFieldsRow.domain false w args ∧ laidMetH Tryz.prog Rows.fnFieldsRow.laid w) ∧ sizedMet enc Tryz.prog Tryz.f3 (OpenSpec.ofChange Rows.fnFieldsSpec) false w args) (Rows.fnFieldsSpec.post enc Tryz.prog Tryz.f3 false true false false) := by
  refine returns_and_shaped (C := Tryz.checked) (X := fun w _ => laidMetH Tryz.prog Rows.fnFieldsRow.laid w) (fun _ _ _ hh h => h.of_heap hh) ownKnob_none started (by kernel_rfl) Tryz.func3
    (ChangeSpec.witness_shaped (enc := enc) (C := Tryz.checked) (os := os) (X := fun w _ => laidMetH Tryz.prog Rows.fnFieldsRow.laid w) false (World.laidAll Tryz.prog os Rows.fnFieldsRow.laid) #[.slice none 0 0, .slice none 0 0] 8 (World.laidAll_os _ _ _)
      (World.shaped_of_ZipB (by kernel_rfl) (by kernel_rfl)) (by kernel_rfl) (by kernel_rfl) (by kernel_rfl)
      (by rw [MakeChecks.laidMetH_plain _ _ _ (by kernel_rfl)]; exact laidMet_laidAll _ (by kernel_rfl) (by kernel_rfl))) ?_
  intro W base args ds gs before hval0 hW hL hsh
  have hval : ∀ (j : Nat) t v, Tryz.f3.params[j]? = some t → args[j]? = some v → Value.okWide Tryz.prog W .any base t v := hval0
  have hW' := hW
  obtain ⟨p, q, hA0, hV, rfl, hfz, hnd⟩ := hW
  have hA : DataW.TrodAll enc Tryz.prog W 0 (fun _ => true) true Tryz.f3.params.toList args.toList ds p := hA0
  rw [Tryz.params3] at hA hval
  rw [MakeChecks.laidMetH_plain _ _ _ (by kernel_rfl)] at hL
  have hT : TW W := tw_of hL hsh
  obtain ⟨v0, vs0, d0, ds0, p0, q0, hargs, rfl, rfl, h0, r0⟩ := trodAll_cons hA
  obtain ⟨v1, vs1, d1, ds1, p1, q1, rfl, rfl, rfl, h1, r1⟩ := trodAll_cons r0
  obtain ⟨rfl, rfl, rfl⟩ := trodAll_nil r1
  obtain rfl : args = #[v0, v1] := by cases args; simp_all
  obtain ⟨rfl, rfl⟩ := trodVars_none hV
  have k0 := h0
  have lt0 : ∀ x ∈ p0, x.block < W.heap.size := by obtain ⟨m, hm⟩ := k0; exact DataW.trod_lt m _ _ _ hm
  obtain ⟨xs, hin0, hwl0⟩ := open_slin (k := .u8) Tryz.underlying22 Tryz.underlying5 (by kernel_rfl) (hval 0 22 v0 rfl rfl) h0
  have k1 := h1
  have lt1 : ∀ x ∈ p1, x.block < W.heap.size := by obtain ⟨m, hm⟩ := k1; exact DataW.trod_lt m _ _ _ hm
  obtain ⟨ys, hin1, hwl1⟩ := open_slin (k := .u8) Tryz.underlying22 Tryz.underlying5 (by kernel_rfl) (hval 1 22 v1 rfl rfl) h1
  clear hA0 hval0
  refine (FnFields_walk xs v0 ys v1 (atI_u8 hwl0) (atI_u8 hwl1) W hT hin0 hin1).mono fun e W' ⟨he, hx⟩ => ?_
  have bel := hx.below
  subst he
  exact ⟨_, rfl, _, _, _, [], _, [], hW', trodAll_mk1 (shut_bool Tryz.underlying4 _), (trodAll_cons_mk (Below.trod laidOut_ (by kernel_rfl) (of_decide_eq_true (by kernel_rfl)) k0 bel lt0) (trodAll_cons_mk (Below.trod laidOut_ (by kernel_rfl) (of_decide_eq_true (by kernel_rfl)) k1 bel lt1) trodAll_mk0)), rfl, bel.frame _, fun h => by cases h⟩
theorem fnFields_row_holds : Rows.FnFieldsSaid :=
  OpenClaim.holds_of_wide 3 Tryz.f3 rfl rfl rfl rfl rfl rfl rfl ⟨rfl, rfl, rfl, rfl, rfl⟩ rfl rfl rfl rfl rfl (by kernel_rfl) Tryz.func3 (by kernel_rfl)
    (of_decide_eq_true (by kernel_rfl)) (by unfold Func.isWrapper; first | (rw [if_pos (by decide +kernel)]; kernel_rfl) | (rw [if_neg (by decide +kernel)]; exact ⟨rfl, rfl⟩))
    (fun os started H enc _ => fnFields_lifted os started H enc)
--# card FnFields
-- 3
theorem fnFields_holds : Rows.FnFieldsCardSaid :=
  Claim7.holds_tied_plain_at .later [] Rows.fnFieldsCard.laidKinds true Rows.fnFieldsCard.stood.harness true
    fnFields_row_holds (fun _ h => by cases h) (by kernel_rfl) (fun _ h => by cases h) fnFields_row_tie rfl ⟨rfl, rfl⟩ (by kernel_rfl) rfl
    (fun f fn hf hfn => by
      obtain rfl : f = 3 := Option.some.inj ((show Tryz.prog.funcNamed "loop.example/g01338/laws.FnFields" = some 3 by kernel_rfl).symm.trans hf) |>.symm
      obtain rfl : fn = Tryz.f3 := (Option.some.inj (Tryz.func3.symm.trans hfn)).symm
      exact ⟨by kernel_rfl, fun j t ht => by
        rw [Tryz.params3] at ht
        have hm : t ∈ [22, 22] := by simpa using Array.mem_of_getElem? ht
        have hall : ([22, 22].all fun u => !Tryz.prog.wantsStandIn u) = true := by kernel_rfl
        exact (show Tryz.prog.wantsStandIn t = false by simpa using List.all_eq_true.1 hall t hm)⟩)
    (by kernel_rfl)
end Go.Proofs.YteiplklloajjaaaGreatDoor
