/-
  For all arguments, the law FnSets returns true; its arguments read as they did. No conditions.
-/
import Derived.Test.YtdhidmigngmgjaaRows
import Derived.Test.YtdhidmigngmgjaaFn35
import Derived.Test.YtdhidmigngmgjaaRowk
import Derived.WalkKit
import Derived.ProofKit
import Derived.OpenShut
import Derived.ShutString
import Derived.ChangeOld
import Derived.Below
import Derived.SizedLaws
namespace Go.Proofs.Ytdhidmigngmgjaa
open Go.ChangeShapes Go.WideShapes Go.ChangeAt Go.RowKit
open Go.ChangeMaps (open_string shut_string)
set_option linter.unusedVariables false
theorem ownKnob_none : ownKnob Try.prog.godebug = none := by kernel_rfl
theorem laidOut_ : laidOutB Try.prog = true := by kernel_rfl
theorem atI_u8 {xs : List Int} (h : ∀ n ∈ xs, (Lit.int .u8 n).wf = true) (i : Nat) (hi : i < xs.length) : 0 ≤ atI xs i ∧ atI xs i ≤ 255 := bounds_u8 (h _ (atI_mem hi))
section
set_option maxHeartbeats 4000000
set_option maxRecDepth 100000
attribute [local irreducible] wpList Code.wp OpRun
--# walk FnSets
theorem FnSets_walk (xs : List Int) (v : Value) (ys : List Int) (v2 : Value) (hxb : ∀ i, i < xs.length → 0 ≤ atI xs i ∧ atI xs i ≤ 255) (hyb : ∀ i, i < ys.length → 0 ≤ atI ys i ∧ atI ys i ≤ 255) (w : World) (hin : SlIn w v .u8 xs) (hin2 : SlIn w v2 .u8 ys) :
 Calls Try.prog 3 #[v, v2] w fun e w' => e = .returned (.bool true) ∧ Ext w w' := by
 have hbx_ := hxb
 have hby_ := hyb
 refine calls_of_wp Try.func3 rfl ?_
 refine wp_frame (a' := ⟨#[v, v2, undef, undef, undef, undef, undef, undef, undef, undef, undef, undef, undef, undef, undef, undef, undef, undef, undef, undef, undef, undef, undef, undef, undef, undef, undef, undef, undef, undef, undef, undef, undef, undef, undef, undef, undef, undef, undef, undef, undef, undef, undef, undef, undef, undef, undef, undef, undef, undef, undef, undef, undef, undef, undef, undef, undef, undef, undef, undef, undef, undef, undef, undef, undef, undef, undef, undef, undef, undef, undef, undef, undef, undef, undef, undef, undef, undef, undef, undef, undef, undef, undef, undef, undef, undef, undef, undef, undef, undef, undef, undef, undef, undef, undef, undef, undef, undef, undef, undef, undef, undef, undef, undef, undef, undef, undef, undef, undef, undef, undef, undef, undef, undef, undef, undef, undef, undef, undef, undef, undef, undef, undef, undef, undef, undef, undef, undef, undef, undef, undef, undef, undef, undef, undef, undef, undef, undef, undef, undef, undef, undef, undef, undef, undef, undef, undef, undef, undef, undef, undef, undef, undef, undef, undef, undef, undef, undef, undef, undef, undef, undef, undef, undef, undef, undef, undef, undef, undef, undef, undef, undef, undef, undef, undef, undef, undef, undef, undef, undef, undef, undef, undef, undef, undef, undef, undef, undef, undef, undef, undef, undef, undef, undef, undef, undef, undef, undef, undef, undef, undef, undef, undef, undef, undef, undef, undef, undef, undef, undef, undef, undef, undef, undef, undef, undef, undef, undef, undef, undef, undef, undef, undef, undef, undef, undef, undef, undef, undef, undef, undef, undef, undef, undef, undef, undef, undef, undef, undef, undef, undef, undef, undef, undef, undef, undef, undef, undef, undef, undef, undef, undef, undef, undef, undef, undef, undef, undef, undef, undef, undef, undef, undef, undef, undef, undef, undef, undef, undef, undef, undef, undef, undef, undef, undef, undef, undef, undef, undef, undef, undef, undef, undef, undef, undef, undef, undef, undef, undef, undef, undef, undef, undef, undef, undef, undef, undef, undef, undef, undef, undef, undef, undef, undef, undef, undef, undef, undef, undef, undef, undef, undef, undef, undef, undef, undef, undef, undef, undef, undef, undef, undef, undef, undef, undef, undef, undef, undef, undef, undef, undef, undef, undef, undef, undef, undef, undef, undef, undef, undef, undef, undef, undef, undef, undef, undef, undef, undef, undef, undef, undef, undef, undef, undef], []⟩) (by kernel_rfl) ?_
 refine wsr ?_
 refine wv (.bool false) ?_
 refine wpList_nil (then_normal ?_)
 refine wp_seq ?_
 refine wsr ?_
 refine wv v ?_
 refine wcl (f6big_any xs v _ (SlIn.ext hin (Ext.refl w))) ?_
 intro w1 E1
 refine wv (.bool (decide (4096 < (xs.length : Int)))) ?_
 have H1 := (Ext.refl w).trans E1
 refine split_bool (decide (4096 < (xs.length : Int))) (fun h1 => ?_) (fun h1 => ?_)
 · skip
   refine wbl 44 true h1 ?_
   have h1d := dT h1
   refine wsk ?_
   refine wsk ?_
   refine wv (.bool true) ?_
   refine wpList_nil (then_normal ?_)
   refine wct ?_
   refine wsr ?_
   refine wv (.bool true) ?_
   refine wpList_nil (then_normal ?_)
   refine wp_ret ?_
   refine then_ret ?_
   refine ret1 (.bool true) rfl ?_ rfl ?_
   · exact resT (by kernel_rfl)
   exact ⟨rfl, H1⟩
 · skip
   refine wbl 44 false h1 ?_
   have h1d := dF h1
   refine wv v2 ?_
   refine wcl (f6big_any ys v2 _ (SlIn.ext hin2 H1)) ?_
   intro w2 E2
   refine wv (.bool (decide (4096 < (ys.length : Int)))) ?_
   refine wpList_nil (then_normal ?_)
   have H2 := H1.trans E2
   refine wsplit (decide (4096 < (ys.length : Int))) (fun h2 => ?_) (fun h2 => ?_)
   · skip
     have h2d := dT h2
     refine wsr ?_
     refine wv (.bool true) ?_
     refine wpList_nil (then_normal ?_)
     refine wp_ret ?_
     refine then_ret ?_
     refine ret1 (.bool true) rfl ?_ rfl ?_
     · exact resT (by kernel_rfl)
     exact ⟨rfl, H2⟩
   · skip
     have h2d := dF h2
     refine wp_skip ?_
     refine then_normal ?_
     refine wsr ?_
     refine wv v ?_
     refine wfld (P6Field_any xs v (by omega) hxb _ (SlIn.ext hin H2)) ?_
     intro Fd w3 hd_ E3
     have hF_ := hd_.wf
     have H3 := H2.trans E3
     refine wnew (Fld.cells Fld.zero) Try.zeroValue29 zero_impl_Field ?_
     intro g1 w4 B1 E4 hg_
     have lo_g1 := Nat.le_trans (H3).size hg_
     refine wput Fd.cells row_impl_Field B1 (by exact Fld.size_cells _) (by exact Fld.size_cells _) (by exact Fld.one_cells _) ?_
     intro w5 B1_ X1
     clear B1; have B1 := B1_; clear B1_
     refine wpList_nil (then_normal ?_)
     refine wsr ?_
     refine wv v ?_
     have H4 := X1.ext w lo_g1 (H3.trans E4)
     refine wset (P6Set_any xs v (by omega) hxb _ (SlIn.ext hin H4)) ?_
     intro x_ y_ w6 hxy_ hsz_ E5
     have hwy_ := hxy_.w2
     have H5 := H4.trans E5
     replace B1 := B1.ext E5
     refine wnew #[.int .u64 0, .int .u64 0] Try.zeroValue33 rfl ?_
     intro g2 w7 B2 E6 hg_
     have q_g1_g2 := Nat.ne_of_lt (Nat.lt_of_lt_of_le B1.lt hg_)
     have lo_g2 := Nat.le_trans (H5).size hg_
     refine wput #[.int .u64 x_, .int .u64 y_] row_impl_Cells B2 (by rfl) (by rfl) (by kernel_rfl) ?_
     intro w8 B2_ X2
     clear B2; have B2 := B2_; clear B2_
     refine wpList_nil (then_normal ?_)
     refine wsr ?_
     refine wv v2 ?_
     have H6 := X2.ext w lo_g2 (H5.trans E6)
     refine wset (P6Set_any ys v2 (by omega) hyb _ (SlIn.ext hin2 H6)) ?_
     intro x2_ y2_ w9 hxy2_ hsz2_ E7
     have hwy2_ := hxy2_.w2
     have H7 := H6.trans E7
     replace B1 := (X2.blk (B1.ext E6) q_g1_g2).ext E7
     replace B2 := B2.ext E7
     refine wnew #[.int .u64 0, .int .u64 0] Try.zeroValue33 rfl ?_
     intro g3 w10 B3 E8 hg_
     have q_g1_g3 := Nat.ne_of_lt (Nat.lt_of_lt_of_le B1.lt hg_)
     have q_g2_g3 := Nat.ne_of_lt (Nat.lt_of_lt_of_le B2.lt hg_)
     have lo_g3 := Nat.le_trans (H7).size hg_
     refine wput #[.int .u64 x2_, .int .u64 y2_] row_impl_Cells B3 (by rfl) (by rfl) (by kernel_rfl) ?_
     intro w11 B3_ X3
     clear B3; have B3 := B3_; clear B3_
     refine wpList_nil (then_normal ?_)
     refine wsr ?_
     replace B2 := X3.blk (B2.ext E8) q_g2_g3
     refine wrow row_impl_Cells B2 (by rfl) ?_
     refine wrow row_impl_Cells B3 (by rfl) ?_
     refine wcl (iUnion_any x_ y_ x2_ y2_ hwy_ hwy2_ _) ?_
     intro w12 E9
     have H8 := (X3.ext w lo_g3 (H7.trans E8)).trans E9
     replace B1 := (X3.blk (B1.ext E8) q_g1_g3).ext E9
     replace B2 := B2.ext E9
     replace B3 := B3.ext E9
     refine wnew #[.int .u64 0, .int .u64 0] Try.zeroValue33 rfl ?_
     intro g4 w13 B4 E10 hg_
     have q_g1_g4 := Nat.ne_of_lt (Nat.lt_of_lt_of_le B1.lt hg_)
     have q_g2_g4 := Nat.ne_of_lt (Nat.lt_of_lt_of_le B2.lt hg_)
     have q_g3_g4 := Nat.ne_of_lt (Nat.lt_of_lt_of_le B3.lt hg_)
     have lo_g4 := Nat.le_trans (H8).size hg_
     refine wput #[.int .u64 (un0 x_ x2_), .int .u64 (un1 y_ y2_)] row_impl_Cells B4 (by rfl) (by rfl) (by kernel_rfl) ?_
     intro w14 B4_ X4
     clear B4; have B4 := B4_; clear B4_
     refine wpList_nil (then_normal ?_)
     refine wsr ?_
     replace B2 := X4.blk (B2.ext E10) q_g2_g4
     refine wrow row_impl_Cells B2 (by rfl) ?_
     replace B3 := X4.blk (B3.ext E10) q_g3_g4
     refine wrow row_impl_Cells B3 (by rfl) ?_
     refine wcl (iBoth_any x_ y_ x2_ y2_ hwy_ hwy2_ _) ?_
     intro w15 E11
     have H9 := (X4.ext w lo_g4 (H8.trans E10)).trans E11
     replace B1 := (X4.blk (B1.ext E10) q_g1_g4).ext E11
     replace B2 := B2.ext E11
     replace B3 := B3.ext E11
     replace B4 := B4.ext E11
     refine wnew #[.int .u64 0, .int .u64 0] Try.zeroValue33 rfl ?_
     intro g5 w16 B5 E12 hg_
     have q_g1_g5 := Nat.ne_of_lt (Nat.lt_of_lt_of_le B1.lt hg_)
     have q_g2_g5 := Nat.ne_of_lt (Nat.lt_of_lt_of_le B2.lt hg_)
     have q_g3_g5 := Nat.ne_of_lt (Nat.lt_of_lt_of_le B3.lt hg_)
     have q_g4_g5 := Nat.ne_of_lt (Nat.lt_of_lt_of_le B4.lt hg_)
     have lo_g5 := Nat.le_trans (H9).size hg_
     refine wput #[.int .u64 (bo0 x_ x2_), .int .u64 (bo1 y_ y2_)] row_impl_Cells B5 (by rfl) (by rfl) (by kernel_rfl) ?_
     intro w17 B5_ X5
     clear B5; have B5 := B5_; clear B5_
     refine wpList_nil (then_normal ?_)
     refine wsr ?_
     replace B2 := X5.blk (B2.ext E12) q_g2_g5
     refine wrow row_impl_Cells B2 (by rfl) ?_
     replace B3 := X5.blk (B3.ext E12) q_g3_g5
     refine wrow row_impl_Cells B3 (by rfl) ?_
     refine wcl (iWithout_any x_ y_ x2_ y2_ hwy_ hwy2_ _) ?_
     intro w18 E13
     have H10 := (X5.ext w lo_g5 (H9.trans E12)).trans E13
     replace B1 := (X5.blk (B1.ext E12) q_g1_g5).ext E13
     replace B2 := B2.ext E13
     replace B3 := B3.ext E13
     replace B4 := (X5.blk (B4.ext E12) q_g4_g5).ext E13
     replace B5 := B5.ext E13
     refine wnew #[.int .u64 0, .int .u64 0] Try.zeroValue33 rfl ?_
     intro g6 w19 B6 E14 hg_
     have q_g1_g6 := Nat.ne_of_lt (Nat.lt_of_lt_of_le B1.lt hg_)
     have q_g2_g6 := Nat.ne_of_lt (Nat.lt_of_lt_of_le B2.lt hg_)
     have q_g3_g6 := Nat.ne_of_lt (Nat.lt_of_lt_of_le B3.lt hg_)
     have q_g4_g6 := Nat.ne_of_lt (Nat.lt_of_lt_of_le B4.lt hg_)
     have q_g5_g6 := Nat.ne_of_lt (Nat.lt_of_lt_of_le B5.lt hg_)
     have lo_g6 := Nat.le_trans (H10).size hg_
     refine wput #[.int .u64 (wo0 x_ x2_), .int .u64 (wo1 y_ y2_)] row_impl_Cells B6 (by rfl) (by rfl) (by kernel_rfl) ?_
     intro w20 B6_ X6
     clear B6; have B6 := B6_; clear B6_
     refine wpList_nil (then_normal ?_)
     refine wp_frame (a' := ⟨#[v, v2, undef, undef, .bool false, .pointer (some ⟨g1, 0, none⟩), .pointer (some ⟨g2, 0, none⟩), .pointer (some ⟨g3, 0, none⟩), .pointer (some ⟨g4, 0, none⟩), .pointer (some ⟨g5, 0, none⟩), .pointer (some ⟨g6, 0, none⟩), undef, undef, undef, undef, undef, undef, undef, undef, undef, undef, undef, undef, undef, undef, undef, undef, undef, undef, undef, undef, undef, undef, undef, undef, undef, undef, undef, undef, undef, undef, undef, v, .bool (decide (4096 < (xs.length : Int))), .bool false, v2, .bool (decide (4096 < (ys.length : Int))), .bool (decide (4096 < (ys.length : Int))), v, .agg Fd.cells, v, .agg #[.int .u64 x_, .int .u64 y_], v2, .agg #[.int .u64 x2_, .int .u64 y2_], .agg #[.int .u64 x_, .int .u64 y_], .agg #[.int .u64 x2_, .int .u64 y2_], .agg #[.int .u64 (un0 x_ x2_), .int .u64 (un1 y_ y2_)], .agg #[.int .u64 x_, .int .u64 y_], .agg #[.int .u64 x2_, .int .u64 y2_], .agg #[.int .u64 (bo0 x_ x2_), .int .u64 (bo1 y_ y2_)], .agg #[.int .u64 x_, .int .u64 y_], .agg #[.int .u64 x2_, .int .u64 y2_], .agg #[.int .u64 (wo0 x_ x2_), .int .u64 (wo1 y_ y2_)], undef, undef, undef, undef, undef, undef, undef, undef, undef, undef, undef, undef, undef, undef, undef, undef, undef, undef, undef, undef, undef, undef, undef, undef, undef, undef, undef, undef, undef, undef, undef, undef, undef, undef, undef, undef, undef, undef, undef, undef, undef, undef, undef, undef, undef, undef, undef, undef, undef, undef, undef, undef, undef, undef, undef, undef, undef, undef, undef, undef, undef, undef, undef, undef, undef, undef, undef, undef, undef, undef, undef, undef, undef, undef, undef, undef, undef, undef, undef, undef, undef, undef, undef, undef, undef, undef, undef, undef, undef, undef, undef, undef, undef, undef, undef, undef, undef, undef, undef, undef, undef, undef, undef, undef, undef, undef, undef, undef, undef, undef, undef, undef, undef, undef, undef, undef, undef, undef, undef, undef, undef, undef, undef, undef, undef, undef, undef, undef, undef, undef, undef, undef, undef, undef, undef, undef, undef, undef, undef, undef, undef, undef, undef, undef, undef, undef, undef, undef, undef, undef, undef, undef, undef, undef, undef, undef, undef, undef, undef, undef, undef, undef, undef, undef, undef, undef, undef, undef, undef, undef, undef, undef, undef, undef, undef, undef, undef, undef, undef, undef, undef, undef, undef, undef, undef, undef, undef, undef, undef, undef, undef, undef, undef, undef, undef, undef, undef, undef, undef, undef, undef, undef, undef, undef, undef, undef, undef, undef, undef, undef, undef, undef, undef, undef, undef, undef, undef, undef, undef, undef, undef, undef, undef, undef, undef, undef, undef, undef, undef, undef, undef, undef, undef, undef, undef, undef, undef, undef, undef, undef, undef, undef, undef, undef, undef, undef, undef, undef, undef, undef, undef, undef, undef, undef, undef, undef, undef, undef, undef, undef, undef, undef, undef, undef, undef, undef, undef, undef, undef, undef, undef, undef, undef, undef, undef, undef, undef, undef, undef, undef, undef, undef, undef, undef, undef, undef, undef, undef, undef, undef, undef], []⟩) (by kernel_rfl) ?_
     refine wp_seq ?_
     refine wp_seq ?_
     replace B4 := X6.blk (B4.ext E14) q_g4_g6
     replace B2 := X6.blk (B2.ext E14) q_g2_g6
     replace B3 := X6.blk (B3.ext E14) q_g3_g6
     replace B5 := X6.blk (B5.ext E14) q_g5_g6
     have ll1 := len_le (bo0 x_ x2_) (bo1 y_ y2_)
     have ll2 := len_le (wo0 x_ x2_) (wo1 y_ y2_)
     have ll3 := len_le (bo0 x_ x2_) (bo1 y_ y2_)
     have ll4 := len_le (wo0 x_ x2_) (wo1 y_ y2_)
     have ll5 := len_le (wo0 x_ x2_) (wo1 y_ y2_)
     have ll6 := len_le x2_ y2_
     have ll7 := len_le (wo0 x_ x2_) (wo1 y_ y2_)
     have ll8 := len_le x2_ y2_
     refine region_go 39 [63, 64, 65, 66, 67, 68, 69, 70, 71, 72, 73, 74, 75, 76, 77, 78, 79, 80, 81, 82, 83, 84, 85, 86, 87, 88, 89, 90, 91, 92, 93, 94, 95, 96, 97, 98, 99, 100, 101] [[], [], [], [1, 2], [0, 3], [4], [5], [5], [5], [5, 7, 8], [5, 6, 9], [5, 10], [11], [12], [12], [12], [12, 14, 15], [12, 13, 16], [12, 17], [18], [19], [19, 20], [19], [19, 22], [19], [19, 24], [19, 23, 25], [19, 21, 26], [19, 27], [28], [29], [29, 30], [29], [29, 32], [29], [29, 34], [29, 33, 35], [29, 31, 36], [29, 37]]
      (fun i_ => ([.val (.agg #[.int .u64 (un0 x_ x2_), .int .u64 (un1 y_ y2_)]), .val (.agg #[.int .u64 x_, .int .u64 y_]), .val (.agg #[.int .u64 x2_, .int .u64 y2_]), .val (.agg #[.int .u64 (un0 x_ x2_), .int .u64 (un1 y_ y2_)]), .val (.bool (!(eq2 (un0 x_ x2_) (un1 y_ y2_) (un0 x_ x2_) (un1 y_ y2_)))), .val (.bool false), .val (.agg #[.int .u64 (bo0 x_ x2_), .int .u64 (bo1 y_ y2_)]), .val (.agg #[.int .u64 x_, .int .u64 y_]), .val (.agg #[.int .u64 x2_, .int .u64 y2_]), .val (.agg #[.int .u64 (bo0 x_ x2_), .int .u64 (bo1 y_ y2_)]), .val (.bool (!(eq2 (bo0 x_ x2_) (bo1 y_ y2_) (bo0 x_ x2_) (bo1 y_ y2_)))), .val (.bool false), .val (.bool false), .val (.agg #[.int .u64 (wo0 x_ x2_), .int .u64 (wo1 y_ y2_)]), .val (.agg #[.int .u64 x_, .int .u64 y_]), .val (.agg #[.int .u64 x2_, .int .u64 y2_]), .val (.agg #[.int .u64 (wo0 x_ x2_), .int .u64 (wo1 y_ y2_)]), .val (.bool (!(eq2 (wo0 x_ x2_) (wo1 y_ y2_) (wo0 x_ x2_) (wo1 y_ y2_)))), .val (.bool false), .val (.bool false), .val (.agg #[.int .u64 x_, .int .u64 y_]), .val (.int .i64 (((listL (bo0 x_ x2_) (bo1 y_ y2_)).length : Int) + ((listL (wo0 x_ x2_) (wo1 y_ y2_)).length : Int))), .val (.agg #[.int .u64 (bo0 x_ x2_), .int .u64 (bo1 y_ y2_)]), .val (.int .i64 ((listL (bo0 x_ x2_) (bo1 y_ y2_)).length : Int)), .val (.agg #[.int .u64 (wo0 x_ x2_), .int .u64 (wo1 y_ y2_)]), .val (.int .i64 ((listL (wo0 x_ x2_) (wo1 y_ y2_)).length : Int)), .val (.int .i64 (((listL (bo0 x_ x2_) (bo1 y_ y2_)).length : Int) + ((listL (wo0 x_ x2_) (wo1 y_ y2_)).length : Int))), .val (.bool false), .val (.bool false), .val (.bool false), .val (.agg #[.int .u64 (un0 x_ x2_), .int .u64 (un1 y_ y2_)]), .val (.int .i64 (((listL (wo0 x_ x2_) (wo1 y_ y2_)).length : Int) + ((listL x2_ y2_).length : Int))), .val (.agg #[.int .u64 (wo0 x_ x2_), .int .u64 (wo1 y_ y2_)]), .val (.int .i64 ((listL (wo0 x_ x2_) (wo1 y_ y2_)).length : Int)), .val (.agg #[.int .u64 x2_, .int .u64 y2_]), .val (.int .i64 ((listL x2_ y2_).length : Int)), .val (.int .i64 (((listL (wo0 x_ x2_) (wo1 y_ y2_)).length : Int) + ((listL x2_ y2_).length : Int))), .val (.bool false), .val (.bool false)] : List Fct).getD i_ .any)
      (by kernel_rfl) (by kernel_rfl) (by decide) (by simp) rfl (all_succ (all_succ (all_succ (all_succ (all_succ (all_succ (all_succ (all_succ (all_succ (all_succ (all_succ (all_succ (all_succ (all_succ (all_succ (all_succ (all_succ (all_succ (all_succ (all_succ (all_succ (all_succ (all_succ (all_succ (all_succ (all_succ (all_succ (all_succ (all_succ (all_succ (all_succ (all_succ (all_succ (all_succ (all_succ (all_succ (all_succ (all_succ (all_succ all_zero ?_) ?_) ?_) ?_) ?_) ?_) ?_) ?_) ?_) ?_) ?_) ?_) ?_) ?_) ?_) ?_) ?_) ?_) ?_) ?_) ?_) ?_) ?_) ?_) ?_) ?_) ?_) ?_) ?_) ?_) ?_) ?_) ?_) ?_) ?_) ?_) ?_) ?_) ?_) ?_
     · refine step0 rfl rfl rfl (fun wr hw => ?_)
       with_reducible refine OpRun.row (x := (.tmp 8)) row_impl_Cells (B4.ext hw) ?_ ?_ ?_ ?_
       · rfl
       · rfl
       · kernel_rfl
       · exact ⟨Ext.refl _, rfl⟩
     · refine step0 rfl rfl rfl (fun wr hw => ?_)
       with_reducible refine OpRun.row (x := (.tmp 6)) row_impl_Cells (B2.ext hw) ?_ ?_ ?_ ?_
       · rfl
       · rfl
       · kernel_rfl
       · exact ⟨Ext.refl _, rfl⟩
     · refine step0 rfl rfl rfl (fun wr hw => ?_)
       with_reducible refine OpRun.row (x := (.tmp 7)) row_impl_Cells (B3.ext hw) ?_ ?_ ?_ ?_
       · rfl
       · rfl
       · kernel_rfl
       · exact ⟨Ext.refl _, rfl⟩
     · refine step2 rfl rfl rfl rfl rfl (fun u0 u1 wr hw h0 h1 => ?_)
       cases h0
       cases h1
       exact OpRun.call 10 #[.agg #[.int .u64 x_, .int .u64 y_], .agg #[.int .u64 x2_, .int .u64 y2_]] (by kernel_rfl) ((sUnion_any x_ y_ x2_ y2_ hwy_ hwy2_ _).mono fun e w1 ⟨he, hb⟩ => ⟨_, he, hb, rfl⟩)
     · refine step2 rfl rfl rfl rfl rfl (fun u0 u1 wr hw h0 h1 => ?_)
       cases h0
       cases h1
       exact OpRun.neqA rfl (by kernel_rfl) (by kernel_rfl) duot_impl_Cells.eg (equalIn_duo duot_impl_Cells 9998 (un0 x_ x2_) (un1 y_ y2_) (un0 x_ x2_) (un1 y_ y2_)) ⟨Ext.refl _, rfl⟩
     · refine step1 rfl rfl rfl rfl (fun u0 wr hw h0 => ?_)
       cases h0
       exact OpRun.val (.bool (!(eq2 (un0 x_ x2_) (un1 y_ y2_) (un0 x_ x2_) (un1 y_ y2_)))) (.bool false) (by kernel_rfl) (congrArg Value.bool (bnT (eq2_s (un0 x_ x2_) (un1 y_ y2_)))) ⟨Ext.refl _, rfl⟩
     · refine gstep1 rfl rfl rfl rfl (fun u wr h => by cases h; rfl) (fun u0 wr hw h0 => ?_)
       cases h0
       with_reducible refine OpRun.row (x := (.tmp 9)) row_impl_Cells (B5.ext hw) ?_ ?_ ?_ ?_
       · rfl
       · rfl
       · kernel_rfl
       · exact ⟨Ext.refl _, rfl⟩
     · refine gstep1 rfl rfl rfl rfl (fun u wr h => by cases h; rfl) (fun u0 wr hw h0 => ?_)
       cases h0
       with_reducible refine OpRun.row (x := (.tmp 6)) row_impl_Cells (B2.ext hw) ?_ ?_ ?_ ?_
       · rfl
       · rfl
       · kernel_rfl
       · exact ⟨Ext.refl _, rfl⟩
     · refine gstep1 rfl rfl rfl rfl (fun u wr h => by cases h; rfl) (fun u0 wr hw h0 => ?_)
       cases h0
       with_reducible refine OpRun.row (x := (.tmp 7)) row_impl_Cells (B3.ext hw) ?_ ?_ ?_ ?_
       · rfl
       · rfl
       · kernel_rfl
       · exact ⟨Ext.refl _, rfl⟩
     · refine gstep3 rfl rfl rfl rfl rfl rfl (fun u wr h => by cases h; rfl) (fun u0 u1 u2 wr hw h0 h1 h2 => ?_)
       cases h0
       cases h1
       cases h2
       exact OpRun.call 11 #[.agg #[.int .u64 x_, .int .u64 y_], .agg #[.int .u64 x2_, .int .u64 y2_]] (by kernel_rfl) ((sBoth_any x_ y_ x2_ y2_ hwy_ hwy2_ _).mono fun e w1 ⟨he, hb⟩ => ⟨_, he, hb, rfl⟩)
     · refine gstep3 rfl rfl rfl rfl rfl rfl (fun u wr h => by cases h; rfl) (fun u0 u1 u2 wr hw h0 h1 h2 => ?_)
       cases h0
       cases h1
       cases h2
       exact OpRun.neqA rfl (by kernel_rfl) (by kernel_rfl) duot_impl_Cells.eg (equalIn_duo duot_impl_Cells 9998 (bo0 x_ x2_) (bo1 y_ y2_) (bo0 x_ x2_) (bo1 y_ y2_)) ⟨Ext.refl _, rfl⟩
     · refine step2 rfl rfl rfl rfl rfl (fun u0 u1 wr hw h0 h1 => ?_)
       cases h0
       cases h1
       exact OpRun.val (.bool (!(eq2 (bo0 x_ x2_) (bo1 y_ y2_) (bo0 x_ x2_) (bo1 y_ y2_)))) (.bool false) (by kernel_rfl) (congrArg Value.bool (bnT (eq2_s (bo0 x_ x2_) (bo1 y_ y2_)))) ⟨Ext.refl _, rfl⟩
     · refine step1 rfl rfl rfl rfl (fun u0 wr hw h0 => ?_)
       cases h0
       exact OpRun.val (.bool false) (.bool false) (by kernel_rfl) rfl ⟨Ext.refl _, rfl⟩
     · refine gstep1 rfl rfl rfl rfl (fun u wr h => by cases h; rfl) (fun u0 wr hw h0 => ?_)
       cases h0
       with_reducible refine OpRun.row (x := (.tmp 10)) row_impl_Cells (B6.ext hw) ?_ ?_ ?_ ?_
       · rfl
       · rfl
       · kernel_rfl
       · exact ⟨Ext.refl _, rfl⟩
     · refine gstep1 rfl rfl rfl rfl (fun u wr h => by cases h; rfl) (fun u0 wr hw h0 => ?_)
       cases h0
       with_reducible refine OpRun.row (x := (.tmp 6)) row_impl_Cells (B2.ext hw) ?_ ?_ ?_ ?_
       · rfl
       · rfl
       · kernel_rfl
       · exact ⟨Ext.refl _, rfl⟩
     · refine gstep1 rfl rfl rfl rfl (fun u wr h => by cases h; rfl) (fun u0 wr hw h0 => ?_)
       cases h0
       with_reducible refine OpRun.row (x := (.tmp 7)) row_impl_Cells (B3.ext hw) ?_ ?_ ?_ ?_
       · rfl
       · rfl
       · kernel_rfl
       · exact ⟨Ext.refl _, rfl⟩
     · refine gstep3 rfl rfl rfl rfl rfl rfl (fun u wr h => by cases h; rfl) (fun u0 u1 u2 wr hw h0 h1 h2 => ?_)
       cases h0
       cases h1
       cases h2
       exact OpRun.call 12 #[.agg #[.int .u64 x_, .int .u64 y_], .agg #[.int .u64 x2_, .int .u64 y2_]] (by kernel_rfl) ((sWithout_any x_ y_ x2_ y2_ hwy_ hwy2_ _).mono fun e w1 ⟨he, hb⟩ => ⟨_, he, hb, rfl⟩)
     · refine gstep3 rfl rfl rfl rfl rfl rfl (fun u wr h => by cases h; rfl) (fun u0 u1 u2 wr hw h0 h1 h2 => ?_)
       cases h0
       cases h1
       cases h2
       exact OpRun.neqA rfl (by kernel_rfl) (by kernel_rfl) duot_impl_Cells.eg (equalIn_duo duot_impl_Cells 9998 (wo0 x_ x2_) (wo1 y_ y2_) (wo0 x_ x2_) (wo1 y_ y2_)) ⟨Ext.refl _, rfl⟩
     · refine step2 rfl rfl rfl rfl rfl (fun u0 u1 wr hw h0 h1 => ?_)
       cases h0
       cases h1
       exact OpRun.val (.bool (!(eq2 (wo0 x_ x2_) (wo1 y_ y2_) (wo0 x_ x2_) (wo1 y_ y2_)))) (.bool false) (by kernel_rfl) (congrArg Value.bool (bnT (eq2_s (wo0 x_ x2_) (wo1 y_ y2_)))) ⟨Ext.refl _, rfl⟩
     · refine step1 rfl rfl rfl rfl (fun u0 wr hw h0 => ?_)
       cases h0
       exact OpRun.val (.bool false) (.bool false) (by kernel_rfl) rfl ⟨Ext.refl _, rfl⟩
     · refine gstep1 rfl rfl rfl rfl (fun u wr h => by cases h; rfl) (fun u0 wr hw h0 => ?_)
       cases h0
       with_reducible refine OpRun.row (x := (.tmp 6)) row_impl_Cells (B2.ext hw) ?_ ?_ ?_ ?_
       · rfl
       · rfl
       · kernel_rfl
       · exact ⟨Ext.refl _, rfl⟩
     · refine gstep2 rfl rfl rfl rfl rfl (fun u wr h => by cases h; rfl) (fun u0 u1 wr hw h0 h1 => ?_)
       cases h0
       cases h1
       exact OpRun.call 13 #[.agg #[.int .u64 x_, .int .u64 y_]] (by kernel_rfl) ((iCount_is x_ y_ hxy_ (((listL (bo0 x_ x2_) (bo1 y_ y2_)).length : Int) + ((listL (wo0 x_ x2_) (wo1 y_ y2_)).length : Int)) (cnt_boI hxy_ hxy2_) _).mono fun e w1 ⟨he, hb⟩ => ⟨_, he, hb, rfl⟩)
     · refine gstep1 rfl rfl rfl rfl (fun u wr h => by cases h; rfl) (fun u0 wr hw h0 => ?_)
       cases h0
       with_reducible refine OpRun.row (x := (.tmp 9)) row_impl_Cells (B5.ext hw) ?_ ?_ ?_ ?_
       · rfl
       · rfl
       · kernel_rfl
       · exact ⟨Ext.refl _, rfl⟩
     · refine gstep2 rfl rfl rfl rfl rfl (fun u wr h => by cases h; rfl) (fun u0 u1 wr hw h0 h1 => ?_)
       cases h0
       cases h1
       exact OpRun.call 13 #[.agg #[.int .u64 (bo0 x_ x2_), .int .u64 (bo1 y_ y2_)]] (by kernel_rfl) ((iCount_is (bo0 x_ x2_) (bo1 y_ y2_) (bo_ok (s := (x_, y_)) hxy_.1 hwy_ hxy2_) (((listL (bo0 x_ x2_) (bo1 y_ y2_)).length : Int)) rfl _).mono fun e w1 ⟨he, hb⟩ => ⟨_, he, hb, rfl⟩)
     · refine gstep1 rfl rfl rfl rfl (fun u wr h => by cases h; rfl) (fun u0 wr hw h0 => ?_)
       cases h0
       with_reducible refine OpRun.row (x := (.tmp 10)) row_impl_Cells (B6.ext hw) ?_ ?_ ?_ ?_
       · rfl
       · rfl
       · kernel_rfl
       · exact ⟨Ext.refl _, rfl⟩
     · refine gstep2 rfl rfl rfl rfl rfl (fun u wr h => by cases h; rfl) (fun u0 u1 wr hw h0 h1 => ?_)
       cases h0
       cases h1
       exact OpRun.call 13 #[.agg #[.int .u64 (wo0 x_ x2_), .int .u64 (wo1 y_ y2_)]] (by kernel_rfl) ((iCount_is (wo0 x_ x2_) (wo1 y_ y2_) (wo_ok (s := (x_, y_)) hxy_ hxy2_) (((listL (wo0 x_ x2_) (wo1 y_ y2_)).length : Int)) rfl _).mono fun e w1 ⟨he, hb⟩ => ⟨_, he, hb, rfl⟩)
     · refine gstep3 rfl rfl rfl rfl rfl rfl (fun u wr h => by cases h; rfl) (fun u0 u1 u2 wr hw h0 h1 h2 => ?_)
       cases h0
       cases h1
       cases h2
       exact OpRun.val (.int .i64 (IntKind.i64.wrap (((listL (bo0 x_ x2_) (bo1 y_ y2_)).length : Int) + ((listL (wo0 x_ x2_) (wo1 y_ y2_)).length : Int)))) (.int .i64 (((listL (bo0 x_ x2_) (bo1 y_ y2_)).length : Int) + ((listL (wo0 x_ x2_) (wo1 y_ y2_)).length : Int))) (by kernel_rfl) (by exact congrArg _ (IntWalk.i64_in _ (by omega))) ⟨Ext.refl _, rfl⟩
     · refine gstep3 rfl rfl rfl rfl rfl rfl (fun u wr h => by cases h; rfl) (fun u0 u1 u2 wr hw h0 h1 h2 => ?_)
       cases h0
       cases h1
       cases h2
       exact OpRun.val (.bool ((((listL (bo0 x_ x2_) (bo1 y_ y2_)).length : Int) + ((listL (wo0 x_ x2_) (wo1 y_ y2_)).length : Int)) != (((listL (bo0 x_ x2_) (bo1 y_ y2_)).length : Int) + ((listL (wo0 x_ x2_) (wo1 y_ y2_)).length : Int)))) (.bool false) (by kernel_rfl) (by simp) ⟨Ext.refl _, rfl⟩
     · refine step2 rfl rfl rfl rfl rfl (fun u0 u1 wr hw h0 h1 => ?_)
       cases h0
       cases h1
       exact OpRun.val (.bool false) (.bool false) (by kernel_rfl) rfl ⟨Ext.refl _, rfl⟩
     · refine step1 rfl rfl rfl rfl (fun u0 wr hw h0 => ?_)
       cases h0
       exact OpRun.val (.bool false) (.bool false) (by kernel_rfl) rfl ⟨Ext.refl _, rfl⟩
     · refine gstep1 rfl rfl rfl rfl (fun u wr h => by cases h; rfl) (fun u0 wr hw h0 => ?_)
       cases h0
       with_reducible refine OpRun.row (x := (.tmp 8)) row_impl_Cells (B4.ext hw) ?_ ?_ ?_ ?_
       · rfl
       · rfl
       · kernel_rfl
       · exact ⟨Ext.refl _, rfl⟩
     · refine gstep2 rfl rfl rfl rfl rfl (fun u wr h => by cases h; rfl) (fun u0 u1 wr hw h0 h1 => ?_)
       cases h0
       cases h1
       exact OpRun.call 13 #[.agg #[.int .u64 (un0 x_ x2_), .int .u64 (un1 y_ y2_)]] (by kernel_rfl) ((iCount_is (un0 x_ x2_) (un1 y_ y2_) (un_ok (s := (x_, y_)) hxy_ hxy2_) (((listL (wo0 x_ x2_) (wo1 y_ y2_)).length : Int) + ((listL x2_ y2_).length : Int)) (cnt_unI hxy_ hxy2_) _).mono fun e w1 ⟨he, hb⟩ => ⟨_, he, hb, rfl⟩)
     · refine gstep1 rfl rfl rfl rfl (fun u wr h => by cases h; rfl) (fun u0 wr hw h0 => ?_)
       cases h0
       with_reducible refine OpRun.row (x := (.tmp 10)) row_impl_Cells (B6.ext hw) ?_ ?_ ?_ ?_
       · rfl
       · rfl
       · kernel_rfl
       · exact ⟨Ext.refl _, rfl⟩
     · refine gstep2 rfl rfl rfl rfl rfl (fun u wr h => by cases h; rfl) (fun u0 u1 wr hw h0 h1 => ?_)
       cases h0
       cases h1
       exact OpRun.call 13 #[.agg #[.int .u64 (wo0 x_ x2_), .int .u64 (wo1 y_ y2_)]] (by kernel_rfl) ((iCount_is (wo0 x_ x2_) (wo1 y_ y2_) (wo_ok (s := (x_, y_)) hxy_ hxy2_) (((listL (wo0 x_ x2_) (wo1 y_ y2_)).length : Int)) rfl _).mono fun e w1 ⟨he, hb⟩ => ⟨_, he, hb, rfl⟩)
     · refine gstep1 rfl rfl rfl rfl (fun u wr h => by cases h; rfl) (fun u0 wr hw h0 => ?_)
       cases h0
       with_reducible refine OpRun.row (x := (.tmp 7)) row_impl_Cells (B3.ext hw) ?_ ?_ ?_ ?_
       · rfl
       · rfl
       · kernel_rfl
       · exact ⟨Ext.refl _, rfl⟩
     · refine gstep2 rfl rfl rfl rfl rfl (fun u wr h => by cases h; rfl) (fun u0 u1 wr hw h0 h1 => ?_)
       cases h0
       cases h1
       exact OpRun.call 13 #[.agg #[.int .u64 x2_, .int .u64 y2_]] (by kernel_rfl) ((iCount_is x2_ y2_ hxy2_ (((listL x2_ y2_).length : Int)) rfl _).mono fun e w1 ⟨he, hb⟩ => ⟨_, he, hb, rfl⟩)
     · refine gstep3 rfl rfl rfl rfl rfl rfl (fun u wr h => by cases h; rfl) (fun u0 u1 u2 wr hw h0 h1 h2 => ?_)
       cases h0
       cases h1
       cases h2
       exact OpRun.val (.int .i64 (IntKind.i64.wrap (((listL (wo0 x_ x2_) (wo1 y_ y2_)).length : Int) + ((listL x2_ y2_).length : Int)))) (.int .i64 (((listL (wo0 x_ x2_) (wo1 y_ y2_)).length : Int) + ((listL x2_ y2_).length : Int))) (by kernel_rfl) (by exact congrArg _ (IntWalk.i64_in _ (by omega))) ⟨Ext.refl _, rfl⟩
     · refine gstep3 rfl rfl rfl rfl rfl rfl (fun u wr h => by cases h; rfl) (fun u0 u1 u2 wr hw h0 h1 h2 => ?_)
       cases h0
       cases h1
       cases h2
       exact OpRun.val (.bool ((((listL (wo0 x_ x2_) (wo1 y_ y2_)).length : Int) + ((listL x2_ y2_).length : Int)) != (((listL (wo0 x_ x2_) (wo1 y_ y2_)).length : Int) + ((listL x2_ y2_).length : Int)))) (.bool false) (by kernel_rfl) (by simp) ⟨Ext.refl _, rfl⟩
     · refine step2 rfl rfl rfl rfl rfl (fun u0 u1 wr hw h0 h1 => ?_)
       cases h0
       cases h1
       exact OpRun.val (.bool false) (.bool false) (by kernel_rfl) rfl ⟨Ext.refl _, rfl⟩
     refine end39 (fun u0 u1 u2 u3 u4 u5 u6 u7 u8 u9 u10 u11 u12 u13 u14 u15 u16 u17 u18 u19 u20 u21 u22 u23 u24 u25 u26 u27 u28 u29 u30 u31 u32 u33 u34 u35 u36 u37 u38 w21 E15 f0 f1 f2 f3 f4 f5 f6 f7 f8 f9 f10 f11 f12 f13 f14 f15 f16 f17 f18 f19 f20 f21 f22 f23 f24 f25 f26 f27 f28 f29 f30 f31 f32 f33 f34 f35 f36 f37 f38 => ?_)
     cases f0
     cases f1
     cases f2
     cases f3
     cases f4
     cases f5
     cases f6
     cases f7
     cases f8
     cases f9
     cases f10
     cases f11
     cases f12
     cases f13
     cases f14
     cases f15
     cases f16
     cases f17
     cases f18
     cases f19
     cases f20
     cases f21
     cases f22
     cases f23
     cases f24
     cases f25
     cases f26
     cases f27
     cases f28
     cases f29
     cases f30
     cases f31
     cases f32
     cases f33
     cases f34
     cases f35
     cases f36
     cases f37
     cases f38
     refine wbl 67 false (bnT (eq2_s (un0 x_ x2_) (un1 y_ y2_))) ?_
     refine wbl 73 false (bnT (eq2_s (bo0 x_ x2_) (bo1 y_ y2_))) ?_
     refine wbl 80 false (bnT (eq2_s (wo0 x_ x2_) (wo1 y_ y2_))) ?_
     refine wpList_nil (then_normal ?_)
     refine wp_frame (a' := ⟨#[v, v2, undef, undef, .bool false, .pointer (some ⟨g1, 0, none⟩), .pointer (some ⟨g2, 0, none⟩), .pointer (some ⟨g3, 0, none⟩), .pointer (some ⟨g4, 0, none⟩), .pointer (some ⟨g5, 0, none⟩), .pointer (some ⟨g6, 0, none⟩), undef, undef, undef, undef, undef, undef, undef, undef, undef, undef, undef, undef, undef, undef, undef, undef, undef, undef, undef, undef, undef, undef, undef, undef, undef, undef, undef, undef, undef, undef, undef, v, .bool (decide (4096 < (xs.length : Int))), .bool false, v2, .bool (decide (4096 < (ys.length : Int))), .bool (decide (4096 < (ys.length : Int))), v, .agg Fd.cells, v, .agg #[.int .u64 x_, .int .u64 y_], v2, .agg #[.int .u64 x2_, .int .u64 y2_], .agg #[.int .u64 x_, .int .u64 y_], .agg #[.int .u64 x2_, .int .u64 y2_], .agg #[.int .u64 (un0 x_ x2_), .int .u64 (un1 y_ y2_)], .agg #[.int .u64 x_, .int .u64 y_], .agg #[.int .u64 x2_, .int .u64 y2_], .agg #[.int .u64 (bo0 x_ x2_), .int .u64 (bo1 y_ y2_)], .agg #[.int .u64 x_, .int .u64 y_], .agg #[.int .u64 x2_, .int .u64 y2_], .agg #[.int .u64 (wo0 x_ x2_), .int .u64 (wo1 y_ y2_)], .agg #[.int .u64 (un0 x_ x2_), .int .u64 (un1 y_ y2_)], .agg #[.int .u64 x_, .int .u64 y_], .agg #[.int .u64 x2_, .int .u64 y2_], .agg #[.int .u64 (un0 x_ x2_), .int .u64 (un1 y_ y2_)], .bool false, .bool false, .agg #[.int .u64 (bo0 x_ x2_), .int .u64 (bo1 y_ y2_)], .agg #[.int .u64 x_, .int .u64 y_], .agg #[.int .u64 x2_, .int .u64 y2_], .agg #[.int .u64 (bo0 x_ x2_), .int .u64 (bo1 y_ y2_)], .bool false, .bool false, .bool false, .agg #[.int .u64 (wo0 x_ x2_), .int .u64 (wo1 y_ y2_)], .agg #[.int .u64 x_, .int .u64 y_], .agg #[.int .u64 x2_, .int .u64 y2_], .agg #[.int .u64 (wo0 x_ x2_), .int .u64 (wo1 y_ y2_)], .bool false, .bool false, .bool false, .agg #[.int .u64 x_, .int .u64 y_], .int .i64 (((listL (bo0 x_ x2_) (bo1 y_ y2_)).length : Int) + ((listL (wo0 x_ x2_) (wo1 y_ y2_)).length : Int)), .agg #[.int .u64 (bo0 x_ x2_), .int .u64 (bo1 y_ y2_)], .int .i64 ((listL (bo0 x_ x2_) (bo1 y_ y2_)).length : Int), .agg #[.int .u64 (wo0 x_ x2_), .int .u64 (wo1 y_ y2_)], .int .i64 ((listL (wo0 x_ x2_) (wo1 y_ y2_)).length : Int), .int .i64 (((listL (bo0 x_ x2_) (bo1 y_ y2_)).length : Int) + ((listL (wo0 x_ x2_) (wo1 y_ y2_)).length : Int)), .bool false, .bool false, .bool false, .agg #[.int .u64 (un0 x_ x2_), .int .u64 (un1 y_ y2_)], .int .i64 (((listL (wo0 x_ x2_) (wo1 y_ y2_)).length : Int) + ((listL x2_ y2_).length : Int)), .agg #[.int .u64 (wo0 x_ x2_), .int .u64 (wo1 y_ y2_)], .int .i64 ((listL (wo0 x_ x2_) (wo1 y_ y2_)).length : Int), .agg #[.int .u64 x2_, .int .u64 y2_], .int .i64 ((listL x2_ y2_).length : Int), .int .i64 (((listL (wo0 x_ x2_) (wo1 y_ y2_)).length : Int) + ((listL x2_ y2_).length : Int)), .bool false, .bool false, undef, undef, undef, undef, undef, undef, undef, undef, undef, undef, undef, undef, undef, undef, undef, undef, undef, undef, undef, undef, undef, undef, undef, undef, undef, undef, undef, undef, undef, undef, undef, undef, undef, undef, undef, undef, undef, undef, undef, undef, undef, undef, undef, undef, undef, undef, undef, undef, undef, undef, undef, undef, undef, undef, undef, undef, undef, undef, undef, undef, undef, undef, undef, undef, undef, undef, undef, undef, undef, undef, undef, undef, undef, undef, undef, undef, undef, undef, undef, undef, undef, undef, undef, undef, undef, undef, undef, undef, undef, undef, undef, undef, undef, undef, undef, undef, undef, undef, undef, undef, undef, undef, undef, undef, undef, undef, undef, undef, undef, undef, undef, undef, undef, undef, undef, undef, undef, undef, undef, undef, undef, undef, undef, undef, undef, undef, undef, undef, undef, undef, undef, undef, undef, undef, undef, undef, undef, undef, undef, undef, undef, undef, undef, undef, undef, undef, undef, undef, undef, undef, undef, undef, undef, undef, undef, undef, undef, undef, undef, undef, undef, undef, undef, undef, undef, undef, undef, undef, undef, undef, undef, undef, undef, undef, undef, undef, undef, undef, undef, undef, undef, undef, undef, undef, undef, undef, undef, undef, undef, undef, undef, undef, undef, undef, undef, undef, undef, undef, undef, undef, undef, undef, undef, undef, undef, undef, undef, undef, undef, undef, undef, undef, undef, undef, undef, undef, undef, undef, undef, undef, undef, undef, undef, undef, undef, undef, undef, undef, undef, undef, undef, undef, undef, undef, undef, undef, undef, undef, undef, undef, undef, undef, undef, undef, undef, undef, undef, undef, undef, undef, undef, undef], []⟩) (by kernel_rfl) ?_
     refine wcf ?_
     refine wp_skip ?_
     refine then_normal ?_
     refine wsr ?_
     replace B2 := B2.ext E15
     refine wrow row_impl_Cells B2 (by rfl) ?_
     replace B1 := (X6.blk (B1.ext E14) q_g1_g6).ext E15
     replace B3 := B3.ext E15
     replace B4 := B4.ext E15
     replace B5 := B5.ext E15
     replace B6 := B6.ext E15
     have H11 := (X6.ext w lo_g6 (H10.trans E14)).trans E15
     refine wcli (iListOf_any x_ y_ _) ?_
     intro g7 cap1 cs1 w22 B7 S1 E16 hg_
     have q_g1_g7 := Nat.ne_of_lt (Nat.lt_of_lt_of_le B1.lt hg_)
     have q_g2_g7 := Nat.ne_of_lt (Nat.lt_of_lt_of_le B2.lt hg_)
     have q_g3_g7 := Nat.ne_of_lt (Nat.lt_of_lt_of_le B3.lt hg_)
     have q_g4_g7 := Nat.ne_of_lt (Nat.lt_of_lt_of_le B4.lt hg_)
     have q_g5_g7 := Nat.ne_of_lt (Nat.lt_of_lt_of_le B5.lt hg_)
     have q_g6_g7 := Nat.ne_of_lt (Nat.lt_of_lt_of_le B6.lt hg_)
     have lo_g7 := Nat.le_trans (H11).size hg_
     have ll9 := listL_length x_ y_
     refine wv (.slice (some ⟨g7, 0, none⟩) ((listL x_ y_).length) cap1) ?_
     refine wpList_nil (then_normal ?_)
     refine wsr ?_
     refine wv (.slice (some ⟨g7, 0, none⟩) ((listL x_ y_).length) cap1) ?_
     refine wcl (iCellsOf_is x_ y_ hxy_ g7 cap1 cs1 S1 _ B7) ?_
     intro w23 E17
     refine wv (.tuple #[.agg #[.int .u64 x_, .int .u64 y_], .int .i64 0]) ?_
     refine wv (.agg #[.int .u64 x_, .int .u64 y_]) ?_
     refine wv (.int .i64 0) ?_
     have H12 := (H11.trans E16).trans E17
     replace B1 := (B1.ext E16).ext E17
     replace B2 := (B2.ext E16).ext E17
     replace B3 := (B3.ext E16).ext E17
     replace B4 := (B4.ext E16).ext E17
     replace B5 := (B5.ext E16).ext E17
     replace B6 := (B6.ext E16).ext E17
     replace B7 := B7.ext E17
     refine wnew #[.int .u64 0, .int .u64 0] Try.zeroValue33 rfl ?_
     intro g8 w24 B8 E18 hg_
     have q_g1_g8 := Nat.ne_of_lt (Nat.lt_of_lt_of_le B1.lt hg_)
     have q_g2_g8 := Nat.ne_of_lt (Nat.lt_of_lt_of_le B2.lt hg_)
     have q_g3_g8 := Nat.ne_of_lt (Nat.lt_of_lt_of_le B3.lt hg_)
     have q_g4_g8 := Nat.ne_of_lt (Nat.lt_of_lt_of_le B4.lt hg_)
     have q_g5_g8 := Nat.ne_of_lt (Nat.lt_of_lt_of_le B5.lt hg_)
     have q_g6_g8 := Nat.ne_of_lt (Nat.lt_of_lt_of_le B6.lt hg_)
     have q_g7_g8 := Nat.ne_of_lt (Nat.lt_of_lt_of_le B7.lt hg_)
     have lo_g8 := Nat.le_trans (H12).size hg_
     refine wput #[.int .u64 x_, .int .u64 y_] row_impl_Cells B8 (by rfl) (by rfl) (by kernel_rfl) ?_
     intro w25 B8_ X7
     clear B8; have B8 := B8_; clear B8_
     refine wv (.int .i64 0) ?_
     refine wpList_nil (then_normal ?_)
     refine wp_seq ?_
     refine wsr ?_
     refine wv (.int .i64 0) ?_
     refine wvv (.bool (0 != 0)) (.bool false) (by simp) ?_
     refine wv (.bool false) ?_
     refine wrow row_impl_Cells B8 (by rfl) ?_
     replace B2 := X7.blk (B2.ext E18) q_g2_g8
     refine wrow row_impl_Cells B2 (by rfl) ?_
     refine wneA duot_impl_Cells.eg (equalIn_duo duot_impl_Cells 9998 x_ y_ x_ y_) ?_
     refine wbl 114 false (bnT (eq2_s x_ y_)) ?_
     refine wv (.bool false) ?_
     refine wv (.bool false) ?_
     refine wv (.slice (some ⟨g7, 0, none⟩) ((listL x_ y_).length) cap1) ?_
     refine wv (.int .i64 ((listL x_ y_).length : Int)) ?_
     refine wrow row_impl_Cells B2 (by rfl) ?_
     refine wcl (sCountCells_any x_ y_ _) ?_
     intro w26 E19
     refine wvv (.bool (((listL x_ y_).length : Int) != ((listL x_ y_).length : Int))) (.bool false) (by simp) ?_
     refine wv (.bool false) ?_
     refine wpList_nil (then_normal ?_)
     refine wcf ?_
     refine wp_skip ?_
     refine then_normal ?_
     refine wsr ?_
     refine wv v2 ?_
     replace B1 := (X7.blk (B1.ext E18) q_g1_g8).ext E19
     refine wrow row_impl_Field B1 (by exact Fld.size_cells _) ?_
     have H13 := (X7.ext w lo_g8 (H12.trans E18)).trans E19
     refine wcel (P6Cell_any ys v2 (by omega) hyb Fd hF_ hd_.ok _ (SlIn.ext hin2 H13)) ?_
     intro c_ w27 hc_ E20
     have hcr_ := isB_true.1 hc_
     refine wv (.int .i64 c_) ?_
     refine wpList_nil (then_normal ?_)
     refine wsr ?_
     refine wv v ?_
     have H14 := H13.trans E20
     refine wnum (P6Pick_r xs v 20 (by omega) (by omega) hxb _ (SlIn.ext hin H14)) ?_
     intro p1 w28 hp1 E21
     refine wv (.int .i64 p1) ?_
     refine wpList_nil (then_normal ?_)
     refine wp_frame (a' := ⟨#[v, v2, undef, undef, .bool false, .pointer (some ⟨g1, 0, none⟩), .pointer (some ⟨g2, 0, none⟩), .pointer (some ⟨g3, 0, none⟩), .pointer (some ⟨g4, 0, none⟩), .pointer (some ⟨g5, 0, none⟩), .pointer (some ⟨g6, 0, none⟩), .slice (some ⟨g7, 0, none⟩) ((listL x_ y_).length) cap1, .pointer (some ⟨g8, 0, none⟩), .int .i64 0, .int .i64 c_, .int .i64 p1, undef, undef, undef, undef, undef, undef, undef, undef, undef, undef, undef, undef, undef, undef, undef, undef, undef, undef, undef, undef, undef, undef, undef, undef, undef, undef, v, .bool (decide (4096 < (xs.length : Int))), .bool false, v2, .bool (decide (4096 < (ys.length : Int))), .bool (decide (4096 < (ys.length : Int))), v, .agg Fd.cells, v, .agg #[.int .u64 x_, .int .u64 y_], v2, .agg #[.int .u64 x2_, .int .u64 y2_], .agg #[.int .u64 x_, .int .u64 y_], .agg #[.int .u64 x2_, .int .u64 y2_], .agg #[.int .u64 (un0 x_ x2_), .int .u64 (un1 y_ y2_)], .agg #[.int .u64 x_, .int .u64 y_], .agg #[.int .u64 x2_, .int .u64 y2_], .agg #[.int .u64 (bo0 x_ x2_), .int .u64 (bo1 y_ y2_)], .agg #[.int .u64 x_, .int .u64 y_], .agg #[.int .u64 x2_, .int .u64 y2_], .agg #[.int .u64 (wo0 x_ x2_), .int .u64 (wo1 y_ y2_)], .agg #[.int .u64 (un0 x_ x2_), .int .u64 (un1 y_ y2_)], .agg #[.int .u64 x_, .int .u64 y_], .agg #[.int .u64 x2_, .int .u64 y2_], .agg #[.int .u64 (un0 x_ x2_), .int .u64 (un1 y_ y2_)], .bool false, .bool false, .agg #[.int .u64 (bo0 x_ x2_), .int .u64 (bo1 y_ y2_)], .agg #[.int .u64 x_, .int .u64 y_], .agg #[.int .u64 x2_, .int .u64 y2_], .agg #[.int .u64 (bo0 x_ x2_), .int .u64 (bo1 y_ y2_)], .bool false, .bool false, .bool false, .agg #[.int .u64 (wo0 x_ x2_), .int .u64 (wo1 y_ y2_)], .agg #[.int .u64 x_, .int .u64 y_], .agg #[.int .u64 x2_, .int .u64 y2_], .agg #[.int .u64 (wo0 x_ x2_), .int .u64 (wo1 y_ y2_)], .bool false, .bool false, .bool false, .agg #[.int .u64 x_, .int .u64 y_], .int .i64 (((listL (bo0 x_ x2_) (bo1 y_ y2_)).length : Int) + ((listL (wo0 x_ x2_) (wo1 y_ y2_)).length : Int)), .agg #[.int .u64 (bo0 x_ x2_), .int .u64 (bo1 y_ y2_)], .int .i64 ((listL (bo0 x_ x2_) (bo1 y_ y2_)).length : Int), .agg #[.int .u64 (wo0 x_ x2_), .int .u64 (wo1 y_ y2_)], .int .i64 ((listL (wo0 x_ x2_) (wo1 y_ y2_)).length : Int), .int .i64 (((listL (bo0 x_ x2_) (bo1 y_ y2_)).length : Int) + ((listL (wo0 x_ x2_) (wo1 y_ y2_)).length : Int)), .bool false, .bool false, .bool false, .agg #[.int .u64 (un0 x_ x2_), .int .u64 (un1 y_ y2_)], .int .i64 (((listL (wo0 x_ x2_) (wo1 y_ y2_)).length : Int) + ((listL x2_ y2_).length : Int)), .agg #[.int .u64 (wo0 x_ x2_), .int .u64 (wo1 y_ y2_)], .int .i64 ((listL (wo0 x_ x2_) (wo1 y_ y2_)).length : Int), .agg #[.int .u64 x2_, .int .u64 y2_], .int .i64 ((listL x2_ y2_).length : Int), .int .i64 (((listL (wo0 x_ x2_) (wo1 y_ y2_)).length : Int) + ((listL x2_ y2_).length : Int)), .bool false, .bool false, .agg #[.int .u64 x_, .int .u64 y_], .slice (some ⟨g7, 0, none⟩) ((listL x_ y_).length) cap1, .tuple #[.agg #[.int .u64 x_, .int .u64 y_], .int .i64 0], .slice (some ⟨g7, 0, none⟩) ((listL x_ y_).length) cap1, .tuple #[.agg #[.int .u64 x_, .int .u64 y_], .int .i64 0], .agg #[.int .u64 x_, .int .u64 y_], .int .i64 0, .int .i64 0, .bool false, .bool false, .agg #[.int .u64 x_, .int .u64 y_], .agg #[.int .u64 x_, .int .u64 y_], .bool false, .bool false, .bool false, .slice (some ⟨g7, 0, none⟩) ((listL x_ y_).length) cap1, .int .i64 ((listL x_ y_).length : Int), .agg #[.int .u64 x_, .int .u64 y_], .int .i64 ((listL x_ y_).length : Int), .bool false, .bool false, v2, .agg Fd.cells, .int .i64 c_, v, .int .i64 p1, undef, undef, undef, undef, undef, undef, undef, undef, undef, undef, undef, undef, undef, undef, undef, undef, undef, undef, undef, undef, undef, undef, undef, undef, undef, undef, undef, undef, undef, undef, undef, undef, undef, undef, undef, undef, undef, undef, undef, undef, undef, undef, undef, undef, undef, undef, undef, undef, undef, undef, undef, undef, undef, undef, undef, undef, undef, undef, undef, undef, undef, undef, undef, undef, undef, undef, undef, undef, undef, undef, undef, undef, undef, undef, undef, undef, undef, undef, undef, undef, undef, undef, undef, undef, undef, undef, undef, undef, undef, undef, undef, undef, undef, undef, undef, undef, undef, undef, undef, undef, undef, undef, undef, undef, undef, undef, undef, undef, undef, undef, undef, undef, undef, undef, undef, undef, undef, undef, undef, undef, undef, undef, undef, undef, undef, undef, undef, undef, undef, undef, undef, undef, undef, undef, undef, undef, undef, undef, undef, undef, undef, undef, undef, undef, undef, undef, undef, undef, undef, undef, undef, undef, undef, undef, undef, undef, undef, undef, undef, undef, undef, undef, undef, undef, undef, undef, undef, undef, undef, undef, undef, undef, undef, undef, undef, undef, undef, undef, undef, undef, undef, undef, undef, undef, undef, undef, undef, undef, undef, undef, undef, undef, undef, undef, undef, undef, undef, undef, undef, undef, undef, undef, undef, undef, undef, undef, undef, undef, undef, undef, undef, undef, undef, undef, undef, undef, undef, undef, undef, undef, undef, undef, undef, undef, undef, undef], []⟩) (by kernel_rfl) ?_
     have nor_ := near2_or (x := x_) (y := y_) hd_.ok hc_
     refine wsr ?_
     replace B1 := (B1.ext E20).ext E21
     refine wrow row_impl_Field B1 (by exact Fld.size_cells _) ?_
     refine wv (.int .i64 c_) ?_
     replace B2 := ((B2.ext E19).ext E20).ext E21
     refine wrow row_impl_Cells B2 (by rfl) ?_
     refine wcl (iNearestIn_any Fd hF_ c_ x_ y_ _) ?_
     intro w29 E22
     refine wv (.tuple #[.int .i64 (near0 Fd c_ x_ y_), .int .i64 (near1 Fd c_ x_ y_), .int .i64 (near2 Fd c_ x_ y_)]) ?_
     refine wv (.int .i64 (near0 Fd c_ x_ y_)) ?_
     refine wv (.int .i64 (near1 Fd c_ x_ y_)) ?_
     refine wv (.int .i64 (near2 Fd c_ x_ y_)) ?_
     refine wv (.int .i64 (near0 Fd c_ x_ y_)) ?_
     refine wv (.int .i64 (near1 Fd c_ x_ y_)) ?_
     refine wv (.int .i64 (near2 Fd c_ x_ y_)) ?_
     refine wpList_nil (then_normal ?_)
     refine wsr ?_
     replace B1 := B1.ext E22
     refine wrow row_impl_Field B1 (by exact Fld.size_cells _) ?_
     refine wv (.int .i64 c_) ?_
     replace B2 := B2.ext E22
     refine wrow row_impl_Cells B2 (by rfl) ?_
     refine wcl (sNearestIn_any Fd hF_ c_ x_ y_ _) ?_
     intro w30 E23
     refine wv (.tuple #[.int .i64 (near0 Fd c_ x_ y_), .int .i64 (near1 Fd c_ x_ y_), .int .i64 (near2 Fd c_ x_ y_)]) ?_
     refine wv (.int .i64 (near0 Fd c_ x_ y_)) ?_
     refine wv (.int .i64 (near1 Fd c_ x_ y_)) ?_
     refine wv (.int .i64 (near2 Fd c_ x_ y_)) ?_
     refine wv (.int .i64 (near0 Fd c_ x_ y_)) ?_
     refine wv (.int .i64 (near1 Fd c_ x_ y_)) ?_
     refine wv (.int .i64 (near2 Fd c_ x_ y_)) ?_
     refine wpList_nil (then_normal ?_)
     refine wsr ?_
     replace B1 := B1.ext E23
     refine wrow row_impl_Field B1 (by exact Fld.size_cells _) ?_
     replace B2 := B2.ext E23
     refine wrow row_impl_Cells B2 (by rfl) ?_
     refine wcl (iRich_is Fd hF_ hd_.ok c_ hc_ x_ y_ _) ?_
     intro w31 E24
     refine wv (.tuple #[.int .i64 (rich0 Fd x_ y_), .int .i64 (rich1 Fd x_ y_), .int .i64 (near2 Fd c_ x_ y_)]) ?_
     refine wv (.int .i64 (rich0 Fd x_ y_)) ?_
     refine wv (.int .i64 (rich1 Fd x_ y_)) ?_
     refine wv (.int .i64 (near2 Fd c_ x_ y_)) ?_
     refine wv (.int .i64 (rich0 Fd x_ y_)) ?_
     refine wv (.int .i64 (rich1 Fd x_ y_)) ?_
     refine wv (.int .i64 (near2 Fd c_ x_ y_)) ?_
     refine wpList_nil (then_normal ?_)
     refine wp_frame (a' := ⟨#[v, v2, undef, undef, .bool false, .pointer (some ⟨g1, 0, none⟩), .pointer (some ⟨g2, 0, none⟩), .pointer (some ⟨g3, 0, none⟩), .pointer (some ⟨g4, 0, none⟩), .pointer (some ⟨g5, 0, none⟩), .pointer (some ⟨g6, 0, none⟩), .slice (some ⟨g7, 0, none⟩) ((listL x_ y_).length) cap1, .pointer (some ⟨g8, 0, none⟩), .int .i64 0, .int .i64 c_, .int .i64 p1, .int .i64 (near0 Fd c_ x_ y_), .int .i64 (near1 Fd c_ x_ y_), .int .i64 (near2 Fd c_ x_ y_), .int .i64 (near0 Fd c_ x_ y_), .int .i64 (near1 Fd c_ x_ y_), .int .i64 (near2 Fd c_ x_ y_), .int .i64 (rich0 Fd x_ y_), .int .i64 (rich1 Fd x_ y_), .int .i64 (near2 Fd c_ x_ y_), undef, undef, undef, undef, undef, undef, undef, undef, undef, undef, undef, undef, undef, undef, undef, undef, undef, v, .bool (decide (4096 < (xs.length : Int))), .bool false, v2, .bool (decide (4096 < (ys.length : Int))), .bool (decide (4096 < (ys.length : Int))), v, .agg Fd.cells, v, .agg #[.int .u64 x_, .int .u64 y_], v2, .agg #[.int .u64 x2_, .int .u64 y2_], .agg #[.int .u64 x_, .int .u64 y_], .agg #[.int .u64 x2_, .int .u64 y2_], .agg #[.int .u64 (un0 x_ x2_), .int .u64 (un1 y_ y2_)], .agg #[.int .u64 x_, .int .u64 y_], .agg #[.int .u64 x2_, .int .u64 y2_], .agg #[.int .u64 (bo0 x_ x2_), .int .u64 (bo1 y_ y2_)], .agg #[.int .u64 x_, .int .u64 y_], .agg #[.int .u64 x2_, .int .u64 y2_], .agg #[.int .u64 (wo0 x_ x2_), .int .u64 (wo1 y_ y2_)], .agg #[.int .u64 (un0 x_ x2_), .int .u64 (un1 y_ y2_)], .agg #[.int .u64 x_, .int .u64 y_], .agg #[.int .u64 x2_, .int .u64 y2_], .agg #[.int .u64 (un0 x_ x2_), .int .u64 (un1 y_ y2_)], .bool false, .bool false, .agg #[.int .u64 (bo0 x_ x2_), .int .u64 (bo1 y_ y2_)], .agg #[.int .u64 x_, .int .u64 y_], .agg #[.int .u64 x2_, .int .u64 y2_], .agg #[.int .u64 (bo0 x_ x2_), .int .u64 (bo1 y_ y2_)], .bool false, .bool false, .bool false, .agg #[.int .u64 (wo0 x_ x2_), .int .u64 (wo1 y_ y2_)], .agg #[.int .u64 x_, .int .u64 y_], .agg #[.int .u64 x2_, .int .u64 y2_], .agg #[.int .u64 (wo0 x_ x2_), .int .u64 (wo1 y_ y2_)], .bool false, .bool false, .bool false, .agg #[.int .u64 x_, .int .u64 y_], .int .i64 (((listL (bo0 x_ x2_) (bo1 y_ y2_)).length : Int) + ((listL (wo0 x_ x2_) (wo1 y_ y2_)).length : Int)), .agg #[.int .u64 (bo0 x_ x2_), .int .u64 (bo1 y_ y2_)], .int .i64 ((listL (bo0 x_ x2_) (bo1 y_ y2_)).length : Int), .agg #[.int .u64 (wo0 x_ x2_), .int .u64 (wo1 y_ y2_)], .int .i64 ((listL (wo0 x_ x2_) (wo1 y_ y2_)).length : Int), .int .i64 (((listL (bo0 x_ x2_) (bo1 y_ y2_)).length : Int) + ((listL (wo0 x_ x2_) (wo1 y_ y2_)).length : Int)), .bool false, .bool false, .bool false, .agg #[.int .u64 (un0 x_ x2_), .int .u64 (un1 y_ y2_)], .int .i64 (((listL (wo0 x_ x2_) (wo1 y_ y2_)).length : Int) + ((listL x2_ y2_).length : Int)), .agg #[.int .u64 (wo0 x_ x2_), .int .u64 (wo1 y_ y2_)], .int .i64 ((listL (wo0 x_ x2_) (wo1 y_ y2_)).length : Int), .agg #[.int .u64 x2_, .int .u64 y2_], .int .i64 ((listL x2_ y2_).length : Int), .int .i64 (((listL (wo0 x_ x2_) (wo1 y_ y2_)).length : Int) + ((listL x2_ y2_).length : Int)), .bool false, .bool false, .agg #[.int .u64 x_, .int .u64 y_], .slice (some ⟨g7, 0, none⟩) ((listL x_ y_).length) cap1, .tuple #[.agg #[.int .u64 x_, .int .u64 y_], .int .i64 0], .slice (some ⟨g7, 0, none⟩) ((listL x_ y_).length) cap1, .tuple #[.agg #[.int .u64 x_, .int .u64 y_], .int .i64 0], .agg #[.int .u64 x_, .int .u64 y_], .int .i64 0, .int .i64 0, .bool false, .bool false, .agg #[.int .u64 x_, .int .u64 y_], .agg #[.int .u64 x_, .int .u64 y_], .bool false, .bool false, .bool false, .slice (some ⟨g7, 0, none⟩) ((listL x_ y_).length) cap1, .int .i64 ((listL x_ y_).length : Int), .agg #[.int .u64 x_, .int .u64 y_], .int .i64 ((listL x_ y_).length : Int), .bool false, .bool false, v2, .agg Fd.cells, .int .i64 c_, v, .int .i64 p1, .tuple #[.int .i64 (near0 Fd c_ x_ y_), .int .i64 (near1 Fd c_ x_ y_), .int .i64 (near2 Fd c_ x_ y_)], .agg Fd.cells, .int .i64 c_, .agg #[.int .u64 x_, .int .u64 y_], .tuple #[.int .i64 (near0 Fd c_ x_ y_), .int .i64 (near1 Fd c_ x_ y_), .int .i64 (near2 Fd c_ x_ y_)], .int .i64 (near0 Fd c_ x_ y_), .int .i64 (near1 Fd c_ x_ y_), .int .i64 (near2 Fd c_ x_ y_), .tuple #[.int .i64 (near0 Fd c_ x_ y_), .int .i64 (near1 Fd c_ x_ y_), .int .i64 (near2 Fd c_ x_ y_)], .agg Fd.cells, .int .i64 c_, .agg #[.int .u64 x_, .int .u64 y_], .tuple #[.int .i64 (near0 Fd c_ x_ y_), .int .i64 (near1 Fd c_ x_ y_), .int .i64 (near2 Fd c_ x_ y_)], .int .i64 (near0 Fd c_ x_ y_), .int .i64 (near1 Fd c_ x_ y_), .int .i64 (near2 Fd c_ x_ y_), .tuple #[.int .i64 (rich0 Fd x_ y_), .int .i64 (rich1 Fd x_ y_), .int .i64 (near2 Fd c_ x_ y_)], .agg Fd.cells, .agg #[.int .u64 x_, .int .u64 y_], .tuple #[.int .i64 (rich0 Fd x_ y_), .int .i64 (rich1 Fd x_ y_), .int .i64 (near2 Fd c_ x_ y_)], .int .i64 (rich0 Fd x_ y_), .int .i64 (rich1 Fd x_ y_), .int .i64 (near2 Fd c_ x_ y_), undef, undef, undef, undef, undef, undef, undef, undef, undef, undef, undef, undef, undef, undef, undef, undef, undef, undef, undef, undef, undef, undef, undef, undef, undef, undef, undef, undef, undef, undef, undef, undef, undef, undef, undef, undef, undef, undef, undef, undef, undef, undef, undef, undef, undef, undef, undef, undef, undef, undef, undef, undef, undef, undef, undef, undef, undef, undef, undef, undef, undef, undef, undef, undef, undef, undef, undef, undef, undef, undef, undef, undef, undef, undef, undef, undef, undef, undef, undef, undef, undef, undef, undef, undef, undef, undef, undef, undef, undef, undef, undef, undef, undef, undef, undef, undef, undef, undef, undef, undef, undef, undef, undef, undef, undef, undef, undef, undef, undef, undef, undef, undef, undef, undef, undef, undef, undef, undef, undef, undef, undef, undef, undef, undef, undef, undef, undef, undef, undef, undef, undef, undef, undef, undef, undef, undef, undef, undef, undef, undef, undef, undef, undef, undef, undef, undef, undef, undef, undef, undef, undef, undef, undef, undef, undef, undef, undef, undef, undef, undef, undef, undef, undef, undef, undef, undef, undef, undef, undef, undef, undef, undef, undef, undef, undef, undef, undef, undef, undef, undef, undef, undef, undef, undef, undef, undef, undef, undef, undef, undef, undef, undef, undef, undef, undef, undef, undef, undef, undef, undef, undef, undef, undef], []⟩) (by kernel_rfl) ?_
     refine wsr ?_
     replace B1 := B1.ext E24
     refine wrow row_impl_Field B1 (by exact Fld.size_cells _) ?_
     replace B2 := B2.ext E24
     refine wrow row_impl_Cells B2 (by rfl) ?_
     refine wcl (sRich_is Fd hF_ hd_.ok c_ hc_ x_ y_ _) ?_
     intro w32 E25
     refine wv (.tuple #[.int .i64 (rich0 Fd x_ y_), .int .i64 (rich1 Fd x_ y_), .int .i64 (near2 Fd c_ x_ y_)]) ?_
     refine wv (.int .i64 (rich0 Fd x_ y_)) ?_
     refine wv (.int .i64 (rich1 Fd x_ y_)) ?_
     refine wv (.int .i64 (near2 Fd c_ x_ y_)) ?_
     refine wv (.int .i64 (rich0 Fd x_ y_)) ?_
     refine wv (.int .i64 (rich1 Fd x_ y_)) ?_
     refine wv (.int .i64 (near2 Fd c_ x_ y_)) ?_
     refine wpList_nil (then_normal ?_)
     refine wsr ?_
     replace B1 := B1.ext E25
     refine wrow row_impl_Field B1 (by exact Fld.size_cells _) ?_
     refine wv (.int .i64 c_) ?_
     refine wv (.int .i64 p1) ?_
     refine wcl (iRing_is Fd hF_ hd_.ok c_ hc_ p1 (by omega) _) ?_
     intro w33 E26
     refine wv (.tuple #[.agg #[.int .u64 ((ringS Fd c_ p1).1), .int .u64 ((ringS Fd c_ p1).2)], .int .i64 0]) ?_
     refine wv (.agg #[.int .u64 ((ringS Fd c_ p1).1), .int .u64 ((ringS Fd c_ p1).2)]) ?_
     refine wv (.int .i64 0) ?_
     have H15 := (((((H14.trans E21).trans E22).trans E23).trans E24).trans E25).trans E26
     replace B1 := B1.ext E26
     replace B2 := (B2.ext E25).ext E26
     replace B3 := ((((((((X7.blk (B3.ext E18) q_g3_g8).ext E19).ext E20).ext E21).ext E22).ext E23).ext E24).ext E25).ext E26
     replace B4 := ((((((((X7.blk (B4.ext E18) q_g4_g8).ext E19).ext E20).ext E21).ext E22).ext E23).ext E24).ext E25).ext E26
     replace B5 := ((((((((X7.blk (B5.ext E18) q_g5_g8).ext E19).ext E20).ext E21).ext E22).ext E23).ext E24).ext E25).ext E26
     replace B6 := ((((((((X7.blk (B6.ext E18) q_g6_g8).ext E19).ext E20).ext E21).ext E22).ext E23).ext E24).ext E25).ext E26
     replace B7 := ((((((((X7.blk (B7.ext E18) q_g7_g8).ext E19).ext E20).ext E21).ext E22).ext E23).ext E24).ext E25).ext E26
     replace B8 := (((((((B8.ext E19).ext E20).ext E21).ext E22).ext E23).ext E24).ext E25).ext E26
     refine wnew #[.int .u64 0, .int .u64 0] Try.zeroValue33 rfl ?_
     intro g9 w34 B9 E27 hg_
     have q_g1_g9 := Nat.ne_of_lt (Nat.lt_of_lt_of_le B1.lt hg_)
     have q_g2_g9 := Nat.ne_of_lt (Nat.lt_of_lt_of_le B2.lt hg_)
     have q_g3_g9 := Nat.ne_of_lt (Nat.lt_of_lt_of_le B3.lt hg_)
     have q_g4_g9 := Nat.ne_of_lt (Nat.lt_of_lt_of_le B4.lt hg_)
     have q_g5_g9 := Nat.ne_of_lt (Nat.lt_of_lt_of_le B5.lt hg_)
     have q_g6_g9 := Nat.ne_of_lt (Nat.lt_of_lt_of_le B6.lt hg_)
     have q_g7_g9 := Nat.ne_of_lt (Nat.lt_of_lt_of_le B7.lt hg_)
     have q_g8_g9 := Nat.ne_of_lt (Nat.lt_of_lt_of_le B8.lt hg_)
     have lo_g9 := Nat.le_trans (H15).size hg_
     refine wput #[.int .u64 ((ringS Fd c_ p1).1), .int .u64 ((ringS Fd c_ p1).2)] row_impl_Cells B9 (by rfl) (by rfl) (by kernel_rfl) ?_
     intro w35 B9_ X8
     clear B9; have B9 := B9_; clear B9_
     refine wv (.int .i64 0) ?_
     refine wpList_nil (then_normal ?_)
     refine wsr ?_
     replace B1 := X8.blk (B1.ext E27) q_g1_g9
     refine wrow row_impl_Field B1 (by exact Fld.size_cells _) ?_
     refine wv (.int .i64 c_) ?_
     refine wv (.int .i64 p1) ?_
     refine wcl (sRing_is Fd hF_ hd_.ok c_ hc_ p1 (by omega) _) ?_
     intro w36 E28
     refine wv (.tuple #[.agg #[.int .u64 ((ringS Fd c_ p1).1), .int .u64 ((ringS Fd c_ p1).2)], .int .i64 0]) ?_
     refine wv (.agg #[.int .u64 ((ringS Fd c_ p1).1), .int .u64 ((ringS Fd c_ p1).2)]) ?_
     refine wv (.int .i64 0) ?_
     have H16 := (X8.ext w lo_g9 (H15.trans E27)).trans E28
     replace B1 := B1.ext E28
     replace B2 := (X8.blk (B2.ext E27) q_g2_g9).ext E28
     replace B3 := (X8.blk (B3.ext E27) q_g3_g9).ext E28
     replace B4 := (X8.blk (B4.ext E27) q_g4_g9).ext E28
     replace B5 := (X8.blk (B5.ext E27) q_g5_g9).ext E28
     replace B6 := (X8.blk (B6.ext E27) q_g6_g9).ext E28
     replace B7 := (X8.blk (B7.ext E27) q_g7_g9).ext E28
     replace B8 := (X8.blk (B8.ext E27) q_g8_g9).ext E28
     replace B9 := B9.ext E28
     refine wnew #[.int .u64 0, .int .u64 0] Try.zeroValue33 rfl ?_
     intro g10 w37 B10 E29 hg_
     have q_g1_g10 := Nat.ne_of_lt (Nat.lt_of_lt_of_le B1.lt hg_)
     have q_g2_g10 := Nat.ne_of_lt (Nat.lt_of_lt_of_le B2.lt hg_)
     have q_g3_g10 := Nat.ne_of_lt (Nat.lt_of_lt_of_le B3.lt hg_)
     have q_g4_g10 := Nat.ne_of_lt (Nat.lt_of_lt_of_le B4.lt hg_)
     have q_g5_g10 := Nat.ne_of_lt (Nat.lt_of_lt_of_le B5.lt hg_)
     have q_g6_g10 := Nat.ne_of_lt (Nat.lt_of_lt_of_le B6.lt hg_)
     have q_g7_g10 := Nat.ne_of_lt (Nat.lt_of_lt_of_le B7.lt hg_)
     have q_g8_g10 := Nat.ne_of_lt (Nat.lt_of_lt_of_le B8.lt hg_)
     have q_g9_g10 := Nat.ne_of_lt (Nat.lt_of_lt_of_le B9.lt hg_)
     have lo_g10 := Nat.le_trans (H16).size hg_
     refine wput #[.int .u64 ((ringS Fd c_ p1).1), .int .u64 ((ringS Fd c_ p1).2)] row_impl_Cells B10 (by rfl) (by rfl) (by kernel_rfl) ?_
     intro w38 B10_ X9
     clear B10; have B10 := B10_; clear B10_
     refine wv (.int .i64 0) ?_
     refine wpList_nil (then_normal ?_)
     refine wsr ?_
     replace B1 := X9.blk (B1.ext E29) q_g1_g10
     refine wrow row_impl_Field B1 (by exact Fld.size_cells _) ?_
     refine wv (.int .i64 c_) ?_
     replace B2 := X9.blk (B2.ext E29) q_g2_g10
     replace B3 := X9.blk (B3.ext E29) q_g3_g10
     replace B4 := X9.blk (B4.ext E29) q_g4_g10
     replace B5 := X9.blk (B5.ext E29) q_g5_g10
     replace B6 := X9.blk (B6.ext E29) q_g6_g10
     replace B7 := X9.blk (B7.ext E29) q_g7_g10
     replace B8 := X9.blk (B8.ext E29) q_g8_g10
     replace B9 := X9.blk (B9.ext E29) q_g9_g10
     have H17 := X9.ext w lo_g10 (H16.trans E29)
     refine wcli (iNeighboursOf_t Fd hF_ c_ _ (code_0 hd_.ok hc_)) ?_
     intro g11 cap2 cs2 w39 B11 S2 E30 hg_
     have q_g1_g11 := Nat.ne_of_lt (Nat.lt_of_lt_of_le B1.lt hg_)
     have q_g2_g11 := Nat.ne_of_lt (Nat.lt_of_lt_of_le B2.lt hg_)
     have q_g3_g11 := Nat.ne_of_lt (Nat.lt_of_lt_of_le B3.lt hg_)
     have q_g4_g11 := Nat.ne_of_lt (Nat.lt_of_lt_of_le B4.lt hg_)
     have q_g5_g11 := Nat.ne_of_lt (Nat.lt_of_lt_of_le B5.lt hg_)
     have q_g6_g11 := Nat.ne_of_lt (Nat.lt_of_lt_of_le B6.lt hg_)
     have q_g7_g11 := Nat.ne_of_lt (Nat.lt_of_lt_of_le B7.lt hg_)
     have q_g8_g11 := Nat.ne_of_lt (Nat.lt_of_lt_of_le B8.lt hg_)
     have q_g9_g11 := Nat.ne_of_lt (Nat.lt_of_lt_of_le B9.lt hg_)
     have q_g10_g11 := Nat.ne_of_lt (Nat.lt_of_lt_of_le B10.lt hg_)
     have lo_g11 := Nat.le_trans (H17).size hg_
     refine wv (.tuple #[.slice (some ⟨g11, 0, none⟩) ((nbL Fd c_).length) cap2, .int .i64 0]) ?_
     refine wv (.slice (some ⟨g11, 0, none⟩) ((nbL Fd c_).length) cap2) ?_
     refine wv (.int .i64 0) ?_
     refine wv (.slice (some ⟨g11, 0, none⟩) ((nbL Fd c_).length) cap2) ?_
     refine wv (.int .i64 0) ?_
     refine wpList_nil (then_normal ?_)
     refine wp_frame (a' := ⟨#[v, v2, undef, undef, .bool false, .pointer (some ⟨g1, 0, none⟩), .pointer (some ⟨g2, 0, none⟩), .pointer (some ⟨g3, 0, none⟩), .pointer (some ⟨g4, 0, none⟩), .pointer (some ⟨g5, 0, none⟩), .pointer (some ⟨g6, 0, none⟩), .slice (some ⟨g7, 0, none⟩) ((listL x_ y_).length) cap1, .pointer (some ⟨g8, 0, none⟩), .int .i64 0, .int .i64 c_, .int .i64 p1, .int .i64 (near0 Fd c_ x_ y_), .int .i64 (near1 Fd c_ x_ y_), .int .i64 (near2 Fd c_ x_ y_), .int .i64 (near0 Fd c_ x_ y_), .int .i64 (near1 Fd c_ x_ y_), .int .i64 (near2 Fd c_ x_ y_), .int .i64 (rich0 Fd x_ y_), .int .i64 (rich1 Fd x_ y_), .int .i64 (near2 Fd c_ x_ y_), .int .i64 (rich0 Fd x_ y_), .int .i64 (rich1 Fd x_ y_), .int .i64 (near2 Fd c_ x_ y_), .pointer (some ⟨g9, 0, none⟩), .int .i64 0, .pointer (some ⟨g10, 0, none⟩), .int .i64 0, .slice (some ⟨g11, 0, none⟩) ((nbL Fd c_).length) cap2, .int .i64 0, undef, undef, undef, undef, undef, undef, undef, undef, v, .bool (decide (4096 < (xs.length : Int))), .bool false, v2, .bool (decide (4096 < (ys.length : Int))), .bool (decide (4096 < (ys.length : Int))), v, .agg Fd.cells, v, .agg #[.int .u64 x_, .int .u64 y_], v2, .agg #[.int .u64 x2_, .int .u64 y2_], .agg #[.int .u64 x_, .int .u64 y_], .agg #[.int .u64 x2_, .int .u64 y2_], .agg #[.int .u64 (un0 x_ x2_), .int .u64 (un1 y_ y2_)], .agg #[.int .u64 x_, .int .u64 y_], .agg #[.int .u64 x2_, .int .u64 y2_], .agg #[.int .u64 (bo0 x_ x2_), .int .u64 (bo1 y_ y2_)], .agg #[.int .u64 x_, .int .u64 y_], .agg #[.int .u64 x2_, .int .u64 y2_], .agg #[.int .u64 (wo0 x_ x2_), .int .u64 (wo1 y_ y2_)], .agg #[.int .u64 (un0 x_ x2_), .int .u64 (un1 y_ y2_)], .agg #[.int .u64 x_, .int .u64 y_], .agg #[.int .u64 x2_, .int .u64 y2_], .agg #[.int .u64 (un0 x_ x2_), .int .u64 (un1 y_ y2_)], .bool false, .bool false, .agg #[.int .u64 (bo0 x_ x2_), .int .u64 (bo1 y_ y2_)], .agg #[.int .u64 x_, .int .u64 y_], .agg #[.int .u64 x2_, .int .u64 y2_], .agg #[.int .u64 (bo0 x_ x2_), .int .u64 (bo1 y_ y2_)], .bool false, .bool false, .bool false, .agg #[.int .u64 (wo0 x_ x2_), .int .u64 (wo1 y_ y2_)], .agg #[.int .u64 x_, .int .u64 y_], .agg #[.int .u64 x2_, .int .u64 y2_], .agg #[.int .u64 (wo0 x_ x2_), .int .u64 (wo1 y_ y2_)], .bool false, .bool false, .bool false, .agg #[.int .u64 x_, .int .u64 y_], .int .i64 (((listL (bo0 x_ x2_) (bo1 y_ y2_)).length : Int) + ((listL (wo0 x_ x2_) (wo1 y_ y2_)).length : Int)), .agg #[.int .u64 (bo0 x_ x2_), .int .u64 (bo1 y_ y2_)], .int .i64 ((listL (bo0 x_ x2_) (bo1 y_ y2_)).length : Int), .agg #[.int .u64 (wo0 x_ x2_), .int .u64 (wo1 y_ y2_)], .int .i64 ((listL (wo0 x_ x2_) (wo1 y_ y2_)).length : Int), .int .i64 (((listL (bo0 x_ x2_) (bo1 y_ y2_)).length : Int) + ((listL (wo0 x_ x2_) (wo1 y_ y2_)).length : Int)), .bool false, .bool false, .bool false, .agg #[.int .u64 (un0 x_ x2_), .int .u64 (un1 y_ y2_)], .int .i64 (((listL (wo0 x_ x2_) (wo1 y_ y2_)).length : Int) + ((listL x2_ y2_).length : Int)), .agg #[.int .u64 (wo0 x_ x2_), .int .u64 (wo1 y_ y2_)], .int .i64 ((listL (wo0 x_ x2_) (wo1 y_ y2_)).length : Int), .agg #[.int .u64 x2_, .int .u64 y2_], .int .i64 ((listL x2_ y2_).length : Int), .int .i64 (((listL (wo0 x_ x2_) (wo1 y_ y2_)).length : Int) + ((listL x2_ y2_).length : Int)), .bool false, .bool false, .agg #[.int .u64 x_, .int .u64 y_], .slice (some ⟨g7, 0, none⟩) ((listL x_ y_).length) cap1, .tuple #[.agg #[.int .u64 x_, .int .u64 y_], .int .i64 0], .slice (some ⟨g7, 0, none⟩) ((listL x_ y_).length) cap1, .tuple #[.agg #[.int .u64 x_, .int .u64 y_], .int .i64 0], .agg #[.int .u64 x_, .int .u64 y_], .int .i64 0, .int .i64 0, .bool false, .bool false, .agg #[.int .u64 x_, .int .u64 y_], .agg #[.int .u64 x_, .int .u64 y_], .bool false, .bool false, .bool false, .slice (some ⟨g7, 0, none⟩) ((listL x_ y_).length) cap1, .int .i64 ((listL x_ y_).length : Int), .agg #[.int .u64 x_, .int .u64 y_], .int .i64 ((listL x_ y_).length : Int), .bool false, .bool false, v2, .agg Fd.cells, .int .i64 c_, v, .int .i64 p1, .tuple #[.int .i64 (near0 Fd c_ x_ y_), .int .i64 (near1 Fd c_ x_ y_), .int .i64 (near2 Fd c_ x_ y_)], .agg Fd.cells, .int .i64 c_, .agg #[.int .u64 x_, .int .u64 y_], .tuple #[.int .i64 (near0 Fd c_ x_ y_), .int .i64 (near1 Fd c_ x_ y_), .int .i64 (near2 Fd c_ x_ y_)], .int .i64 (near0 Fd c_ x_ y_), .int .i64 (near1 Fd c_ x_ y_), .int .i64 (near2 Fd c_ x_ y_), .tuple #[.int .i64 (near0 Fd c_ x_ y_), .int .i64 (near1 Fd c_ x_ y_), .int .i64 (near2 Fd c_ x_ y_)], .agg Fd.cells, .int .i64 c_, .agg #[.int .u64 x_, .int .u64 y_], .tuple #[.int .i64 (near0 Fd c_ x_ y_), .int .i64 (near1 Fd c_ x_ y_), .int .i64 (near2 Fd c_ x_ y_)], .int .i64 (near0 Fd c_ x_ y_), .int .i64 (near1 Fd c_ x_ y_), .int .i64 (near2 Fd c_ x_ y_), .tuple #[.int .i64 (rich0 Fd x_ y_), .int .i64 (rich1 Fd x_ y_), .int .i64 (near2 Fd c_ x_ y_)], .agg Fd.cells, .agg #[.int .u64 x_, .int .u64 y_], .tuple #[.int .i64 (rich0 Fd x_ y_), .int .i64 (rich1 Fd x_ y_), .int .i64 (near2 Fd c_ x_ y_)], .int .i64 (rich0 Fd x_ y_), .int .i64 (rich1 Fd x_ y_), .int .i64 (near2 Fd c_ x_ y_), .tuple #[.int .i64 (rich0 Fd x_ y_), .int .i64 (rich1 Fd x_ y_), .int .i64 (near2 Fd c_ x_ y_)], .agg Fd.cells, .agg #[.int .u64 x_, .int .u64 y_], .tuple #[.int .i64 (rich0 Fd x_ y_), .int .i64 (rich1 Fd x_ y_), .int .i64 (near2 Fd c_ x_ y_)], .int .i64 (rich0 Fd x_ y_), .int .i64 (rich1 Fd x_ y_), .int .i64 (near2 Fd c_ x_ y_), .tuple #[.agg #[.int .u64 ((ringS Fd c_ p1).1), .int .u64 ((ringS Fd c_ p1).2)], .int .i64 0], .agg Fd.cells, .int .i64 c_, .int .i64 p1, .tuple #[.agg #[.int .u64 ((ringS Fd c_ p1).1), .int .u64 ((ringS Fd c_ p1).2)], .int .i64 0], .agg #[.int .u64 ((ringS Fd c_ p1).1), .int .u64 ((ringS Fd c_ p1).2)], .int .i64 0, .tuple #[.agg #[.int .u64 ((ringS Fd c_ p1).1), .int .u64 ((ringS Fd c_ p1).2)], .int .i64 0], .agg Fd.cells, .int .i64 c_, .int .i64 p1, .tuple #[.agg #[.int .u64 ((ringS Fd c_ p1).1), .int .u64 ((ringS Fd c_ p1).2)], .int .i64 0], .agg #[.int .u64 ((ringS Fd c_ p1).1), .int .u64 ((ringS Fd c_ p1).2)], .int .i64 0, .tuple #[.slice (some ⟨g11, 0, none⟩) ((nbL Fd c_).length) cap2, .int .i64 0], .agg Fd.cells, .int .i64 c_, .tuple #[.slice (some ⟨g11, 0, none⟩) ((nbL Fd c_).length) cap2, .int .i64 0], .slice (some ⟨g11, 0, none⟩) ((nbL Fd c_).length) cap2, .int .i64 0, undef, undef, undef, undef, undef, undef, undef, undef, undef, undef, undef, undef, undef, undef, undef, undef, undef, undef, undef, undef, undef, undef, undef, undef, undef, undef, undef, undef, undef, undef, undef, undef, undef, undef, undef, undef, undef, undef, undef, undef, undef, undef, undef, undef, undef, undef, undef, undef, undef, undef, undef, undef, undef, undef, undef, undef, undef, undef, undef, undef, undef, undef, undef, undef, undef, undef, undef, undef, undef, undef, undef, undef, undef, undef, undef, undef, undef, undef, undef, undef, undef, undef, undef, undef, undef, undef, undef, undef, undef, undef, undef, undef, undef, undef, undef, undef, undef, undef, undef, undef, undef, undef, undef, undef, undef, undef, undef, undef, undef, undef, undef, undef, undef, undef, undef, undef, undef, undef, undef, undef, undef, undef, undef, undef, undef, undef, undef, undef, undef, undef, undef, undef, undef, undef, undef, undef, undef, undef, undef, undef, undef, undef, undef, undef, undef, undef, undef, undef, undef, undef, undef, undef, undef, undef, undef, undef, undef, undef, undef, undef, undef, undef, undef, undef, undef, undef, undef, undef, undef, undef, undef, undef, undef, undef, undef, undef], []⟩) (by kernel_rfl) ?_
     refine wp_seq ?_
     refine wsr ?_
     refine wv (.int .i64 (near2 Fd c_ x_ y_)) ?_
     refine wv (.int .i64 (near2 Fd c_ x_ y_)) ?_
     refine wvv (.bool ((near2 Fd c_ x_ y_) != (near2 Fd c_ x_ y_))) (.bool false) (by simp) ?_
     refine wv (.bool false) ?_
     refine wv (.int .i64 (near0 Fd c_ x_ y_)) ?_
     refine wv (.int .i64 (near0 Fd c_ x_ y_)) ?_
     refine wvv (.bool ((near0 Fd c_ x_ y_) != (near0 Fd c_ x_ y_))) (.bool false) (by simp) ?_
     refine wv (.bool false) ?_
     refine wv (.bool false) ?_
     refine wv (.int .i64 (near1 Fd c_ x_ y_)) ?_
     refine wv (.int .i64 (near1 Fd c_ x_ y_)) ?_
     refine wvv (.bool ((near1 Fd c_ x_ y_) != (near1 Fd c_ x_ y_))) (.bool false) (by simp) ?_
     refine wv (.bool false) ?_
     refine wv (.bool false) ?_
     refine wv (.int .i64 (near2 Fd c_ x_ y_)) ?_
     refine wv (.int .i64 (near2 Fd c_ x_ y_)) ?_
     refine wvv (.bool ((near2 Fd c_ x_ y_) != (near2 Fd c_ x_ y_))) (.bool false) (by simp) ?_
     refine wv (.bool false) ?_
     refine wv (.bool false) ?_
     refine wv (.int .i64 (rich0 Fd x_ y_)) ?_
     refine wv (.int .i64 (rich0 Fd x_ y_)) ?_
     refine wvv (.bool ((rich0 Fd x_ y_) != (rich0 Fd x_ y_))) (.bool false) (by simp) ?_
     refine wv (.bool false) ?_
     refine wv (.bool false) ?_
     refine wv (.int .i64 (rich1 Fd x_ y_)) ?_
     refine wv (.int .i64 (rich1 Fd x_ y_)) ?_
     refine wvv (.bool ((rich1 Fd x_ y_) != (rich1 Fd x_ y_))) (.bool false) (by simp) ?_
     refine wv (.bool false) ?_
     refine wv (.bool false) ?_
     refine wv (.int .i64 0) ?_
     refine wv (.int .i64 0) ?_
     refine wvv (.bool (0 != 0)) (.bool false) (by simp) ?_
     refine wv (.bool false) ?_
     refine wv (.bool false) ?_
     refine wv (.int .i64 0) ?_
     refine wvv (.bool (0 != 0)) (.bool false) (by simp) ?_
     refine wv (.bool false) ?_
     refine wv (.bool false) ?_
     replace B9 := B9.ext E30
     refine wrow row_impl_Cells B9 (by rfl) ?_
     replace B10 := B10.ext E30
     refine wrow row_impl_Cells B10 (by rfl) ?_
     refine wneA duot_impl_Cells.eg (equalIn_duo duot_impl_Cells 9998 ((ringS Fd c_ p1).1) ((ringS Fd c_ p1).2) ((ringS Fd c_ p1).1) ((ringS Fd c_ p1).2)) ?_
     refine wbl 218 false (bnT (eq2_s ((ringS Fd c_ p1).1) ((ringS Fd c_ p1).2))) ?_
     refine wv (.bool false) ?_
     refine wv (.bool false) ?_
     refine wv (.int .i64 0) ?_
     refine wvv (.bool (0 != 0)) (.bool false) (by simp) ?_
     refine wpl_frame (a' := ⟨#[v, v2, undef, undef, .bool false, .pointer (some ⟨g1, 0, none⟩), .pointer (some ⟨g2, 0, none⟩), .pointer (some ⟨g3, 0, none⟩), .pointer (some ⟨g4, 0, none⟩), .pointer (some ⟨g5, 0, none⟩), .pointer (some ⟨g6, 0, none⟩), .slice (some ⟨g7, 0, none⟩) ((listL x_ y_).length) cap1, .pointer (some ⟨g8, 0, none⟩), .int .i64 0, .int .i64 c_, .int .i64 p1, .int .i64 (near0 Fd c_ x_ y_), .int .i64 (near1 Fd c_ x_ y_), .int .i64 (near2 Fd c_ x_ y_), .int .i64 (near0 Fd c_ x_ y_), .int .i64 (near1 Fd c_ x_ y_), .int .i64 (near2 Fd c_ x_ y_), .int .i64 (rich0 Fd x_ y_), .int .i64 (rich1 Fd x_ y_), .int .i64 (near2 Fd c_ x_ y_), .int .i64 (rich0 Fd x_ y_), .int .i64 (rich1 Fd x_ y_), .int .i64 (near2 Fd c_ x_ y_), .pointer (some ⟨g9, 0, none⟩), .int .i64 0, .pointer (some ⟨g10, 0, none⟩), .int .i64 0, .slice (some ⟨g11, 0, none⟩) ((nbL Fd c_).length) cap2, .int .i64 0, undef, undef, undef, undef, undef, undef, undef, undef, v, .bool (decide (4096 < (xs.length : Int))), .bool false, v2, .bool (decide (4096 < (ys.length : Int))), .bool (decide (4096 < (ys.length : Int))), v, .agg Fd.cells, v, .agg #[.int .u64 x_, .int .u64 y_], v2, .agg #[.int .u64 x2_, .int .u64 y2_], .agg #[.int .u64 x_, .int .u64 y_], .agg #[.int .u64 x2_, .int .u64 y2_], .agg #[.int .u64 (un0 x_ x2_), .int .u64 (un1 y_ y2_)], .agg #[.int .u64 x_, .int .u64 y_], .agg #[.int .u64 x2_, .int .u64 y2_], .agg #[.int .u64 (bo0 x_ x2_), .int .u64 (bo1 y_ y2_)], .agg #[.int .u64 x_, .int .u64 y_], .agg #[.int .u64 x2_, .int .u64 y2_], .agg #[.int .u64 (wo0 x_ x2_), .int .u64 (wo1 y_ y2_)], .agg #[.int .u64 (un0 x_ x2_), .int .u64 (un1 y_ y2_)], .agg #[.int .u64 x_, .int .u64 y_], .agg #[.int .u64 x2_, .int .u64 y2_], .agg #[.int .u64 (un0 x_ x2_), .int .u64 (un1 y_ y2_)], .bool false, .bool false, .agg #[.int .u64 (bo0 x_ x2_), .int .u64 (bo1 y_ y2_)], .agg #[.int .u64 x_, .int .u64 y_], .agg #[.int .u64 x2_, .int .u64 y2_], .agg #[.int .u64 (bo0 x_ x2_), .int .u64 (bo1 y_ y2_)], .bool false, .bool false, .bool false, .agg #[.int .u64 (wo0 x_ x2_), .int .u64 (wo1 y_ y2_)], .agg #[.int .u64 x_, .int .u64 y_], .agg #[.int .u64 x2_, .int .u64 y2_], .agg #[.int .u64 (wo0 x_ x2_), .int .u64 (wo1 y_ y2_)], .bool false, .bool false, .bool false, .agg #[.int .u64 x_, .int .u64 y_], .int .i64 (((listL (bo0 x_ x2_) (bo1 y_ y2_)).length : Int) + ((listL (wo0 x_ x2_) (wo1 y_ y2_)).length : Int)), .agg #[.int .u64 (bo0 x_ x2_), .int .u64 (bo1 y_ y2_)], .int .i64 ((listL (bo0 x_ x2_) (bo1 y_ y2_)).length : Int), .agg #[.int .u64 (wo0 x_ x2_), .int .u64 (wo1 y_ y2_)], .int .i64 ((listL (wo0 x_ x2_) (wo1 y_ y2_)).length : Int), .int .i64 (((listL (bo0 x_ x2_) (bo1 y_ y2_)).length : Int) + ((listL (wo0 x_ x2_) (wo1 y_ y2_)).length : Int)), .bool false, .bool false, .bool false, .agg #[.int .u64 (un0 x_ x2_), .int .u64 (un1 y_ y2_)], .int .i64 (((listL (wo0 x_ x2_) (wo1 y_ y2_)).length : Int) + ((listL x2_ y2_).length : Int)), .agg #[.int .u64 (wo0 x_ x2_), .int .u64 (wo1 y_ y2_)], .int .i64 ((listL (wo0 x_ x2_) (wo1 y_ y2_)).length : Int), .agg #[.int .u64 x2_, .int .u64 y2_], .int .i64 ((listL x2_ y2_).length : Int), .int .i64 (((listL (wo0 x_ x2_) (wo1 y_ y2_)).length : Int) + ((listL x2_ y2_).length : Int)), .bool false, .bool false, .agg #[.int .u64 x_, .int .u64 y_], .slice (some ⟨g7, 0, none⟩) ((listL x_ y_).length) cap1, .tuple #[.agg #[.int .u64 x_, .int .u64 y_], .int .i64 0], .slice (some ⟨g7, 0, none⟩) ((listL x_ y_).length) cap1, .tuple #[.agg #[.int .u64 x_, .int .u64 y_], .int .i64 0], .agg #[.int .u64 x_, .int .u64 y_], .int .i64 0, .int .i64 0, .bool false, .bool false, .agg #[.int .u64 x_, .int .u64 y_], .agg #[.int .u64 x_, .int .u64 y_], .bool false, .bool false, .bool false, .slice (some ⟨g7, 0, none⟩) ((listL x_ y_).length) cap1, .int .i64 ((listL x_ y_).length : Int), .agg #[.int .u64 x_, .int .u64 y_], .int .i64 ((listL x_ y_).length : Int), .bool false, .bool false, v2, .agg Fd.cells, .int .i64 c_, v, .int .i64 p1, .tuple #[.int .i64 (near0 Fd c_ x_ y_), .int .i64 (near1 Fd c_ x_ y_), .int .i64 (near2 Fd c_ x_ y_)], .agg Fd.cells, .int .i64 c_, .agg #[.int .u64 x_, .int .u64 y_], .tuple #[.int .i64 (near0 Fd c_ x_ y_), .int .i64 (near1 Fd c_ x_ y_), .int .i64 (near2 Fd c_ x_ y_)], .int .i64 (near0 Fd c_ x_ y_), .int .i64 (near1 Fd c_ x_ y_), .int .i64 (near2 Fd c_ x_ y_), .tuple #[.int .i64 (near0 Fd c_ x_ y_), .int .i64 (near1 Fd c_ x_ y_), .int .i64 (near2 Fd c_ x_ y_)], .agg Fd.cells, .int .i64 c_, .agg #[.int .u64 x_, .int .u64 y_], .tuple #[.int .i64 (near0 Fd c_ x_ y_), .int .i64 (near1 Fd c_ x_ y_), .int .i64 (near2 Fd c_ x_ y_)], .int .i64 (near0 Fd c_ x_ y_), .int .i64 (near1 Fd c_ x_ y_), .int .i64 (near2 Fd c_ x_ y_), .tuple #[.int .i64 (rich0 Fd x_ y_), .int .i64 (rich1 Fd x_ y_), .int .i64 (near2 Fd c_ x_ y_)], .agg Fd.cells, .agg #[.int .u64 x_, .int .u64 y_], .tuple #[.int .i64 (rich0 Fd x_ y_), .int .i64 (rich1 Fd x_ y_), .int .i64 (near2 Fd c_ x_ y_)], .int .i64 (rich0 Fd x_ y_), .int .i64 (rich1 Fd x_ y_), .int .i64 (near2 Fd c_ x_ y_), .tuple #[.int .i64 (rich0 Fd x_ y_), .int .i64 (rich1 Fd x_ y_), .int .i64 (near2 Fd c_ x_ y_)], .agg Fd.cells, .agg #[.int .u64 x_, .int .u64 y_], .tuple #[.int .i64 (rich0 Fd x_ y_), .int .i64 (rich1 Fd x_ y_), .int .i64 (near2 Fd c_ x_ y_)], .int .i64 (rich0 Fd x_ y_), .int .i64 (rich1 Fd x_ y_), .int .i64 (near2 Fd c_ x_ y_), .tuple #[.agg #[.int .u64 ((ringS Fd c_ p1).1), .int .u64 ((ringS Fd c_ p1).2)], .int .i64 0], .agg Fd.cells, .int .i64 c_, .int .i64 p1, .tuple #[.agg #[.int .u64 ((ringS Fd c_ p1).1), .int .u64 ((ringS Fd c_ p1).2)], .int .i64 0], .agg #[.int .u64 ((ringS Fd c_ p1).1), .int .u64 ((ringS Fd c_ p1).2)], .int .i64 0, .tuple #[.agg #[.int .u64 ((ringS Fd c_ p1).1), .int .u64 ((ringS Fd c_ p1).2)], .int .i64 0], .agg Fd.cells, .int .i64 c_, .int .i64 p1, .tuple #[.agg #[.int .u64 ((ringS Fd c_ p1).1), .int .u64 ((ringS Fd c_ p1).2)], .int .i64 0], .agg #[.int .u64 ((ringS Fd c_ p1).1), .int .u64 ((ringS Fd c_ p1).2)], .int .i64 0, .tuple #[.slice (some ⟨g11, 0, none⟩) ((nbL Fd c_).length) cap2, .int .i64 0], .agg Fd.cells, .int .i64 c_, .tuple #[.slice (some ⟨g11, 0, none⟩) ((nbL Fd c_).length) cap2, .int .i64 0], .slice (some ⟨g11, 0, none⟩) ((nbL Fd c_).length) cap2, .int .i64 0, .int .i64 (near2 Fd c_ x_ y_), .int .i64 (near2 Fd c_ x_ y_), .bool false, .bool false, .int .i64 (near0 Fd c_ x_ y_), .int .i64 (near0 Fd c_ x_ y_), .bool false, .bool false, .bool false, .int .i64 (near1 Fd c_ x_ y_), .int .i64 (near1 Fd c_ x_ y_), .bool false, .bool false, .bool false, .int .i64 (near2 Fd c_ x_ y_), .int .i64 (near2 Fd c_ x_ y_), .bool false, .bool false, .bool false, .int .i64 (rich0 Fd x_ y_), .int .i64 (rich0 Fd x_ y_), .bool false, .bool false, .bool false, .int .i64 (rich1 Fd x_ y_), .int .i64 (rich1 Fd x_ y_), .bool false, .bool false, .bool false, .int .i64 0, .int .i64 0, .bool false, .bool false, .bool false, .int .i64 0, .bool false, .bool false, .bool false, .agg #[.int .u64 ((ringS Fd c_ p1).1), .int .u64 ((ringS Fd c_ p1).2)], .agg #[.int .u64 ((ringS Fd c_ p1).1), .int .u64 ((ringS Fd c_ p1).2)], .bool false, .bool false, .bool false, .int .i64 0, .bool false, undef, undef, undef, undef, undef, undef, undef, undef, undef, undef, undef, undef, undef, undef, undef, undef, undef, undef, undef, undef, undef, undef, undef, undef, undef, undef, undef, undef, undef, undef, undef, undef, undef, undef, undef, undef, undef, undef, undef, undef, undef, undef, undef, undef, undef, undef, undef, undef, undef, undef, undef, undef, undef, undef, undef, undef, undef, undef, undef, undef, undef, undef, undef, undef, undef, undef, undef, undef, undef, undef, undef, undef, undef, undef, undef, undef, undef, undef, undef, undef, undef, undef, undef, undef, undef, undef, undef, undef, undef, undef, undef, undef, undef, undef, undef, undef, undef, undef, undef, undef, undef, undef, undef, undef, undef, undef, undef, undef, undef, undef, undef, undef, undef, undef, undef, undef, undef, undef, undef, undef, undef, undef, undef, undef, undef, undef, undef, undef, undef, undef, undef], []⟩) (by kernel_rfl) ?_
     refine wv (.bool false) ?_
     refine wv (.bool false) ?_
     refine wv (.int .i64 (near2 Fd c_ x_ y_)) ?_
     refine wv (.int .i64 (near2 Fd c_ x_ y_)) ?_
     refine wvv (.bool ((near2 Fd c_ x_ y_) != (near2 Fd c_ x_ y_))) (.bool false) (by simp) ?_
     refine wv (.bool false) ?_
     refine wpList_nil (then_normal ?_)
     refine wcf ?_
     refine wp_skip ?_
     refine then_normal ?_
     refine wsr ?_
     refine wv (.int .i64 0) ?_
     refine wpList_nil (then_normal ?_)
     refine wsr ?_
     refine wv (.int .i64 0) ?_
     refine wpList_nil (then_normal ?_)
     refine wp_seq ?_
     refine wsr ?_
     refine wv (.int .i64 0) ?_
     refine wpList_nil (then_normal ?_)
     refine wp_block ?_
     replace B1 := B1.ext E30
     replace B2 := B2.ext E30
     replace B3 := B3.ext E30
     replace B4 := B4.ext E30
     replace B5 := B5.ext E30
     replace B6 := B6.ext E30
     replace B7 := B7.ext E30
     replace B8 := B8.ext E30
     have H18 := H17.trans E30
     refine wp_loop_k (fun m1 a wl1 => ∃ (i : Nat) (km : Int), m1 = 4 - i ∧ i ≤ 4 ∧ km = knd Fd i ∧ Ext w wl1 ∧ Blk wl1 g1 29 Fd.cells ∧ Blk wl1 g2 33 #[.int .u64 x_, .int .u64 y_] ∧ Blk wl1 g3 33 #[.int .u64 x2_, .int .u64 y2_] ∧ Blk wl1 g4 33 #[.int .u64 (un0 x_ x2_), .int .u64 (un1 y_ y2_)] ∧ Blk wl1 g5 33 #[.int .u64 (bo0 x_ x2_), .int .u64 (bo1 y_ y2_)] ∧ Blk wl1 g6 33 #[.int .u64 (wo0 x_ x2_), .int .u64 (wo1 y_ y2_)] ∧ Blk wl1 g7 2 cs1 ∧ Blk wl1 g8 33 #[.int .u64 x_, .int .u64 y_] ∧ Blk wl1 g9 33 #[.int .u64 ((ringS Fd c_ p1).1), .int .u64 ((ringS Fd c_ p1).2)] ∧ Blk wl1 g10 33 #[.int .u64 ((ringS Fd c_ p1).1), .int .u64 ((ringS Fd c_ p1).2)] ∧ Blk wl1 g11 2 cs2 ∧ (∃ J1 : Nat → Value, a = ⟨#[v, v2, undef, undef, J1 4, .pointer (some ⟨g1, 0, none⟩), .pointer (some ⟨g2, 0, none⟩), .pointer (some ⟨g3, 0, none⟩), .pointer (some ⟨g4, 0, none⟩), .pointer (some ⟨g5, 0, none⟩), .pointer (some ⟨g6, 0, none⟩), .slice (some ⟨g7, 0, none⟩) ((listL x_ y_).length) cap1, .pointer (some ⟨g8, 0, none⟩), .int .i64 0, .int .i64 c_, .int .i64 p1, .int .i64 (near0 Fd c_ x_ y_), .int .i64 (near1 Fd c_ x_ y_), .int .i64 (near2 Fd c_ x_ y_), .int .i64 (near0 Fd c_ x_ y_), .int .i64 (near1 Fd c_ x_ y_), .int .i64 (near2 Fd c_ x_ y_), .int .i64 (rich0 Fd x_ y_), .int .i64 (rich1 Fd x_ y_), .int .i64 (near2 Fd c_ x_ y_), .int .i64 (rich0 Fd x_ y_), .int .i64 (rich1 Fd x_ y_), .int .i64 (near2 Fd c_ x_ y_), .pointer (some ⟨g9, 0, none⟩), .int .i64 0, .pointer (some ⟨g10, 0, none⟩), .int .i64 0, .slice (some ⟨g11, 0, none⟩) ((nbL Fd c_).length) cap2, .int .i64 0, .int .i64 0, .int .i64 km, .int .i64 (i : Int), J1 37, J1 38, undef, undef, undef, v, .bool (decide (4096 < (xs.length : Int))), .bool false, v2, .bool (decide (4096 < (ys.length : Int))), .bool (decide (4096 < (ys.length : Int))), v, .agg Fd.cells, v, .agg #[.int .u64 x_, .int .u64 y_], v2, .agg #[.int .u64 x2_, .int .u64 y2_], .agg #[.int .u64 x_, .int .u64 y_], .agg #[.int .u64 x2_, .int .u64 y2_], .agg #[.int .u64 (un0 x_ x2_), .int .u64 (un1 y_ y2_)], .agg #[.int .u64 x_, .int .u64 y_], .agg #[.int .u64 x2_, .int .u64 y2_], .agg #[.int .u64 (bo0 x_ x2_), .int .u64 (bo1 y_ y2_)], .agg #[.int .u64 x_, .int .u64 y_], .agg #[.int .u64 x2_, .int .u64 y2_], .agg #[.int .u64 (wo0 x_ x2_), .int .u64 (wo1 y_ y2_)], .agg #[.int .u64 (un0 x_ x2_), .int .u64 (un1 y_ y2_)], .agg #[.int .u64 x_, .int .u64 y_], .agg #[.int .u64 x2_, .int .u64 y2_], .agg #[.int .u64 (un0 x_ x2_), .int .u64 (un1 y_ y2_)], .bool false, .bool false, .agg #[.int .u64 (bo0 x_ x2_), .int .u64 (bo1 y_ y2_)], .agg #[.int .u64 x_, .int .u64 y_], .agg #[.int .u64 x2_, .int .u64 y2_], .agg #[.int .u64 (bo0 x_ x2_), .int .u64 (bo1 y_ y2_)], .bool false, .bool false, .bool false, .agg #[.int .u64 (wo0 x_ x2_), .int .u64 (wo1 y_ y2_)], .agg #[.int .u64 x_, .int .u64 y_], .agg #[.int .u64 x2_, .int .u64 y2_], .agg #[.int .u64 (wo0 x_ x2_), .int .u64 (wo1 y_ y2_)], .bool false, .bool false, .bool false, .agg #[.int .u64 x_, .int .u64 y_], .int .i64 (((listL (bo0 x_ x2_) (bo1 y_ y2_)).length : Int) + ((listL (wo0 x_ x2_) (wo1 y_ y2_)).length : Int)), .agg #[.int .u64 (bo0 x_ x2_), .int .u64 (bo1 y_ y2_)], .int .i64 ((listL (bo0 x_ x2_) (bo1 y_ y2_)).length : Int), .agg #[.int .u64 (wo0 x_ x2_), .int .u64 (wo1 y_ y2_)], .int .i64 ((listL (wo0 x_ x2_) (wo1 y_ y2_)).length : Int), .int .i64 (((listL (bo0 x_ x2_) (bo1 y_ y2_)).length : Int) + ((listL (wo0 x_ x2_) (wo1 y_ y2_)).length : Int)), .bool false, .bool false, .bool false, .agg #[.int .u64 (un0 x_ x2_), .int .u64 (un1 y_ y2_)], .int .i64 (((listL (wo0 x_ x2_) (wo1 y_ y2_)).length : Int) + ((listL x2_ y2_).length : Int)), .agg #[.int .u64 (wo0 x_ x2_), .int .u64 (wo1 y_ y2_)], .int .i64 ((listL (wo0 x_ x2_) (wo1 y_ y2_)).length : Int), .agg #[.int .u64 x2_, .int .u64 y2_], .int .i64 ((listL x2_ y2_).length : Int), .int .i64 (((listL (wo0 x_ x2_) (wo1 y_ y2_)).length : Int) + ((listL x2_ y2_).length : Int)), .bool false, .bool false, .agg #[.int .u64 x_, .int .u64 y_], .slice (some ⟨g7, 0, none⟩) ((listL x_ y_).length) cap1, .tuple #[.agg #[.int .u64 x_, .int .u64 y_], .int .i64 0], .slice (some ⟨g7, 0, none⟩) ((listL x_ y_).length) cap1, .tuple #[.agg #[.int .u64 x_, .int .u64 y_], .int .i64 0], .agg #[.int .u64 x_, .int .u64 y_], .int .i64 0, .int .i64 0, .bool false, .bool false, .agg #[.int .u64 x_, .int .u64 y_], .agg #[.int .u64 x_, .int .u64 y_], .bool false, .bool false, .bool false, .slice (some ⟨g7, 0, none⟩) ((listL x_ y_).length) cap1, .int .i64 ((listL x_ y_).length : Int), .agg #[.int .u64 x_, .int .u64 y_], .int .i64 ((listL x_ y_).length : Int), .bool false, .bool false, v2, .agg Fd.cells, .int .i64 c_, v, .int .i64 p1, .tuple #[.int .i64 (near0 Fd c_ x_ y_), .int .i64 (near1 Fd c_ x_ y_), .int .i64 (near2 Fd c_ x_ y_)], .agg Fd.cells, .int .i64 c_, .agg #[.int .u64 x_, .int .u64 y_], .tuple #[.int .i64 (near0 Fd c_ x_ y_), .int .i64 (near1 Fd c_ x_ y_), .int .i64 (near2 Fd c_ x_ y_)], .int .i64 (near0 Fd c_ x_ y_), .int .i64 (near1 Fd c_ x_ y_), .int .i64 (near2 Fd c_ x_ y_), .tuple #[.int .i64 (near0 Fd c_ x_ y_), .int .i64 (near1 Fd c_ x_ y_), .int .i64 (near2 Fd c_ x_ y_)], .agg Fd.cells, .int .i64 c_, .agg #[.int .u64 x_, .int .u64 y_], .tuple #[.int .i64 (near0 Fd c_ x_ y_), .int .i64 (near1 Fd c_ x_ y_), .int .i64 (near2 Fd c_ x_ y_)], .int .i64 (near0 Fd c_ x_ y_), .int .i64 (near1 Fd c_ x_ y_), .int .i64 (near2 Fd c_ x_ y_), .tuple #[.int .i64 (rich0 Fd x_ y_), .int .i64 (rich1 Fd x_ y_), .int .i64 (near2 Fd c_ x_ y_)], .agg Fd.cells, .agg #[.int .u64 x_, .int .u64 y_], .tuple #[.int .i64 (rich0 Fd x_ y_), .int .i64 (rich1 Fd x_ y_), .int .i64 (near2 Fd c_ x_ y_)], .int .i64 (rich0 Fd x_ y_), .int .i64 (rich1 Fd x_ y_), .int .i64 (near2 Fd c_ x_ y_), .tuple #[.int .i64 (rich0 Fd x_ y_), .int .i64 (rich1 Fd x_ y_), .int .i64 (near2 Fd c_ x_ y_)], .agg Fd.cells, .agg #[.int .u64 x_, .int .u64 y_], .tuple #[.int .i64 (rich0 Fd x_ y_), .int .i64 (rich1 Fd x_ y_), .int .i64 (near2 Fd c_ x_ y_)], .int .i64 (rich0 Fd x_ y_), .int .i64 (rich1 Fd x_ y_), .int .i64 (near2 Fd c_ x_ y_), .tuple #[.agg #[.int .u64 ((ringS Fd c_ p1).1), .int .u64 ((ringS Fd c_ p1).2)], .int .i64 0], .agg Fd.cells, .int .i64 c_, .int .i64 p1, .tuple #[.agg #[.int .u64 ((ringS Fd c_ p1).1), .int .u64 ((ringS Fd c_ p1).2)], .int .i64 0], .agg #[.int .u64 ((ringS Fd c_ p1).1), .int .u64 ((ringS Fd c_ p1).2)], .int .i64 0, .tuple #[.agg #[.int .u64 ((ringS Fd c_ p1).1), .int .u64 ((ringS Fd c_ p1).2)], .int .i64 0], .agg Fd.cells, .int .i64 c_, .int .i64 p1, .tuple #[.agg #[.int .u64 ((ringS Fd c_ p1).1), .int .u64 ((ringS Fd c_ p1).2)], .int .i64 0], .agg #[.int .u64 ((ringS Fd c_ p1).1), .int .u64 ((ringS Fd c_ p1).2)], .int .i64 0, .tuple #[.slice (some ⟨g11, 0, none⟩) ((nbL Fd c_).length) cap2, .int .i64 0], .agg Fd.cells, .int .i64 c_, .tuple #[.slice (some ⟨g11, 0, none⟩) ((nbL Fd c_).length) cap2, .int .i64 0], .slice (some ⟨g11, 0, none⟩) ((nbL Fd c_).length) cap2, .int .i64 0, .int .i64 (near2 Fd c_ x_ y_), .int .i64 (near2 Fd c_ x_ y_), .bool false, .bool false, .int .i64 (near0 Fd c_ x_ y_), .int .i64 (near0 Fd c_ x_ y_), .bool false, .bool false, .bool false, .int .i64 (near1 Fd c_ x_ y_), .int .i64 (near1 Fd c_ x_ y_), .bool false, .bool false, .bool false, .int .i64 (near2 Fd c_ x_ y_), .int .i64 (near2 Fd c_ x_ y_), .bool false, .bool false, .bool false, .int .i64 (rich0 Fd x_ y_), .int .i64 (rich0 Fd x_ y_), .bool false, .bool false, .bool false, .int .i64 (rich1 Fd x_ y_), .int .i64 (rich1 Fd x_ y_), .bool false, .bool false, .bool false, .int .i64 0, .int .i64 0, .bool false, .bool false, .bool false, .int .i64 0, .bool false, .bool false, .bool false, .agg #[.int .u64 ((ringS Fd c_ p1).1), .int .u64 ((ringS Fd c_ p1).2)], .agg #[.int .u64 ((ringS Fd c_ p1).1), .int .u64 ((ringS Fd c_ p1).2)], .bool false, .bool false, .bool false, .int .i64 0, .bool false, .bool false, .bool false, .int .i64 (near2 Fd c_ x_ y_), .int .i64 (near2 Fd c_ x_ y_), .bool false, .bool false, J1 229, J1 230, J1 231, J1 232, J1 233, J1 234, J1 235, J1 236, J1 237, J1 238, J1 239, J1 240, J1 241, J1 242, J1 243, J1 244, undef, undef, undef, undef, undef, undef, undef, undef, undef, undef, undef, undef, undef, undef, undef, undef, undef, undef, undef, undef, undef, undef, undef, undef, undef, undef, undef, undef, undef, undef, undef, undef, undef, undef, undef, undef, undef, undef, undef, undef, undef, undef, undef, undef, undef, undef, undef, undef, undef, undef, undef, undef, undef, undef, undef, undef, undef, undef, undef, undef, undef, undef, undef, undef, undef, undef, undef, undef, undef, undef, undef, undef, undef, undef, undef, undef, undef, undef, undef, undef, undef, undef, undef, undef, undef, undef, undef, undef, undef, undef, undef, undef, undef, undef, undef, undef, undef, undef, undef, undef, undef, undef, undef, undef, undef, undef, undef, undef, undef], []⟩)) (4) ?_ ?_
     · refine ⟨0, 0, rfl, ?_, ?_, H18, B1, B2, B3, B4, B5, B6, B7, B8, B9, B10, B11, exJ (by kernel_rfl)⟩
       · omega
       · rfl
     intro m1 a wl1 hI
     obtain ⟨i, km, rfl, hi_, hkm, HL1, B1, B2, B3, B4, B5, B6, B7, B8, B9, B10, B11, J1, rfl⟩ := hI
     have kb_ := knd_b Fd i
     refine wp_seq ?_
     refine wsr ?_
     refine wv (.int .i64 (i : Int)) ?_
     refine wv (.bool (decide ((i : Int) < 4))) ?_
     refine wpList_nil (then_normal ?_)
     refine wsplit (decide ((i : Int) < 4)) (fun h3 => ?_) (fun h3 => ?_)
     · skip
       have h3d := dT h3
       refine wp_skip ?_
       refine then_normal ?_
       refine wp_seq ?_
       refine wp_block ?_
       refine wsr ?_
       refine wrow row_impl_Field B1 (by exact Fld.size_cells _) ?_
       refine wv (.int .i64 (i : Int)) ?_
       refine wcl (iKind_is Fd hF_ hd_.ok (i : Int) (by omega) _) ?_
       intro w40 E31
       refine wv (.tuple #[.agg #[.int .u64 ((kindS Fd (i : Int)).1), .int .u64 ((kindS Fd (i : Int)).2)], .int .i64 0]) ?_
       refine wv (.agg #[.int .u64 ((kindS Fd (i : Int)).1), .int .u64 ((kindS Fd (i : Int)).2)]) ?_
       refine wv (.int .i64 0) ?_
       have H19 := HL1.trans E31
       replace B1 := B1.ext E31
       replace B2 := B2.ext E31
       replace B3 := B3.ext E31
       replace B4 := B4.ext E31
       replace B5 := B5.ext E31
       replace B6 := B6.ext E31
       replace B7 := B7.ext E31
       replace B8 := B8.ext E31
       replace B9 := B9.ext E31
       replace B10 := B10.ext E31
       replace B11 := B11.ext E31
       refine wnew #[.int .u64 0, .int .u64 0] Try.zeroValue33 rfl ?_
       intro g12 w41 B12 E32 hg_
       have q_g1_g12 := Nat.ne_of_lt (Nat.lt_of_lt_of_le B1.lt hg_)
       have q_g2_g12 := Nat.ne_of_lt (Nat.lt_of_lt_of_le B2.lt hg_)
       have q_g3_g12 := Nat.ne_of_lt (Nat.lt_of_lt_of_le B3.lt hg_)
       have q_g4_g12 := Nat.ne_of_lt (Nat.lt_of_lt_of_le B4.lt hg_)
       have q_g5_g12 := Nat.ne_of_lt (Nat.lt_of_lt_of_le B5.lt hg_)
       have q_g6_g12 := Nat.ne_of_lt (Nat.lt_of_lt_of_le B6.lt hg_)
       have q_g7_g12 := Nat.ne_of_lt (Nat.lt_of_lt_of_le B7.lt hg_)
       have q_g8_g12 := Nat.ne_of_lt (Nat.lt_of_lt_of_le B8.lt hg_)
       have q_g9_g12 := Nat.ne_of_lt (Nat.lt_of_lt_of_le B9.lt hg_)
       have q_g10_g12 := Nat.ne_of_lt (Nat.lt_of_lt_of_le B10.lt hg_)
       have q_g11_g12 := Nat.ne_of_lt (Nat.lt_of_lt_of_le B11.lt hg_)
       have lo_g12 := Nat.le_trans (H19).size hg_
       refine wput #[.int .u64 ((kindS Fd (i : Int)).1), .int .u64 ((kindS Fd (i : Int)).2)] row_impl_Cells B12 (by rfl) (by rfl) (by kernel_rfl) ?_
       intro w42 B12_ X10
       clear B12; have B12 := B12_; clear B12_
       refine wv (.int .i64 0) ?_
       refine wpList_nil (then_normal ?_)
       refine wp_seq ?_
       refine wsr ?_
       refine wv (.int .i64 0) ?_
       refine wvv (.bool (0 != 0)) (.bool false) (by simp) ?_
       refine wpList_nil (then_normal ?_)
       refine wcf ?_
       refine wp_skip ?_
       refine then_normal ?_
       refine wp_region_lit ?_
       refine wv (.int .i64 km) ?_
       refine wrow row_impl_Cells B12 (by rfl) ?_
       refine wcl (iCount_is ((kindS Fd (i : Int)).1) ((kindS Fd (i : Int)).2) kind_ok (((listL ((kindS Fd (i : Int)).1) ((kindS Fd (i : Int)).2)).length : Int)) rfl _) ?_
       intro w43 E33
       have ll10 := len_le ((kindS Fd (i : Int)).1) ((kindS Fd (i : Int)).2)
       refine wi64 (km + ((listL ((kindS Fd (i : Int)).1) ((kindS Fd (i : Int)).2)).length : Int)) ?_
       refine wv (.int .i64 (km + ((listL ((kindS Fd (i : Int)).1) ((kindS Fd (i : Int)).2)).length : Int))) ?_
       refine wpList_nil (block_normal (then_normal ?_))
       refine wp_region_lit ?_
       refine wv (.int .i64 (i : Int)) ?_
       refine wi64 ((i : Int) + 1) ?_
       refine wv (.int .i64 ((i : Int) + 1)) ?_
       refine wpList_nil (then_normal ?_)
       replace B1 := (X10.blk (B1.ext E32) q_g1_g12).ext E33
       replace B2 := (X10.blk (B2.ext E32) q_g2_g12).ext E33
       replace B3 := (X10.blk (B3.ext E32) q_g3_g12).ext E33
       replace B4 := (X10.blk (B4.ext E32) q_g4_g12).ext E33
       replace B5 := (X10.blk (B5.ext E32) q_g5_g12).ext E33
       replace B6 := (X10.blk (B6.ext E32) q_g6_g12).ext E33
       replace B7 := (X10.blk (B7.ext E32) q_g7_g12).ext E33
       replace B8 := (X10.blk (B8.ext E32) q_g8_g12).ext E33
       replace B9 := (X10.blk (B9.ext E32) q_g9_g12).ext E33
       replace B10 := (X10.blk (B10.ext E32) q_g10_g12).ext E33
       replace B11 := (X10.blk (B11.ext E32) q_g11_g12).ext E33
       have H20 := (X10.ext w lo_g12 (H19.trans E32)).trans E33
       refine ⟨_, ?_, i + 1, km + ((listL ((kindS Fd (i : Int)).1) ((kindS Fd (i : Int)).2)).length : Int), rfl, ?_, ?_, H20, B1, B2, B3, B4, B5, B6, B7, B8, B9, B10, B11, exJ (by kernel_rfl)⟩
       · omega
       · omega
       · rw [knd_s]; omega
     · skip
       have h3d := dF h3
       refine wp_exit ?_
       refine then_exit ?_
       refine then_exit ?_
       refine block_exit ?_
       refine then_normal ?_
       refine wp_seq ?_
       have e4_ : i = 4 := by omega
       rw [e4_] at hkm
       refine wsr ?_
       refine wv (.int .i64 0) ?_
       refine wpList_nil (then_normal ?_)
       refine wp_block ?_
       refine wp_loop_k (fun m2 a wl2 => ∃ (k : Nat) (cm : Int), m2 = 100 - k ∧ k ≤ 100 ∧ cm = (cntF Fd k : Int) ∧ Ext w wl2 ∧ Blk wl2 g1 29 Fd.cells ∧ Blk wl2 g2 33 #[.int .u64 x_, .int .u64 y_] ∧ Blk wl2 g3 33 #[.int .u64 x2_, .int .u64 y2_] ∧ Blk wl2 g4 33 #[.int .u64 (un0 x_ x2_), .int .u64 (un1 y_ y2_)] ∧ Blk wl2 g5 33 #[.int .u64 (bo0 x_ x2_), .int .u64 (bo1 y_ y2_)] ∧ Blk wl2 g6 33 #[.int .u64 (wo0 x_ x2_), .int .u64 (wo1 y_ y2_)] ∧ Blk wl2 g7 2 cs1 ∧ Blk wl2 g8 33 #[.int .u64 x_, .int .u64 y_] ∧ Blk wl2 g9 33 #[.int .u64 ((ringS Fd c_ p1).1), .int .u64 ((ringS Fd c_ p1).2)] ∧ Blk wl2 g10 33 #[.int .u64 ((ringS Fd c_ p1).1), .int .u64 ((ringS Fd c_ p1).2)] ∧ Blk wl2 g11 2 cs2 ∧ (∃ J2 : Nat → Value, a = ⟨#[v, v2, undef, undef, J2 4, .pointer (some ⟨g1, 0, none⟩), .pointer (some ⟨g2, 0, none⟩), .pointer (some ⟨g3, 0, none⟩), .pointer (some ⟨g4, 0, none⟩), .pointer (some ⟨g5, 0, none⟩), .pointer (some ⟨g6, 0, none⟩), .slice (some ⟨g7, 0, none⟩) ((listL x_ y_).length) cap1, .pointer (some ⟨g8, 0, none⟩), .int .i64 0, .int .i64 c_, .int .i64 p1, .int .i64 (near0 Fd c_ x_ y_), .int .i64 (near1 Fd c_ x_ y_), .int .i64 (near2 Fd c_ x_ y_), .int .i64 (near0 Fd c_ x_ y_), .int .i64 (near1 Fd c_ x_ y_), .int .i64 (near2 Fd c_ x_ y_), .int .i64 (rich0 Fd x_ y_), .int .i64 (rich1 Fd x_ y_), .int .i64 (near2 Fd c_ x_ y_), .int .i64 (rich0 Fd x_ y_), .int .i64 (rich1 Fd x_ y_), .int .i64 (near2 Fd c_ x_ y_), .pointer (some ⟨g9, 0, none⟩), .int .i64 0, .pointer (some ⟨g10, 0, none⟩), .int .i64 0, .slice (some ⟨g11, 0, none⟩) ((nbL Fd c_).length) cap2, .int .i64 0, .int .i64 cm, .int .i64 km, .int .i64 (i : Int), J1 37, J1 38, .int .i64 (k : Int), J2 40, J2 41, v, .bool (decide (4096 < (xs.length : Int))), .bool false, v2, .bool (decide (4096 < (ys.length : Int))), .bool (decide (4096 < (ys.length : Int))), v, .agg Fd.cells, v, .agg #[.int .u64 x_, .int .u64 y_], v2, .agg #[.int .u64 x2_, .int .u64 y2_], .agg #[.int .u64 x_, .int .u64 y_], .agg #[.int .u64 x2_, .int .u64 y2_], .agg #[.int .u64 (un0 x_ x2_), .int .u64 (un1 y_ y2_)], .agg #[.int .u64 x_, .int .u64 y_], .agg #[.int .u64 x2_, .int .u64 y2_], .agg #[.int .u64 (bo0 x_ x2_), .int .u64 (bo1 y_ y2_)], .agg #[.int .u64 x_, .int .u64 y_], .agg #[.int .u64 x2_, .int .u64 y2_], .agg #[.int .u64 (wo0 x_ x2_), .int .u64 (wo1 y_ y2_)], .agg #[.int .u64 (un0 x_ x2_), .int .u64 (un1 y_ y2_)], .agg #[.int .u64 x_, .int .u64 y_], .agg #[.int .u64 x2_, .int .u64 y2_], .agg #[.int .u64 (un0 x_ x2_), .int .u64 (un1 y_ y2_)], .bool false, .bool false, .agg #[.int .u64 (bo0 x_ x2_), .int .u64 (bo1 y_ y2_)], .agg #[.int .u64 x_, .int .u64 y_], .agg #[.int .u64 x2_, .int .u64 y2_], .agg #[.int .u64 (bo0 x_ x2_), .int .u64 (bo1 y_ y2_)], .bool false, .bool false, .bool false, .agg #[.int .u64 (wo0 x_ x2_), .int .u64 (wo1 y_ y2_)], .agg #[.int .u64 x_, .int .u64 y_], .agg #[.int .u64 x2_, .int .u64 y2_], .agg #[.int .u64 (wo0 x_ x2_), .int .u64 (wo1 y_ y2_)], .bool false, .bool false, .bool false, .agg #[.int .u64 x_, .int .u64 y_], .int .i64 (((listL (bo0 x_ x2_) (bo1 y_ y2_)).length : Int) + ((listL (wo0 x_ x2_) (wo1 y_ y2_)).length : Int)), .agg #[.int .u64 (bo0 x_ x2_), .int .u64 (bo1 y_ y2_)], .int .i64 ((listL (bo0 x_ x2_) (bo1 y_ y2_)).length : Int), .agg #[.int .u64 (wo0 x_ x2_), .int .u64 (wo1 y_ y2_)], .int .i64 ((listL (wo0 x_ x2_) (wo1 y_ y2_)).length : Int), .int .i64 (((listL (bo0 x_ x2_) (bo1 y_ y2_)).length : Int) + ((listL (wo0 x_ x2_) (wo1 y_ y2_)).length : Int)), .bool false, .bool false, .bool false, .agg #[.int .u64 (un0 x_ x2_), .int .u64 (un1 y_ y2_)], .int .i64 (((listL (wo0 x_ x2_) (wo1 y_ y2_)).length : Int) + ((listL x2_ y2_).length : Int)), .agg #[.int .u64 (wo0 x_ x2_), .int .u64 (wo1 y_ y2_)], .int .i64 ((listL (wo0 x_ x2_) (wo1 y_ y2_)).length : Int), .agg #[.int .u64 x2_, .int .u64 y2_], .int .i64 ((listL x2_ y2_).length : Int), .int .i64 (((listL (wo0 x_ x2_) (wo1 y_ y2_)).length : Int) + ((listL x2_ y2_).length : Int)), .bool false, .bool false, .agg #[.int .u64 x_, .int .u64 y_], .slice (some ⟨g7, 0, none⟩) ((listL x_ y_).length) cap1, .tuple #[.agg #[.int .u64 x_, .int .u64 y_], .int .i64 0], .slice (some ⟨g7, 0, none⟩) ((listL x_ y_).length) cap1, .tuple #[.agg #[.int .u64 x_, .int .u64 y_], .int .i64 0], .agg #[.int .u64 x_, .int .u64 y_], .int .i64 0, .int .i64 0, .bool false, .bool false, .agg #[.int .u64 x_, .int .u64 y_], .agg #[.int .u64 x_, .int .u64 y_], .bool false, .bool false, .bool false, .slice (some ⟨g7, 0, none⟩) ((listL x_ y_).length) cap1, .int .i64 ((listL x_ y_).length : Int), .agg #[.int .u64 x_, .int .u64 y_], .int .i64 ((listL x_ y_).length : Int), .bool false, .bool false, v2, .agg Fd.cells, .int .i64 c_, v, .int .i64 p1, .tuple #[.int .i64 (near0 Fd c_ x_ y_), .int .i64 (near1 Fd c_ x_ y_), .int .i64 (near2 Fd c_ x_ y_)], .agg Fd.cells, .int .i64 c_, .agg #[.int .u64 x_, .int .u64 y_], .tuple #[.int .i64 (near0 Fd c_ x_ y_), .int .i64 (near1 Fd c_ x_ y_), .int .i64 (near2 Fd c_ x_ y_)], .int .i64 (near0 Fd c_ x_ y_), .int .i64 (near1 Fd c_ x_ y_), .int .i64 (near2 Fd c_ x_ y_), .tuple #[.int .i64 (near0 Fd c_ x_ y_), .int .i64 (near1 Fd c_ x_ y_), .int .i64 (near2 Fd c_ x_ y_)], .agg Fd.cells, .int .i64 c_, .agg #[.int .u64 x_, .int .u64 y_], .tuple #[.int .i64 (near0 Fd c_ x_ y_), .int .i64 (near1 Fd c_ x_ y_), .int .i64 (near2 Fd c_ x_ y_)], .int .i64 (near0 Fd c_ x_ y_), .int .i64 (near1 Fd c_ x_ y_), .int .i64 (near2 Fd c_ x_ y_), .tuple #[.int .i64 (rich0 Fd x_ y_), .int .i64 (rich1 Fd x_ y_), .int .i64 (near2 Fd c_ x_ y_)], .agg Fd.cells, .agg #[.int .u64 x_, .int .u64 y_], .tuple #[.int .i64 (rich0 Fd x_ y_), .int .i64 (rich1 Fd x_ y_), .int .i64 (near2 Fd c_ x_ y_)], .int .i64 (rich0 Fd x_ y_), .int .i64 (rich1 Fd x_ y_), .int .i64 (near2 Fd c_ x_ y_), .tuple #[.int .i64 (rich0 Fd x_ y_), .int .i64 (rich1 Fd x_ y_), .int .i64 (near2 Fd c_ x_ y_)], .agg Fd.cells, .agg #[.int .u64 x_, .int .u64 y_], .tuple #[.int .i64 (rich0 Fd x_ y_), .int .i64 (rich1 Fd x_ y_), .int .i64 (near2 Fd c_ x_ y_)], .int .i64 (rich0 Fd x_ y_), .int .i64 (rich1 Fd x_ y_), .int .i64 (near2 Fd c_ x_ y_), .tuple #[.agg #[.int .u64 ((ringS Fd c_ p1).1), .int .u64 ((ringS Fd c_ p1).2)], .int .i64 0], .agg Fd.cells, .int .i64 c_, .int .i64 p1, .tuple #[.agg #[.int .u64 ((ringS Fd c_ p1).1), .int .u64 ((ringS Fd c_ p1).2)], .int .i64 0], .agg #[.int .u64 ((ringS Fd c_ p1).1), .int .u64 ((ringS Fd c_ p1).2)], .int .i64 0, .tuple #[.agg #[.int .u64 ((ringS Fd c_ p1).1), .int .u64 ((ringS Fd c_ p1).2)], .int .i64 0], .agg Fd.cells, .int .i64 c_, .int .i64 p1, .tuple #[.agg #[.int .u64 ((ringS Fd c_ p1).1), .int .u64 ((ringS Fd c_ p1).2)], .int .i64 0], .agg #[.int .u64 ((ringS Fd c_ p1).1), .int .u64 ((ringS Fd c_ p1).2)], .int .i64 0, .tuple #[.slice (some ⟨g11, 0, none⟩) ((nbL Fd c_).length) cap2, .int .i64 0], .agg Fd.cells, .int .i64 c_, .tuple #[.slice (some ⟨g11, 0, none⟩) ((nbL Fd c_).length) cap2, .int .i64 0], .slice (some ⟨g11, 0, none⟩) ((nbL Fd c_).length) cap2, .int .i64 0, .int .i64 (near2 Fd c_ x_ y_), .int .i64 (near2 Fd c_ x_ y_), .bool false, .bool false, .int .i64 (near0 Fd c_ x_ y_), .int .i64 (near0 Fd c_ x_ y_), .bool false, .bool false, .bool false, .int .i64 (near1 Fd c_ x_ y_), .int .i64 (near1 Fd c_ x_ y_), .bool false, .bool false, .bool false, .int .i64 (near2 Fd c_ x_ y_), .int .i64 (near2 Fd c_ x_ y_), .bool false, .bool false, .bool false, .int .i64 (rich0 Fd x_ y_), .int .i64 (rich0 Fd x_ y_), .bool false, .bool false, .bool false, .int .i64 (rich1 Fd x_ y_), .int .i64 (rich1 Fd x_ y_), .bool false, .bool false, .bool false, .int .i64 0, .int .i64 0, .bool false, .bool false, .bool false, .int .i64 0, .bool false, .bool false, .bool false, .agg #[.int .u64 ((ringS Fd c_ p1).1), .int .u64 ((ringS Fd c_ p1).2)], .agg #[.int .u64 ((ringS Fd c_ p1).1), .int .u64 ((ringS Fd c_ p1).2)], .bool false, .bool false, .bool false, .int .i64 0, .bool false, .bool false, .bool false, .int .i64 (near2 Fd c_ x_ y_), .int .i64 (near2 Fd c_ x_ y_), .bool false, .bool false, .int .i64 (i : Int), .bool (decide ((i : Int) < 4)), J1 231, J1 232, J1 233, J1 234, J1 235, J1 236, J1 237, J1 238, J1 239, J1 240, J1 241, J1 242, J1 243, J1 244, J2 245, J2 246, J2 247, J2 248, J2 249, J2 250, J2 251, J2 252, J2 253, J2 254, J2 255, J2 256, J2 257, J2 258, J2 259, J2 260, J2 261, J2 262, J2 263, J2 264, J2 265, J2 266, J2 267, J2 268, J2 269, J2 270, J2 271, J2 272, J2 273, J2 274, J2 275, J2 276, J2 277, J2 278, J2 279, J2 280, J2 281, J2 282, J2 283, J2 284, J2 285, J2 286, J2 287, J2 288, J2 289, J2 290, J2 291, J2 292, J2 293, J2 294, J2 295, J2 296, J2 297, J2 298, J2 299, J2 300, J2 301, J2 302, J2 303, J2 304, J2 305, J2 306, J2 307, J2 308, J2 309, J2 310, J2 311, J2 312, J2 313, J2 314, J2 315, J2 316, J2 317, J2 318, J2 319, J2 320, J2 321, J2 322, J2 323, J2 324, J2 325, J2 326, J2 327, J2 328, J2 329, J2 330, J2 331, J2 332, J2 333, J2 334, undef, undef, undef, undef, undef, undef, undef, undef, undef, undef, undef, undef, undef, undef, undef, undef, undef, undef, undef], []⟩)) (100) ?_ ?_
       · refine ⟨0, 0, rfl, ?_, ?_, HL1, B1, B2, B3, B4, B5, B6, B7, B8, B9, B10, B11, exJ (by kernel_rfl)⟩
         · omega
         · rfl
       intro m2 a wl2 hI
       obtain ⟨k, cm, rfl, hi_, hcm, HL2, B1, B2, B3, B4, B5, B6, B7, B8, B9, B10, B11, J2, rfl⟩ := hI
       have cb_ := cntF_le Fd k
       refine wp_seq ?_
       refine wsr ?_
       refine wv (.int .i64 (k : Int)) ?_
       refine wv (.bool (decide ((k : Int) < 100))) ?_
       refine wpList_nil (then_normal ?_)
       refine wsplit (decide ((k : Int) < 100)) (fun h4 => ?_) (fun h4 => ?_)
       · skip
         have h4d := dT h4
         refine wp_skip ?_
         refine then_normal ?_
         refine wp_seq ?_
         refine wp_block ?_
         refine wp_seq ?_
         refine wsr ?_
         refine wrow row_impl_Cells B2 (by rfl) ?_
         refine wv (.int .i64 (k : Int)) ?_
         refine wcl (iHasCell_any x_ y_ (k : Int) _) ?_
         intro w44 E34
         refine wv (.slice (some ⟨g7, 0, none⟩) ((listL x_ y_).length) cap1) ?_
         refine wv (.int .i64 (k : Int)) ?_
         replace B7 := B7.ext E34
         refine wcl (HasNumber_list x_ y_ g7 cap1 cs1 S1 (k : Int) (by omega) (hasB x_ y_ (k : Int)) rfl _ B7) ?_
         intro w45 E35
         refine wvv (.bool ((hasB x_ y_ (k : Int)) != (hasB x_ y_ (k : Int)))) (.bool false) (congrArg Value.bool (bne_self_eq_false (hasB x_ y_ (k : Int)))) ?_
         refine wpList_nil (then_normal ?_)
         refine wcf ?_
         refine wp_skip ?_
         refine then_normal ?_
         refine wp_seq ?_
         refine wsr ?_
         replace B1 := (B1.ext E34).ext E35
         refine wrow row_impl_Field B1 (by exact Fld.size_cells _) ?_
         refine wv (.int .i64 (k : Int)) ?_
         refine wcl (IsCell_any Fd hF_ (k : Int) _) ?_
         intro w46 E36
         refine wv (.bool (!(isB Fd (k : Int)))) ?_
         refine wpList_nil (then_normal ?_)
         have H21 := ((HL2.trans E34).trans E35).trans E36
         refine wsplit (!(isB Fd (k : Int))) (fun h5 => ?_) (fun h5 => ?_)
         · skip
           replace h5 := nbT h5
           refine wp_seq ?_
           refine wsr ?_
           replace B10 := ((B10.ext E34).ext E35).ext E36
           refine wrow row_impl_Cells B10 (by rfl) ?_
           refine wv (.int .i64 (k : Int)) ?_
           refine wcl (sHas_out Fd hF_ hd_.ok c_ hc_ p1 (by omega) k (by omega) h5 _) ?_
           intro w47 E37
           refine wpList_nil (then_normal ?_)
           refine wcf ?_
           refine wp_skip ?_
           refine then_normal ?_
           refine wp_exit ?_
           refine then_exit ?_
           refine block_exit ?_
           refine then_normal ?_
           refine wp_region_lit ?_
           refine wv (.int .i64 (k : Int)) ?_
           refine wi64 ((k : Int) + 1) ?_
           refine wv (.int .i64 ((k : Int) + 1)) ?_
           refine wpList_nil (then_normal ?_)
           replace B1 := (B1.ext E36).ext E37
           replace B2 := (((B2.ext E34).ext E35).ext E36).ext E37
           replace B3 := (((B3.ext E34).ext E35).ext E36).ext E37
           replace B4 := (((B4.ext E34).ext E35).ext E36).ext E37
           replace B5 := (((B5.ext E34).ext E35).ext E36).ext E37
           replace B6 := (((B6.ext E34).ext E35).ext E36).ext E37
           replace B7 := ((B7.ext E35).ext E36).ext E37
           replace B8 := (((B8.ext E34).ext E35).ext E36).ext E37
           replace B9 := (((B9.ext E34).ext E35).ext E36).ext E37
           replace B10 := B10.ext E37
           replace B11 := (((B11.ext E34).ext E35).ext E36).ext E37
           have H22 := H21.trans E37
           refine ⟨_, ?_, k + 1, cm, rfl, ?_, ?_, H22, B1, B2, B3, B4, B5, B6, B7, B8, B9, B10, B11, exJ (by kernel_rfl)⟩
           · omega
           · omega
           · first | (rw [cntF_t (by assumption)]; omega) | (rw [cntF_f (by assumption)]; omega)
         · skip
           replace h5 := nbF h5
           have h5d := isB_true.1 h5
           refine wp_skip ?_
           refine then_normal ?_
           refine wsr ?_
           replace B1 := B1.ext E36
           refine wrow row_impl_Field B1 (by exact Fld.size_cells _) ?_
           refine wv (.int .i64 c_) ?_
           refine wv (.int .i64 (k : Int)) ?_
           refine wcl (iSquare_is Fd hF_ hd_.ok c_ hc_ (k : Int) h5 _) ?_
           intro w48 E38
           refine wv (.tuple #[.int .i64 (sqr c_ (k : Int)), .int .i64 0]) ?_
           refine wv (.int .i64 (sqr c_ (k : Int))) ?_
           refine wv (.int .i64 0) ?_
           refine wv (.int .i64 (sqr c_ (k : Int))) ?_
           refine wv (.int .i64 0) ?_
           refine wpList_nil (then_normal ?_)
           refine wp_seq ?_
           refine wsr ?_
           refine wv (.int .i64 0) ?_
           refine wvv (.bool (0 != 0)) (.bool false) (by simp) ?_
           refine wv (.bool false) ?_
           replace B10 := (((B10.ext E34).ext E35).ext E36).ext E38
           refine wrow row_impl_Cells B10 (by rfl) ?_
           refine wv (.int .i64 (k : Int)) ?_
           refine wcl (sHas_in Fd hF_ hd_.ok c_ hc_ p1 (by omega) k (by omega) h5 _) ?_
           intro w49 E39
           refine wv (.int .i64 (sqr c_ (k : Int))) ?_
           refine wv (.int .i64 p1) ?_
           refine wv (.bool (decide ((sqr c_ (k : Int)) ≤ p1))) ?_
           refine wvv (.bool ((decide ((sqr c_ (k : Int)) ≤ p1)) != (decide ((sqr c_ (k : Int)) ≤ p1)))) (.bool false) (congrArg Value.bool (bne_self_eq_false (decide ((sqr c_ (k : Int)) ≤ p1)))) ?_
           refine wv (.bool false) ?_
           refine wv (.bool false) ?_
           refine wv (.slice (some ⟨g11, 0, none⟩) ((nbL Fd c_).length) cap2) ?_
           refine wv (.int .i64 (k : Int)) ?_
           replace B11 := ((((B11.ext E34).ext E35).ext E36).ext E38).ext E39
           refine wcl (HasNumber_nb Fd c_ hc_ g11 cap2 cs2 S2 k (by omega) h5 _ B11) ?_
           intro w50 E40
           refine wv (.int .i64 (sqr c_ (k : Int))) ?_
           refine wv (.bool ((sqr c_ (k : Int)) == 1)) ?_
           refine wvv (.bool (((sqr c_ (k : Int)) == 1) != ((sqr c_ (k : Int)) == 1))) (.bool false) (congrArg Value.bool (bne_self_eq_false ((sqr c_ (k : Int)) == 1))) ?_
           refine wv (.bool false) ?_
           refine wpList_nil (then_normal ?_)
           refine wp_frame (a' := ⟨#[v, v2, undef, undef, J2 4, .pointer (some ⟨g1, 0, none⟩), .pointer (some ⟨g2, 0, none⟩), .pointer (some ⟨g3, 0, none⟩), .pointer (some ⟨g4, 0, none⟩), .pointer (some ⟨g5, 0, none⟩), .pointer (some ⟨g6, 0, none⟩), .slice (some ⟨g7, 0, none⟩) ((listL x_ y_).length) cap1, .pointer (some ⟨g8, 0, none⟩), .int .i64 0, .int .i64 c_, .int .i64 p1, .int .i64 (near0 Fd c_ x_ y_), .int .i64 (near1 Fd c_ x_ y_), .int .i64 (near2 Fd c_ x_ y_), .int .i64 (near0 Fd c_ x_ y_), .int .i64 (near1 Fd c_ x_ y_), .int .i64 (near2 Fd c_ x_ y_), .int .i64 (rich0 Fd x_ y_), .int .i64 (rich1 Fd x_ y_), .int .i64 (near2 Fd c_ x_ y_), .int .i64 (rich0 Fd x_ y_), .int .i64 (rich1 Fd x_ y_), .int .i64 (near2 Fd c_ x_ y_), .pointer (some ⟨g9, 0, none⟩), .int .i64 0, .pointer (some ⟨g10, 0, none⟩), .int .i64 0, .slice (some ⟨g11, 0, none⟩) ((nbL Fd c_).length) cap2, .int .i64 0, .int .i64 cm, .int .i64 km, .int .i64 (i : Int), J1 37, J1 38, .int .i64 (k : Int), .int .i64 (sqr c_ (k : Int)), .int .i64 0, v, .bool (decide (4096 < (xs.length : Int))), .bool false, v2, .bool (decide (4096 < (ys.length : Int))), .bool (decide (4096 < (ys.length : Int))), v, .agg Fd.cells, v, .agg #[.int .u64 x_, .int .u64 y_], v2, .agg #[.int .u64 x2_, .int .u64 y2_], .agg #[.int .u64 x_, .int .u64 y_], .agg #[.int .u64 x2_, .int .u64 y2_], .agg #[.int .u64 (un0 x_ x2_), .int .u64 (un1 y_ y2_)], .agg #[.int .u64 x_, .int .u64 y_], .agg #[.int .u64 x2_, .int .u64 y2_], .agg #[.int .u64 (bo0 x_ x2_), .int .u64 (bo1 y_ y2_)], .agg #[.int .u64 x_, .int .u64 y_], .agg #[.int .u64 x2_, .int .u64 y2_], .agg #[.int .u64 (wo0 x_ x2_), .int .u64 (wo1 y_ y2_)], .agg #[.int .u64 (un0 x_ x2_), .int .u64 (un1 y_ y2_)], .agg #[.int .u64 x_, .int .u64 y_], .agg #[.int .u64 x2_, .int .u64 y2_], .agg #[.int .u64 (un0 x_ x2_), .int .u64 (un1 y_ y2_)], .bool false, .bool false, .agg #[.int .u64 (bo0 x_ x2_), .int .u64 (bo1 y_ y2_)], .agg #[.int .u64 x_, .int .u64 y_], .agg #[.int .u64 x2_, .int .u64 y2_], .agg #[.int .u64 (bo0 x_ x2_), .int .u64 (bo1 y_ y2_)], .bool false, .bool false, .bool false, .agg #[.int .u64 (wo0 x_ x2_), .int .u64 (wo1 y_ y2_)], .agg #[.int .u64 x_, .int .u64 y_], .agg #[.int .u64 x2_, .int .u64 y2_], .agg #[.int .u64 (wo0 x_ x2_), .int .u64 (wo1 y_ y2_)], .bool false, .bool false, .bool false, .agg #[.int .u64 x_, .int .u64 y_], .int .i64 (((listL (bo0 x_ x2_) (bo1 y_ y2_)).length : Int) + ((listL (wo0 x_ x2_) (wo1 y_ y2_)).length : Int)), .agg #[.int .u64 (bo0 x_ x2_), .int .u64 (bo1 y_ y2_)], .int .i64 ((listL (bo0 x_ x2_) (bo1 y_ y2_)).length : Int), .agg #[.int .u64 (wo0 x_ x2_), .int .u64 (wo1 y_ y2_)], .int .i64 ((listL (wo0 x_ x2_) (wo1 y_ y2_)).length : Int), .int .i64 (((listL (bo0 x_ x2_) (bo1 y_ y2_)).length : Int) + ((listL (wo0 x_ x2_) (wo1 y_ y2_)).length : Int)), .bool false, .bool false, .bool false, .agg #[.int .u64 (un0 x_ x2_), .int .u64 (un1 y_ y2_)], .int .i64 (((listL (wo0 x_ x2_) (wo1 y_ y2_)).length : Int) + ((listL x2_ y2_).length : Int)), .agg #[.int .u64 (wo0 x_ x2_), .int .u64 (wo1 y_ y2_)], .int .i64 ((listL (wo0 x_ x2_) (wo1 y_ y2_)).length : Int), .agg #[.int .u64 x2_, .int .u64 y2_], .int .i64 ((listL x2_ y2_).length : Int), .int .i64 (((listL (wo0 x_ x2_) (wo1 y_ y2_)).length : Int) + ((listL x2_ y2_).length : Int)), .bool false, .bool false, .agg #[.int .u64 x_, .int .u64 y_], .slice (some ⟨g7, 0, none⟩) ((listL x_ y_).length) cap1, .tuple #[.agg #[.int .u64 x_, .int .u64 y_], .int .i64 0], .slice (some ⟨g7, 0, none⟩) ((listL x_ y_).length) cap1, .tuple #[.agg #[.int .u64 x_, .int .u64 y_], .int .i64 0], .agg #[.int .u64 x_, .int .u64 y_], .int .i64 0, .int .i64 0, .bool false, .bool false, .agg #[.int .u64 x_, .int .u64 y_], .agg #[.int .u64 x_, .int .u64 y_], .bool false, .bool false, .bool false, .slice (some ⟨g7, 0, none⟩) ((listL x_ y_).length) cap1, .int .i64 ((listL x_ y_).length : Int), .agg #[.int .u64 x_, .int .u64 y_], .int .i64 ((listL x_ y_).length : Int), .bool false, .bool false, v2, .agg Fd.cells, .int .i64 c_, v, .int .i64 p1, .tuple #[.int .i64 (near0 Fd c_ x_ y_), .int .i64 (near1 Fd c_ x_ y_), .int .i64 (near2 Fd c_ x_ y_)], .agg Fd.cells, .int .i64 c_, .agg #[.int .u64 x_, .int .u64 y_], .tuple #[.int .i64 (near0 Fd c_ x_ y_), .int .i64 (near1 Fd c_ x_ y_), .int .i64 (near2 Fd c_ x_ y_)], .int .i64 (near0 Fd c_ x_ y_), .int .i64 (near1 Fd c_ x_ y_), .int .i64 (near2 Fd c_ x_ y_), .tuple #[.int .i64 (near0 Fd c_ x_ y_), .int .i64 (near1 Fd c_ x_ y_), .int .i64 (near2 Fd c_ x_ y_)], .agg Fd.cells, .int .i64 c_, .agg #[.int .u64 x_, .int .u64 y_], .tuple #[.int .i64 (near0 Fd c_ x_ y_), .int .i64 (near1 Fd c_ x_ y_), .int .i64 (near2 Fd c_ x_ y_)], .int .i64 (near0 Fd c_ x_ y_), .int .i64 (near1 Fd c_ x_ y_), .int .i64 (near2 Fd c_ x_ y_), .tuple #[.int .i64 (rich0 Fd x_ y_), .int .i64 (rich1 Fd x_ y_), .int .i64 (near2 Fd c_ x_ y_)], .agg Fd.cells, .agg #[.int .u64 x_, .int .u64 y_], .tuple #[.int .i64 (rich0 Fd x_ y_), .int .i64 (rich1 Fd x_ y_), .int .i64 (near2 Fd c_ x_ y_)], .int .i64 (rich0 Fd x_ y_), .int .i64 (rich1 Fd x_ y_), .int .i64 (near2 Fd c_ x_ y_), .tuple #[.int .i64 (rich0 Fd x_ y_), .int .i64 (rich1 Fd x_ y_), .int .i64 (near2 Fd c_ x_ y_)], .agg Fd.cells, .agg #[.int .u64 x_, .int .u64 y_], .tuple #[.int .i64 (rich0 Fd x_ y_), .int .i64 (rich1 Fd x_ y_), .int .i64 (near2 Fd c_ x_ y_)], .int .i64 (rich0 Fd x_ y_), .int .i64 (rich1 Fd x_ y_), .int .i64 (near2 Fd c_ x_ y_), .tuple #[.agg #[.int .u64 ((ringS Fd c_ p1).1), .int .u64 ((ringS Fd c_ p1).2)], .int .i64 0], .agg Fd.cells, .int .i64 c_, .int .i64 p1, .tuple #[.agg #[.int .u64 ((ringS Fd c_ p1).1), .int .u64 ((ringS Fd c_ p1).2)], .int .i64 0], .agg #[.int .u64 ((ringS Fd c_ p1).1), .int .u64 ((ringS Fd c_ p1).2)], .int .i64 0, .tuple #[.agg #[.int .u64 ((ringS Fd c_ p1).1), .int .u64 ((ringS Fd c_ p1).2)], .int .i64 0], .agg Fd.cells, .int .i64 c_, .int .i64 p1, .tuple #[.agg #[.int .u64 ((ringS Fd c_ p1).1), .int .u64 ((ringS Fd c_ p1).2)], .int .i64 0], .agg #[.int .u64 ((ringS Fd c_ p1).1), .int .u64 ((ringS Fd c_ p1).2)], .int .i64 0, .tuple #[.slice (some ⟨g11, 0, none⟩) ((nbL Fd c_).length) cap2, .int .i64 0], .agg Fd.cells, .int .i64 c_, .tuple #[.slice (some ⟨g11, 0, none⟩) ((nbL Fd c_).length) cap2, .int .i64 0], .slice (some ⟨g11, 0, none⟩) ((nbL Fd c_).length) cap2, .int .i64 0, .int .i64 (near2 Fd c_ x_ y_), .int .i64 (near2 Fd c_ x_ y_), .bool false, .bool false, .int .i64 (near0 Fd c_ x_ y_), .int .i64 (near0 Fd c_ x_ y_), .bool false, .bool false, .bool false, .int .i64 (near1 Fd c_ x_ y_), .int .i64 (near1 Fd c_ x_ y_), .bool false, .bool false, .bool false, .int .i64 (near2 Fd c_ x_ y_), .int .i64 (near2 Fd c_ x_ y_), .bool false, .bool false, .bool false, .int .i64 (rich0 Fd x_ y_), .int .i64 (rich0 Fd x_ y_), .bool false, .bool false, .bool false, .int .i64 (rich1 Fd x_ y_), .int .i64 (rich1 Fd x_ y_), .bool false, .bool false, .bool false, .int .i64 0, .int .i64 0, .bool false, .bool false, .bool false, .int .i64 0, .bool false, .bool false, .bool false, .agg #[.int .u64 ((ringS Fd c_ p1).1), .int .u64 ((ringS Fd c_ p1).2)], .agg #[.int .u64 ((ringS Fd c_ p1).1), .int .u64 ((ringS Fd c_ p1).2)], .bool false, .bool false, .bool false, .int .i64 0, .bool false, .bool false, .bool false, .int .i64 (near2 Fd c_ x_ y_), .int .i64 (near2 Fd c_ x_ y_), .bool false, .bool false, .int .i64 (i : Int), .bool (decide ((i : Int) < 4)), J1 231, J1 232, J1 233, J1 234, J1 235, J1 236, J1 237, J1 238, J1 239, J1 240, J1 241, J1 242, J1 243, J1 244, .int .i64 (k : Int), .bool (decide ((k : Int) < 100)), J2 247, J2 248, .agg #[.int .u64 x_, .int .u64 y_], .int .i64 (k : Int), .bool (hasB x_ y_ (k : Int)), .slice (some ⟨g7, 0, none⟩) ((listL x_ y_).length) cap1, .int .i64 (k : Int), .bool (hasB x_ y_ (k : Int)), .bool false, .agg Fd.cells, .int .i64 (k : Int), .bool (isB Fd (k : Int)), .bool (!(isB Fd (k : Int))), J2 260, J2 261, J2 262, .tuple #[.int .i64 (sqr c_ (k : Int)), .int .i64 0], .agg Fd.cells, .int .i64 c_, .int .i64 (k : Int), .tuple #[.int .i64 (sqr c_ (k : Int)), .int .i64 0], .int .i64 (sqr c_ (k : Int)), .int .i64 0, .int .i64 0, .bool false, .bool false, .agg #[.int .u64 ((ringS Fd c_ p1).1), .int .u64 ((ringS Fd c_ p1).2)], .int .i64 (k : Int), .bool (decide ((sqr c_ (k : Int)) ≤ p1)), .int .i64 (sqr c_ (k : Int)), .int .i64 p1, .bool (decide ((sqr c_ (k : Int)) ≤ p1)), .bool false, .bool false, .bool false, .slice (some ⟨g11, 0, none⟩) ((nbL Fd c_).length) cap2, .int .i64 (k : Int), .bool ((sqr c_ (k : Int)) == 1), .int .i64 (sqr c_ (k : Int)), .bool ((sqr c_ (k : Int)) == 1), .bool false, .bool false, J2 289, J2 290, J2 291, J2 292, J2 293, J2 294, J2 295, J2 296, J2 297, J2 298, J2 299, J2 300, J2 301, J2 302, J2 303, J2 304, J2 305, J2 306, J2 307, J2 308, J2 309, J2 310, J2 311, J2 312, J2 313, J2 314, J2 315, J2 316, J2 317, J2 318, J2 319, J2 320, J2 321, J2 322, J2 323, J2 324, J2 325, J2 326, J2 327, J2 328, J2 329, J2 330, J2 331, J2 332, J2 333, J2 334, undef, undef, undef, undef, undef, undef, undef, undef, undef, undef, undef, undef, undef, undef, undef, undef, undef, undef, undef], []⟩) (by kernel_rfl) ?_
           refine wcf ?_
           refine wp_skip ?_
           refine then_normal ?_
           refine wsr ?_
           refine wv (.int .i64 cm) ?_
           refine wi64 (cm + 1) ?_
           refine wv (.int .i64 (cm + 1)) ?_
           refine wpList_nil (then_normal ?_)
           refine wp_seq ?_
           refine wsr ?_
           refine wv (.slice (some ⟨g7, 0, none⟩) ((listL x_ y_).length) cap1) ?_
           refine wv (.int .i64 (k : Int)) ?_
           replace B7 := ((((B7.ext E35).ext E36).ext E38).ext E39).ext E40
           refine wcl (HasNumber_list x_ y_ g7 cap1 cs1 S1 (k : Int) (by omega) (hasB x_ y_ (k : Int)) rfl _ B7) ?_
           intro w51 E41
           refine wv (.bool (!(hasB x_ y_ (k : Int)))) ?_
           refine wpList_nil (then_normal ?_)
           have H23 := (((H21.trans E38).trans E39).trans E40).trans E41
           refine wsplit (!(hasB x_ y_ (k : Int))) (fun h6 => ?_) (fun h6 => ?_)
           · skip
             replace h6 := nbT h6
             refine wp_exit ?_
             refine then_exit ?_
             refine block_exit ?_
             refine then_normal ?_
             refine wp_region_lit ?_
             refine wv (.int .i64 (k : Int)) ?_
             refine wi64 ((k : Int) + 1) ?_
             refine wv (.int .i64 ((k : Int) + 1)) ?_
             refine wpList_nil (then_normal ?_)
             replace B1 := (((B1.ext E38).ext E39).ext E40).ext E41
             replace B2 := ((((((B2.ext E34).ext E35).ext E36).ext E38).ext E39).ext E40).ext E41
             replace B3 := ((((((B3.ext E34).ext E35).ext E36).ext E38).ext E39).ext E40).ext E41
             replace B4 := ((((((B4.ext E34).ext E35).ext E36).ext E38).ext E39).ext E40).ext E41
             replace B5 := ((((((B5.ext E34).ext E35).ext E36).ext E38).ext E39).ext E40).ext E41
             replace B6 := ((((((B6.ext E34).ext E35).ext E36).ext E38).ext E39).ext E40).ext E41
             replace B7 := B7.ext E41
             replace B8 := ((((((B8.ext E34).ext E35).ext E36).ext E38).ext E39).ext E40).ext E41
             replace B9 := ((((((B9.ext E34).ext E35).ext E36).ext E38).ext E39).ext E40).ext E41
             replace B10 := ((B10.ext E39).ext E40).ext E41
             replace B11 := (B11.ext E40).ext E41
             refine ⟨_, ?_, k + 1, cm + 1, rfl, ?_, ?_, H23, B1, B2, B3, B4, B5, B6, B7, B8, B9, B10, B11, exJ (by kernel_rfl)⟩
             · omega
             · omega
             · first | (rw [cntF_t (by assumption)]; omega) | (rw [cntF_f (by assumption)]; omega)
           · skip
             replace h6 := nbF h6
             obtain ⟨na1_, na2_, na3_, na4_, na5_⟩ := near_all (F := Fd) (c := c_) (x := x_) (y := y_) hd_.ok hc_ (d := k) (by omega) h5 h6
             have cel_ := ok_cell hd_.ok k (by omega)
             refine wp_skip ?_
             refine then_normal ?_
             refine wsr ?_
             refine wv (.int .i64 (near2 Fd c_ x_ y_)) ?_
             refine wv (.bool ((near2 Fd c_ x_ y_) != 0)) ?_
             refine wv (.bool ((near2 Fd c_ x_ y_) != 0)) ?_
             refine split_bool ((near2 Fd c_ x_ y_) != 0) (fun h7 => ?_) (fun h7 => ?_)
             · skip
               refine wbl 297 true h7 ?_
               have h7d := nT h7
               exact absurd na1_ h7d
             · skip
               refine wbl 297 false h7 ?_
               have h7d := nF h7
               refine wv (.int .i64 (sqr c_ (k : Int))) ?_
               refine wv (.int .i64 (near1 Fd c_ x_ y_)) ?_
               refine wv (.bool (decide ((sqr c_ (k : Int)) < near1 Fd c_ x_ y_))) ?_
               refine wv (.bool (decide ((sqr c_ (k : Int)) < near1 Fd c_ x_ y_))) ?_
               refine wv (.bool (decide ((sqr c_ (k : Int)) < near1 Fd c_ x_ y_))) ?_
               refine split_bool (decide ((sqr c_ (k : Int)) < near1 Fd c_ x_ y_)) (fun h8 => ?_) (fun h8 => ?_)
               · skip
                 refine wbl 302 true h8 ?_
                 have h8d := dT h8
                 exact absurd h8d (Int.not_lt.2 na2_)
               · skip
                 refine wbl 302 false h8 ?_
                 have h8d := dF h8
                 refine wv (.int .i64 (sqr c_ (k : Int))) ?_
                 refine wv (.int .i64 (near1 Fd c_ x_ y_)) ?_
                 refine wv (.bool ((sqr c_ (k : Int)) == (near1 Fd c_ x_ y_))) ?_
                 refine wv (.bool ((sqr c_ (k : Int)) == (near1 Fd c_ x_ y_))) ?_
                 refine split_bool ((sqr c_ (k : Int)) == (near1 Fd c_ x_ y_)) (fun h9 => ?_) (fun h9 => ?_)
                 · skip
                   refine wbl 306 true h9 ?_
                   have h9d := eT h9
                   refine wv (.int .i64 (k : Int)) ?_
                   refine wv (.int .i64 (near0 Fd c_ x_ y_)) ?_
                   refine wv (.bool (decide ((k : Int) < near0 Fd c_ x_ y_))) ?_
                   refine wv (.bool (decide ((k : Int) < near0 Fd c_ x_ y_))) ?_
                   refine wv (.bool (decide ((k : Int) < near0 Fd c_ x_ y_))) ?_
                   refine wv (.bool (decide ((k : Int) < near0 Fd c_ x_ y_))) ?_
                   refine split_bool (decide ((k : Int) < near0 Fd c_ x_ y_)) (fun h10 => ?_) (fun h10 => ?_)
                   · skip
                     refine wbl 312 true h10 ?_
                     have h10d := dT h10
                     exact absurd h10d (Int.not_lt.2 (na3_ (eT h9)))
                   · skip
                     refine wbl 312 false h10 ?_
                     have h10d := dF h10
                     refine wv (.int .i64 (k : Int)) ?_
                     refine wv (.pointer (some ⟨g1, 102, none⟩)) ?_
                     refine wixn g1 102 k .i64 arrt__100_int16 ?_
                     replace B1 := (((B1.ext E38).ext E39).ext E40).ext E41
                     refine wld g1 (102 + k) scal_int16 (B1.get (Fld.gets _ _ (by omega))) ?_
                     refine wi64 (Fd.s k) ?_
                     refine wv (.int .i64 (rich1 Fd x_ y_)) ?_
                     refine wv (.bool (decide ((rich1 Fd x_ y_) < Fd.s k))) ?_
                     refine wv (.bool (decide ((rich1 Fd x_ y_) < Fd.s k))) ?_
                     refine wv (.bool (decide ((rich1 Fd x_ y_) < Fd.s k))) ?_
                     refine split_bool (decide ((rich1 Fd x_ y_) < Fd.s k)) (fun h11 => ?_) (fun h11 => ?_)
                     · skip
                       refine wbl 321 true h11 ?_
                       have h11d := dT h11
                       exact absurd h11d (Int.not_lt.2 na4_)
                     · skip
                       refine wbl 321 false h11 ?_
                       have h11d := dF h11
                       refine wv (.int .i64 (k : Int)) ?_
                       refine wv (.pointer (some ⟨g1, 102, none⟩)) ?_
                       refine wixn g1 102 k .i64 arrt__100_int16 ?_
                       refine wld g1 (102 + k) scal_int16 (B1.get (Fld.gets _ _ (by omega))) ?_
                       refine wi64 (Fd.s k) ?_
                       refine wv (.int .i64 (rich1 Fd x_ y_)) ?_
                       refine wv (.bool ((Fd.s k) == (rich1 Fd x_ y_))) ?_
                       refine wpl_frame (a' := ⟨#[v, v2, undef, undef, J2 4, .pointer (some ⟨g1, 0, none⟩), .pointer (some ⟨g2, 0, none⟩), .pointer (some ⟨g3, 0, none⟩), .pointer (some ⟨g4, 0, none⟩), .pointer (some ⟨g5, 0, none⟩), .pointer (some ⟨g6, 0, none⟩), .slice (some ⟨g7, 0, none⟩) ((listL x_ y_).length) cap1, .pointer (some ⟨g8, 0, none⟩), .int .i64 0, .int .i64 c_, .int .i64 p1, .int .i64 (near0 Fd c_ x_ y_), .int .i64 (near1 Fd c_ x_ y_), .int .i64 (near2 Fd c_ x_ y_), .int .i64 (near0 Fd c_ x_ y_), .int .i64 (near1 Fd c_ x_ y_), .int .i64 (near2 Fd c_ x_ y_), .int .i64 (rich0 Fd x_ y_), .int .i64 (rich1 Fd x_ y_), .int .i64 (near2 Fd c_ x_ y_), .int .i64 (rich0 Fd x_ y_), .int .i64 (rich1 Fd x_ y_), .int .i64 (near2 Fd c_ x_ y_), .pointer (some ⟨g9, 0, none⟩), .int .i64 0, .pointer (some ⟨g10, 0, none⟩), .int .i64 0, .slice (some ⟨g11, 0, none⟩) ((nbL Fd c_).length) cap2, .int .i64 0, .int .i64 (cm + 1), .int .i64 km, .int .i64 (i : Int), J1 37, J1 38, .int .i64 (k : Int), .int .i64 (sqr c_ (k : Int)), .int .i64 0, v, .bool (decide (4096 < (xs.length : Int))), .bool false, v2, .bool (decide (4096 < (ys.length : Int))), .bool (decide (4096 < (ys.length : Int))), v, .agg Fd.cells, v, .agg #[.int .u64 x_, .int .u64 y_], v2, .agg #[.int .u64 x2_, .int .u64 y2_], .agg #[.int .u64 x_, .int .u64 y_], .agg #[.int .u64 x2_, .int .u64 y2_], .agg #[.int .u64 (un0 x_ x2_), .int .u64 (un1 y_ y2_)], .agg #[.int .u64 x_, .int .u64 y_], .agg #[.int .u64 x2_, .int .u64 y2_], .agg #[.int .u64 (bo0 x_ x2_), .int .u64 (bo1 y_ y2_)], .agg #[.int .u64 x_, .int .u64 y_], .agg #[.int .u64 x2_, .int .u64 y2_], .agg #[.int .u64 (wo0 x_ x2_), .int .u64 (wo1 y_ y2_)], .agg #[.int .u64 (un0 x_ x2_), .int .u64 (un1 y_ y2_)], .agg #[.int .u64 x_, .int .u64 y_], .agg #[.int .u64 x2_, .int .u64 y2_], .agg #[.int .u64 (un0 x_ x2_), .int .u64 (un1 y_ y2_)], .bool false, .bool false, .agg #[.int .u64 (bo0 x_ x2_), .int .u64 (bo1 y_ y2_)], .agg #[.int .u64 x_, .int .u64 y_], .agg #[.int .u64 x2_, .int .u64 y2_], .agg #[.int .u64 (bo0 x_ x2_), .int .u64 (bo1 y_ y2_)], .bool false, .bool false, .bool false, .agg #[.int .u64 (wo0 x_ x2_), .int .u64 (wo1 y_ y2_)], .agg #[.int .u64 x_, .int .u64 y_], .agg #[.int .u64 x2_, .int .u64 y2_], .agg #[.int .u64 (wo0 x_ x2_), .int .u64 (wo1 y_ y2_)], .bool false, .bool false, .bool false, .agg #[.int .u64 x_, .int .u64 y_], .int .i64 (((listL (bo0 x_ x2_) (bo1 y_ y2_)).length : Int) + ((listL (wo0 x_ x2_) (wo1 y_ y2_)).length : Int)), .agg #[.int .u64 (bo0 x_ x2_), .int .u64 (bo1 y_ y2_)], .int .i64 ((listL (bo0 x_ x2_) (bo1 y_ y2_)).length : Int), .agg #[.int .u64 (wo0 x_ x2_), .int .u64 (wo1 y_ y2_)], .int .i64 ((listL (wo0 x_ x2_) (wo1 y_ y2_)).length : Int), .int .i64 (((listL (bo0 x_ x2_) (bo1 y_ y2_)).length : Int) + ((listL (wo0 x_ x2_) (wo1 y_ y2_)).length : Int)), .bool false, .bool false, .bool false, .agg #[.int .u64 (un0 x_ x2_), .int .u64 (un1 y_ y2_)], .int .i64 (((listL (wo0 x_ x2_) (wo1 y_ y2_)).length : Int) + ((listL x2_ y2_).length : Int)), .agg #[.int .u64 (wo0 x_ x2_), .int .u64 (wo1 y_ y2_)], .int .i64 ((listL (wo0 x_ x2_) (wo1 y_ y2_)).length : Int), .agg #[.int .u64 x2_, .int .u64 y2_], .int .i64 ((listL x2_ y2_).length : Int), .int .i64 (((listL (wo0 x_ x2_) (wo1 y_ y2_)).length : Int) + ((listL x2_ y2_).length : Int)), .bool false, .bool false, .agg #[.int .u64 x_, .int .u64 y_], .slice (some ⟨g7, 0, none⟩) ((listL x_ y_).length) cap1, .tuple #[.agg #[.int .u64 x_, .int .u64 y_], .int .i64 0], .slice (some ⟨g7, 0, none⟩) ((listL x_ y_).length) cap1, .tuple #[.agg #[.int .u64 x_, .int .u64 y_], .int .i64 0], .agg #[.int .u64 x_, .int .u64 y_], .int .i64 0, .int .i64 0, .bool false, .bool false, .agg #[.int .u64 x_, .int .u64 y_], .agg #[.int .u64 x_, .int .u64 y_], .bool false, .bool false, .bool false, .slice (some ⟨g7, 0, none⟩) ((listL x_ y_).length) cap1, .int .i64 ((listL x_ y_).length : Int), .agg #[.int .u64 x_, .int .u64 y_], .int .i64 ((listL x_ y_).length : Int), .bool false, .bool false, v2, .agg Fd.cells, .int .i64 c_, v, .int .i64 p1, .tuple #[.int .i64 (near0 Fd c_ x_ y_), .int .i64 (near1 Fd c_ x_ y_), .int .i64 (near2 Fd c_ x_ y_)], .agg Fd.cells, .int .i64 c_, .agg #[.int .u64 x_, .int .u64 y_], .tuple #[.int .i64 (near0 Fd c_ x_ y_), .int .i64 (near1 Fd c_ x_ y_), .int .i64 (near2 Fd c_ x_ y_)], .int .i64 (near0 Fd c_ x_ y_), .int .i64 (near1 Fd c_ x_ y_), .int .i64 (near2 Fd c_ x_ y_), .tuple #[.int .i64 (near0 Fd c_ x_ y_), .int .i64 (near1 Fd c_ x_ y_), .int .i64 (near2 Fd c_ x_ y_)], .agg Fd.cells, .int .i64 c_, .agg #[.int .u64 x_, .int .u64 y_], .tuple #[.int .i64 (near0 Fd c_ x_ y_), .int .i64 (near1 Fd c_ x_ y_), .int .i64 (near2 Fd c_ x_ y_)], .int .i64 (near0 Fd c_ x_ y_), .int .i64 (near1 Fd c_ x_ y_), .int .i64 (near2 Fd c_ x_ y_), .tuple #[.int .i64 (rich0 Fd x_ y_), .int .i64 (rich1 Fd x_ y_), .int .i64 (near2 Fd c_ x_ y_)], .agg Fd.cells, .agg #[.int .u64 x_, .int .u64 y_], .tuple #[.int .i64 (rich0 Fd x_ y_), .int .i64 (rich1 Fd x_ y_), .int .i64 (near2 Fd c_ x_ y_)], .int .i64 (rich0 Fd x_ y_), .int .i64 (rich1 Fd x_ y_), .int .i64 (near2 Fd c_ x_ y_), .tuple #[.int .i64 (rich0 Fd x_ y_), .int .i64 (rich1 Fd x_ y_), .int .i64 (near2 Fd c_ x_ y_)], .agg Fd.cells, .agg #[.int .u64 x_, .int .u64 y_], .tuple #[.int .i64 (rich0 Fd x_ y_), .int .i64 (rich1 Fd x_ y_), .int .i64 (near2 Fd c_ x_ y_)], .int .i64 (rich0 Fd x_ y_), .int .i64 (rich1 Fd x_ y_), .int .i64 (near2 Fd c_ x_ y_), .tuple #[.agg #[.int .u64 ((ringS Fd c_ p1).1), .int .u64 ((ringS Fd c_ p1).2)], .int .i64 0], .agg Fd.cells, .int .i64 c_, .int .i64 p1, .tuple #[.agg #[.int .u64 ((ringS Fd c_ p1).1), .int .u64 ((ringS Fd c_ p1).2)], .int .i64 0], .agg #[.int .u64 ((ringS Fd c_ p1).1), .int .u64 ((ringS Fd c_ p1).2)], .int .i64 0, .tuple #[.agg #[.int .u64 ((ringS Fd c_ p1).1), .int .u64 ((ringS Fd c_ p1).2)], .int .i64 0], .agg Fd.cells, .int .i64 c_, .int .i64 p1, .tuple #[.agg #[.int .u64 ((ringS Fd c_ p1).1), .int .u64 ((ringS Fd c_ p1).2)], .int .i64 0], .agg #[.int .u64 ((ringS Fd c_ p1).1), .int .u64 ((ringS Fd c_ p1).2)], .int .i64 0, .tuple #[.slice (some ⟨g11, 0, none⟩) ((nbL Fd c_).length) cap2, .int .i64 0], .agg Fd.cells, .int .i64 c_, .tuple #[.slice (some ⟨g11, 0, none⟩) ((nbL Fd c_).length) cap2, .int .i64 0], .slice (some ⟨g11, 0, none⟩) ((nbL Fd c_).length) cap2, .int .i64 0, .int .i64 (near2 Fd c_ x_ y_), .int .i64 (near2 Fd c_ x_ y_), .bool false, .bool false, .int .i64 (near0 Fd c_ x_ y_), .int .i64 (near0 Fd c_ x_ y_), .bool false, .bool false, .bool false, .int .i64 (near1 Fd c_ x_ y_), .int .i64 (near1 Fd c_ x_ y_), .bool false, .bool false, .bool false, .int .i64 (near2 Fd c_ x_ y_), .int .i64 (near2 Fd c_ x_ y_), .bool false, .bool false, .bool false, .int .i64 (rich0 Fd x_ y_), .int .i64 (rich0 Fd x_ y_), .bool false, .bool false, .bool false, .int .i64 (rich1 Fd x_ y_), .int .i64 (rich1 Fd x_ y_), .bool false, .bool false, .bool false, .int .i64 0, .int .i64 0, .bool false, .bool false, .bool false, .int .i64 0, .bool false, .bool false, .bool false, .agg #[.int .u64 ((ringS Fd c_ p1).1), .int .u64 ((ringS Fd c_ p1).2)], .agg #[.int .u64 ((ringS Fd c_ p1).1), .int .u64 ((ringS Fd c_ p1).2)], .bool false, .bool false, .bool false, .int .i64 0, .bool false, .bool false, .bool false, .int .i64 (near2 Fd c_ x_ y_), .int .i64 (near2 Fd c_ x_ y_), .bool false, .bool false, .int .i64 (i : Int), .bool (decide ((i : Int) < 4)), J1 231, J1 232, J1 233, J1 234, J1 235, J1 236, J1 237, J1 238, J1 239, J1 240, J1 241, J1 242, J1 243, J1 244, .int .i64 (k : Int), .bool (decide ((k : Int) < 100)), J2 247, J2 248, .agg #[.int .u64 x_, .int .u64 y_], .int .i64 (k : Int), .bool (hasB x_ y_ (k : Int)), .slice (some ⟨g7, 0, none⟩) ((listL x_ y_).length) cap1, .int .i64 (k : Int), .bool (hasB x_ y_ (k : Int)), .bool false, .agg Fd.cells, .int .i64 (k : Int), .bool (isB Fd (k : Int)), .bool (!(isB Fd (k : Int))), J2 260, J2 261, J2 262, .tuple #[.int .i64 (sqr c_ (k : Int)), .int .i64 0], .agg Fd.cells, .int .i64 c_, .int .i64 (k : Int), .tuple #[.int .i64 (sqr c_ (k : Int)), .int .i64 0], .int .i64 (sqr c_ (k : Int)), .int .i64 0, .int .i64 0, .bool false, .bool false, .agg #[.int .u64 ((ringS Fd c_ p1).1), .int .u64 ((ringS Fd c_ p1).2)], .int .i64 (k : Int), .bool (decide ((sqr c_ (k : Int)) ≤ p1)), .int .i64 (sqr c_ (k : Int)), .int .i64 p1, .bool (decide ((sqr c_ (k : Int)) ≤ p1)), .bool false, .bool false, .bool false, .slice (some ⟨g11, 0, none⟩) ((nbL Fd c_).length) cap2, .int .i64 (k : Int), .bool ((sqr c_ (k : Int)) == 1), .int .i64 (sqr c_ (k : Int)), .bool ((sqr c_ (k : Int)) == 1), .bool false, .bool false, .int .i64 cm, .int .i64 (cm + 1), .slice (some ⟨g7, 0, none⟩) ((listL x_ y_).length) cap1, .int .i64 (k : Int), .bool (hasB x_ y_ (k : Int)), .bool (!(hasB x_ y_ (k : Int))), .int .i64 (near2 Fd c_ x_ y_), .bool ((near2 Fd c_ x_ y_) != 0), .bool false, .int .i64 (sqr c_ (k : Int)), .int .i64 (near1 Fd c_ x_ y_), .bool (decide ((sqr c_ (k : Int)) < near1 Fd c_ x_ y_)), .bool (decide ((sqr c_ (k : Int)) < near1 Fd c_ x_ y_)), .bool false, .int .i64 (sqr c_ (k : Int)), .int .i64 (near1 Fd c_ x_ y_), .bool ((sqr c_ (k : Int)) == (near1 Fd c_ x_ y_)), .bool true, .int .i64 (k : Int), .int .i64 (near0 Fd c_ x_ y_), .bool (decide ((k : Int) < near0 Fd c_ x_ y_)), .bool (decide ((k : Int) < near0 Fd c_ x_ y_)), .bool (decide ((k : Int) < near0 Fd c_ x_ y_)), .bool false, .int .i64 (k : Int), .pointer (some ⟨g1, 102, none⟩), .pointer (some ⟨g1, 102 + k, none⟩), .int .i16 (Fd.s k), .int .i64 (Fd.s k), .int .i64 (rich1 Fd x_ y_), .bool (decide ((rich1 Fd x_ y_) < Fd.s k)), .bool (decide ((rich1 Fd x_ y_) < Fd.s k)), .bool false, .int .i64 (k : Int), .pointer (some ⟨g1, 102, none⟩), .pointer (some ⟨g1, 102 + k, none⟩), .int .i16 (Fd.s k), .int .i64 (Fd.s k), .int .i64 (rich1 Fd x_ y_), .bool ((Fd.s k) == (rich1 Fd x_ y_)), J2 329, J2 330, J2 331, J2 332, J2 333, J2 334, undef, undef, undef, undef, undef, undef, undef, undef, undef, undef, undef, undef, undef, undef, undef, undef, undef, undef, undef], []⟩) (by kernel_rfl) ?_
                       refine wv (.bool ((Fd.s k) == (rich1 Fd x_ y_))) ?_
                       refine split_bool ((Fd.s k) == (rich1 Fd x_ y_)) (fun h12 => ?_) (fun h12 => ?_)
                       · skip
                         refine wbl 329 true h12 ?_
                         have h12d := eT h12
                         refine wv (.int .i64 (k : Int)) ?_
                         refine wv (.int .i64 (rich0 Fd x_ y_)) ?_
                         refine wv (.bool (decide ((k : Int) < rich0 Fd x_ y_))) ?_
                         refine wv (.bool (decide ((k : Int) < rich0 Fd x_ y_))) ?_
                         refine wv (.bool (decide ((k : Int) < rich0 Fd x_ y_))) ?_
                         refine wpList_nil (then_normal ?_)
                         refine wsplit (decide ((k : Int) < rich0 Fd x_ y_)) (fun h13 => ?_) (fun h13 => ?_)
                         · skip
                           have h13d := dT h13
                           exact absurd h13d (Int.not_lt.2 (na5_ (eT h12)))
                         · skip
                           have h13d := dF h13
                           refine wp_skip ?_
                           refine block_normal (then_normal ?_)
                           refine wp_region_lit ?_
                           refine wv (.int .i64 (k : Int)) ?_
                           refine wi64 ((k : Int) + 1) ?_
                           refine wv (.int .i64 ((k : Int) + 1)) ?_
                           refine wpList_nil (then_normal ?_)
                           replace B2 := ((((((B2.ext E34).ext E35).ext E36).ext E38).ext E39).ext E40).ext E41
                           replace B3 := ((((((B3.ext E34).ext E35).ext E36).ext E38).ext E39).ext E40).ext E41
                           replace B4 := ((((((B4.ext E34).ext E35).ext E36).ext E38).ext E39).ext E40).ext E41
                           replace B5 := ((((((B5.ext E34).ext E35).ext E36).ext E38).ext E39).ext E40).ext E41
                           replace B6 := ((((((B6.ext E34).ext E35).ext E36).ext E38).ext E39).ext E40).ext E41
                           replace B7 := B7.ext E41
                           replace B8 := ((((((B8.ext E34).ext E35).ext E36).ext E38).ext E39).ext E40).ext E41
                           replace B9 := ((((((B9.ext E34).ext E35).ext E36).ext E38).ext E39).ext E40).ext E41
                           replace B10 := ((B10.ext E39).ext E40).ext E41
                           replace B11 := (B11.ext E40).ext E41
                           refine ⟨_, ?_, k + 1, cm + 1, rfl, ?_, ?_, H23, B1, B2, B3, B4, B5, B6, B7, B8, B9, B10, B11, exJ (by kernel_rfl)⟩
                           · omega
                           · omega
                           · first | (rw [cntF_t (by assumption)]; omega) | (rw [cntF_f (by assumption)]; omega)
                       · skip
                         refine wbl 329 false h12 ?_
                         have h12d := eF h12
                         refine wsk ?_
                         refine wsk ?_
                         refine wsk ?_
                         refine wv (.bool false) ?_
                         refine wv (.bool false) ?_
                         refine wpList_nil (then_normal ?_)
                         refine wcf ?_
                         refine wp_skip ?_
                         refine block_normal (then_normal ?_)
                         refine wp_region_lit ?_
                         refine wv (.int .i64 (k : Int)) ?_
                         refine wi64 ((k : Int) + 1) ?_
                         refine wv (.int .i64 ((k : Int) + 1)) ?_
                         refine wpList_nil (then_normal ?_)
                         replace B2 := ((((((B2.ext E34).ext E35).ext E36).ext E38).ext E39).ext E40).ext E41
                         replace B3 := ((((((B3.ext E34).ext E35).ext E36).ext E38).ext E39).ext E40).ext E41
                         replace B4 := ((((((B4.ext E34).ext E35).ext E36).ext E38).ext E39).ext E40).ext E41
                         replace B5 := ((((((B5.ext E34).ext E35).ext E36).ext E38).ext E39).ext E40).ext E41
                         replace B6 := ((((((B6.ext E34).ext E35).ext E36).ext E38).ext E39).ext E40).ext E41
                         replace B7 := B7.ext E41
                         replace B8 := ((((((B8.ext E34).ext E35).ext E36).ext E38).ext E39).ext E40).ext E41
                         replace B9 := ((((((B9.ext E34).ext E35).ext E36).ext E38).ext E39).ext E40).ext E41
                         replace B10 := ((B10.ext E39).ext E40).ext E41
                         replace B11 := (B11.ext E40).ext E41
                         refine ⟨_, ?_, k + 1, cm + 1, rfl, ?_, ?_, H23, B1, B2, B3, B4, B5, B6, B7, B8, B9, B10, B11, exJ (by kernel_rfl)⟩
                         · omega
                         · omega
                         · first | (rw [cntF_t (by assumption)]; omega) | (rw [cntF_f (by assumption)]; omega)
                 · skip
                   refine wbl 306 false h9 ?_
                   have h9d := eF h9
                   refine wsk ?_
                   refine wsk ?_
                   refine wsk ?_
                   refine wv (.bool false) ?_
                   refine wv (.bool false) ?_
                   refine wv (.bool false) ?_
                   refine wv (.int .i64 (k : Int)) ?_
                   refine wv (.pointer (some ⟨g1, 102, none⟩)) ?_
                   refine wixn g1 102 k .i64 arrt__100_int16 ?_
                   replace B1 := (((B1.ext E38).ext E39).ext E40).ext E41
                   refine wld g1 (102 + k) scal_int16 (B1.get (Fld.gets _ _ (by omega))) ?_
                   refine wi64 (Fd.s k) ?_
                   refine wv (.int .i64 (rich1 Fd x_ y_)) ?_
                   refine wv (.bool (decide ((rich1 Fd x_ y_) < Fd.s k))) ?_
                   refine wv (.bool (decide ((rich1 Fd x_ y_) < Fd.s k))) ?_
                   refine wv (.bool (decide ((rich1 Fd x_ y_) < Fd.s k))) ?_
                   refine split_bool (decide ((rich1 Fd x_ y_) < Fd.s k)) (fun h14 => ?_) (fun h14 => ?_)
                   · skip
                     refine wbl 321 true h14 ?_
                     have h14d := dT h14
                     exact absurd h14d (Int.not_lt.2 na4_)
                   · skip
                     refine wbl 321 false h14 ?_
                     have h14d := dF h14
                     refine wv (.int .i64 (k : Int)) ?_
                     refine wv (.pointer (some ⟨g1, 102, none⟩)) ?_
                     refine wixn g1 102 k .i64 arrt__100_int16 ?_
                     refine wld g1 (102 + k) scal_int16 (B1.get (Fld.gets _ _ (by omega))) ?_
                     refine wi64 (Fd.s k) ?_
                     refine wv (.int .i64 (rich1 Fd x_ y_)) ?_
                     refine wv (.bool ((Fd.s k) == (rich1 Fd x_ y_))) ?_
                     refine wv (.bool ((Fd.s k) == (rich1 Fd x_ y_))) ?_
                     refine split_bool ((Fd.s k) == (rich1 Fd x_ y_)) (fun h15 => ?_) (fun h15 => ?_)
                     · skip
                       refine wbl 329 true h15 ?_
                       have h15d := eT h15
                       refine wpl_frame (a' := ⟨#[v, v2, undef, undef, J2 4, .pointer (some ⟨g1, 0, none⟩), .pointer (some ⟨g2, 0, none⟩), .pointer (some ⟨g3, 0, none⟩), .pointer (some ⟨g4, 0, none⟩), .pointer (some ⟨g5, 0, none⟩), .pointer (some ⟨g6, 0, none⟩), .slice (some ⟨g7, 0, none⟩) ((listL x_ y_).length) cap1, .pointer (some ⟨g8, 0, none⟩), .int .i64 0, .int .i64 c_, .int .i64 p1, .int .i64 (near0 Fd c_ x_ y_), .int .i64 (near1 Fd c_ x_ y_), .int .i64 (near2 Fd c_ x_ y_), .int .i64 (near0 Fd c_ x_ y_), .int .i64 (near1 Fd c_ x_ y_), .int .i64 (near2 Fd c_ x_ y_), .int .i64 (rich0 Fd x_ y_), .int .i64 (rich1 Fd x_ y_), .int .i64 (near2 Fd c_ x_ y_), .int .i64 (rich0 Fd x_ y_), .int .i64 (rich1 Fd x_ y_), .int .i64 (near2 Fd c_ x_ y_), .pointer (some ⟨g9, 0, none⟩), .int .i64 0, .pointer (some ⟨g10, 0, none⟩), .int .i64 0, .slice (some ⟨g11, 0, none⟩) ((nbL Fd c_).length) cap2, .int .i64 0, .int .i64 (cm + 1), .int .i64 km, .int .i64 (i : Int), J1 37, J1 38, .int .i64 (k : Int), .int .i64 (sqr c_ (k : Int)), .int .i64 0, v, .bool (decide (4096 < (xs.length : Int))), .bool false, v2, .bool (decide (4096 < (ys.length : Int))), .bool (decide (4096 < (ys.length : Int))), v, .agg Fd.cells, v, .agg #[.int .u64 x_, .int .u64 y_], v2, .agg #[.int .u64 x2_, .int .u64 y2_], .agg #[.int .u64 x_, .int .u64 y_], .agg #[.int .u64 x2_, .int .u64 y2_], .agg #[.int .u64 (un0 x_ x2_), .int .u64 (un1 y_ y2_)], .agg #[.int .u64 x_, .int .u64 y_], .agg #[.int .u64 x2_, .int .u64 y2_], .agg #[.int .u64 (bo0 x_ x2_), .int .u64 (bo1 y_ y2_)], .agg #[.int .u64 x_, .int .u64 y_], .agg #[.int .u64 x2_, .int .u64 y2_], .agg #[.int .u64 (wo0 x_ x2_), .int .u64 (wo1 y_ y2_)], .agg #[.int .u64 (un0 x_ x2_), .int .u64 (un1 y_ y2_)], .agg #[.int .u64 x_, .int .u64 y_], .agg #[.int .u64 x2_, .int .u64 y2_], .agg #[.int .u64 (un0 x_ x2_), .int .u64 (un1 y_ y2_)], .bool false, .bool false, .agg #[.int .u64 (bo0 x_ x2_), .int .u64 (bo1 y_ y2_)], .agg #[.int .u64 x_, .int .u64 y_], .agg #[.int .u64 x2_, .int .u64 y2_], .agg #[.int .u64 (bo0 x_ x2_), .int .u64 (bo1 y_ y2_)], .bool false, .bool false, .bool false, .agg #[.int .u64 (wo0 x_ x2_), .int .u64 (wo1 y_ y2_)], .agg #[.int .u64 x_, .int .u64 y_], .agg #[.int .u64 x2_, .int .u64 y2_], .agg #[.int .u64 (wo0 x_ x2_), .int .u64 (wo1 y_ y2_)], .bool false, .bool false, .bool false, .agg #[.int .u64 x_, .int .u64 y_], .int .i64 (((listL (bo0 x_ x2_) (bo1 y_ y2_)).length : Int) + ((listL (wo0 x_ x2_) (wo1 y_ y2_)).length : Int)), .agg #[.int .u64 (bo0 x_ x2_), .int .u64 (bo1 y_ y2_)], .int .i64 ((listL (bo0 x_ x2_) (bo1 y_ y2_)).length : Int), .agg #[.int .u64 (wo0 x_ x2_), .int .u64 (wo1 y_ y2_)], .int .i64 ((listL (wo0 x_ x2_) (wo1 y_ y2_)).length : Int), .int .i64 (((listL (bo0 x_ x2_) (bo1 y_ y2_)).length : Int) + ((listL (wo0 x_ x2_) (wo1 y_ y2_)).length : Int)), .bool false, .bool false, .bool false, .agg #[.int .u64 (un0 x_ x2_), .int .u64 (un1 y_ y2_)], .int .i64 (((listL (wo0 x_ x2_) (wo1 y_ y2_)).length : Int) + ((listL x2_ y2_).length : Int)), .agg #[.int .u64 (wo0 x_ x2_), .int .u64 (wo1 y_ y2_)], .int .i64 ((listL (wo0 x_ x2_) (wo1 y_ y2_)).length : Int), .agg #[.int .u64 x2_, .int .u64 y2_], .int .i64 ((listL x2_ y2_).length : Int), .int .i64 (((listL (wo0 x_ x2_) (wo1 y_ y2_)).length : Int) + ((listL x2_ y2_).length : Int)), .bool false, .bool false, .agg #[.int .u64 x_, .int .u64 y_], .slice (some ⟨g7, 0, none⟩) ((listL x_ y_).length) cap1, .tuple #[.agg #[.int .u64 x_, .int .u64 y_], .int .i64 0], .slice (some ⟨g7, 0, none⟩) ((listL x_ y_).length) cap1, .tuple #[.agg #[.int .u64 x_, .int .u64 y_], .int .i64 0], .agg #[.int .u64 x_, .int .u64 y_], .int .i64 0, .int .i64 0, .bool false, .bool false, .agg #[.int .u64 x_, .int .u64 y_], .agg #[.int .u64 x_, .int .u64 y_], .bool false, .bool false, .bool false, .slice (some ⟨g7, 0, none⟩) ((listL x_ y_).length) cap1, .int .i64 ((listL x_ y_).length : Int), .agg #[.int .u64 x_, .int .u64 y_], .int .i64 ((listL x_ y_).length : Int), .bool false, .bool false, v2, .agg Fd.cells, .int .i64 c_, v, .int .i64 p1, .tuple #[.int .i64 (near0 Fd c_ x_ y_), .int .i64 (near1 Fd c_ x_ y_), .int .i64 (near2 Fd c_ x_ y_)], .agg Fd.cells, .int .i64 c_, .agg #[.int .u64 x_, .int .u64 y_], .tuple #[.int .i64 (near0 Fd c_ x_ y_), .int .i64 (near1 Fd c_ x_ y_), .int .i64 (near2 Fd c_ x_ y_)], .int .i64 (near0 Fd c_ x_ y_), .int .i64 (near1 Fd c_ x_ y_), .int .i64 (near2 Fd c_ x_ y_), .tuple #[.int .i64 (near0 Fd c_ x_ y_), .int .i64 (near1 Fd c_ x_ y_), .int .i64 (near2 Fd c_ x_ y_)], .agg Fd.cells, .int .i64 c_, .agg #[.int .u64 x_, .int .u64 y_], .tuple #[.int .i64 (near0 Fd c_ x_ y_), .int .i64 (near1 Fd c_ x_ y_), .int .i64 (near2 Fd c_ x_ y_)], .int .i64 (near0 Fd c_ x_ y_), .int .i64 (near1 Fd c_ x_ y_), .int .i64 (near2 Fd c_ x_ y_), .tuple #[.int .i64 (rich0 Fd x_ y_), .int .i64 (rich1 Fd x_ y_), .int .i64 (near2 Fd c_ x_ y_)], .agg Fd.cells, .agg #[.int .u64 x_, .int .u64 y_], .tuple #[.int .i64 (rich0 Fd x_ y_), .int .i64 (rich1 Fd x_ y_), .int .i64 (near2 Fd c_ x_ y_)], .int .i64 (rich0 Fd x_ y_), .int .i64 (rich1 Fd x_ y_), .int .i64 (near2 Fd c_ x_ y_), .tuple #[.int .i64 (rich0 Fd x_ y_), .int .i64 (rich1 Fd x_ y_), .int .i64 (near2 Fd c_ x_ y_)], .agg Fd.cells, .agg #[.int .u64 x_, .int .u64 y_], .tuple #[.int .i64 (rich0 Fd x_ y_), .int .i64 (rich1 Fd x_ y_), .int .i64 (near2 Fd c_ x_ y_)], .int .i64 (rich0 Fd x_ y_), .int .i64 (rich1 Fd x_ y_), .int .i64 (near2 Fd c_ x_ y_), .tuple #[.agg #[.int .u64 ((ringS Fd c_ p1).1), .int .u64 ((ringS Fd c_ p1).2)], .int .i64 0], .agg Fd.cells, .int .i64 c_, .int .i64 p1, .tuple #[.agg #[.int .u64 ((ringS Fd c_ p1).1), .int .u64 ((ringS Fd c_ p1).2)], .int .i64 0], .agg #[.int .u64 ((ringS Fd c_ p1).1), .int .u64 ((ringS Fd c_ p1).2)], .int .i64 0, .tuple #[.agg #[.int .u64 ((ringS Fd c_ p1).1), .int .u64 ((ringS Fd c_ p1).2)], .int .i64 0], .agg Fd.cells, .int .i64 c_, .int .i64 p1, .tuple #[.agg #[.int .u64 ((ringS Fd c_ p1).1), .int .u64 ((ringS Fd c_ p1).2)], .int .i64 0], .agg #[.int .u64 ((ringS Fd c_ p1).1), .int .u64 ((ringS Fd c_ p1).2)], .int .i64 0, .tuple #[.slice (some ⟨g11, 0, none⟩) ((nbL Fd c_).length) cap2, .int .i64 0], .agg Fd.cells, .int .i64 c_, .tuple #[.slice (some ⟨g11, 0, none⟩) ((nbL Fd c_).length) cap2, .int .i64 0], .slice (some ⟨g11, 0, none⟩) ((nbL Fd c_).length) cap2, .int .i64 0, .int .i64 (near2 Fd c_ x_ y_), .int .i64 (near2 Fd c_ x_ y_), .bool false, .bool false, .int .i64 (near0 Fd c_ x_ y_), .int .i64 (near0 Fd c_ x_ y_), .bool false, .bool false, .bool false, .int .i64 (near1 Fd c_ x_ y_), .int .i64 (near1 Fd c_ x_ y_), .bool false, .bool false, .bool false, .int .i64 (near2 Fd c_ x_ y_), .int .i64 (near2 Fd c_ x_ y_), .bool false, .bool false, .bool false, .int .i64 (rich0 Fd x_ y_), .int .i64 (rich0 Fd x_ y_), .bool false, .bool false, .bool false, .int .i64 (rich1 Fd x_ y_), .int .i64 (rich1 Fd x_ y_), .bool false, .bool false, .bool false, .int .i64 0, .int .i64 0, .bool false, .bool false, .bool false, .int .i64 0, .bool false, .bool false, .bool false, .agg #[.int .u64 ((ringS Fd c_ p1).1), .int .u64 ((ringS Fd c_ p1).2)], .agg #[.int .u64 ((ringS Fd c_ p1).1), .int .u64 ((ringS Fd c_ p1).2)], .bool false, .bool false, .bool false, .int .i64 0, .bool false, .bool false, .bool false, .int .i64 (near2 Fd c_ x_ y_), .int .i64 (near2 Fd c_ x_ y_), .bool false, .bool false, .int .i64 (i : Int), .bool (decide ((i : Int) < 4)), J1 231, J1 232, J1 233, J1 234, J1 235, J1 236, J1 237, J1 238, J1 239, J1 240, J1 241, J1 242, J1 243, J1 244, .int .i64 (k : Int), .bool (decide ((k : Int) < 100)), J2 247, J2 248, .agg #[.int .u64 x_, .int .u64 y_], .int .i64 (k : Int), .bool (hasB x_ y_ (k : Int)), .slice (some ⟨g7, 0, none⟩) ((listL x_ y_).length) cap1, .int .i64 (k : Int), .bool (hasB x_ y_ (k : Int)), .bool false, .agg Fd.cells, .int .i64 (k : Int), .bool (isB Fd (k : Int)), .bool (!(isB Fd (k : Int))), J2 260, J2 261, J2 262, .tuple #[.int .i64 (sqr c_ (k : Int)), .int .i64 0], .agg Fd.cells, .int .i64 c_, .int .i64 (k : Int), .tuple #[.int .i64 (sqr c_ (k : Int)), .int .i64 0], .int .i64 (sqr c_ (k : Int)), .int .i64 0, .int .i64 0, .bool false, .bool false, .agg #[.int .u64 ((ringS Fd c_ p1).1), .int .u64 ((ringS Fd c_ p1).2)], .int .i64 (k : Int), .bool (decide ((sqr c_ (k : Int)) ≤ p1)), .int .i64 (sqr c_ (k : Int)), .int .i64 p1, .bool (decide ((sqr c_ (k : Int)) ≤ p1)), .bool false, .bool false, .bool false, .slice (some ⟨g11, 0, none⟩) ((nbL Fd c_).length) cap2, .int .i64 (k : Int), .bool ((sqr c_ (k : Int)) == 1), .int .i64 (sqr c_ (k : Int)), .bool ((sqr c_ (k : Int)) == 1), .bool false, .bool false, .int .i64 cm, .int .i64 (cm + 1), .slice (some ⟨g7, 0, none⟩) ((listL x_ y_).length) cap1, .int .i64 (k : Int), .bool (hasB x_ y_ (k : Int)), .bool (!(hasB x_ y_ (k : Int))), .int .i64 (near2 Fd c_ x_ y_), .bool ((near2 Fd c_ x_ y_) != 0), .bool false, .int .i64 (sqr c_ (k : Int)), .int .i64 (near1 Fd c_ x_ y_), .bool (decide ((sqr c_ (k : Int)) < near1 Fd c_ x_ y_)), .bool (decide ((sqr c_ (k : Int)) < near1 Fd c_ x_ y_)), .bool false, .int .i64 (sqr c_ (k : Int)), .int .i64 (near1 Fd c_ x_ y_), .bool ((sqr c_ (k : Int)) == (near1 Fd c_ x_ y_)), .bool false, undef, undef, undef, .bool false, .bool false, .bool false, .int .i64 (k : Int), .pointer (some ⟨g1, 102, none⟩), .pointer (some ⟨g1, 102 + k, none⟩), .int .i16 (Fd.s k), .int .i64 (Fd.s k), .int .i64 (rich1 Fd x_ y_), .bool (decide ((rich1 Fd x_ y_) < Fd.s k)), .bool (decide ((rich1 Fd x_ y_) < Fd.s k)), .bool false, .int .i64 (k : Int), .pointer (some ⟨g1, 102, none⟩), .pointer (some ⟨g1, 102 + k, none⟩), .int .i16 (Fd.s k), .int .i64 (Fd.s k), .int .i64 (rich1 Fd x_ y_), .bool ((Fd.s k) == (rich1 Fd x_ y_)), .bool true, J2 330, J2 331, J2 332, J2 333, J2 334, undef, undef, undef, undef, undef, undef, undef, undef, undef, undef, undef, undef, undef, undef, undef, undef, undef, undef, undef], []⟩) (by kernel_rfl) ?_
                       refine wv (.int .i64 (k : Int)) ?_
                       refine wv (.int .i64 (rich0 Fd x_ y_)) ?_
                       refine wv (.bool (decide ((k : Int) < rich0 Fd x_ y_))) ?_
                       refine wv (.bool (decide ((k : Int) < rich0 Fd x_ y_))) ?_
                       refine wv (.bool (decide ((k : Int) < rich0 Fd x_ y_))) ?_
                       refine wpList_nil (then_normal ?_)
                       refine wsplit (decide ((k : Int) < rich0 Fd x_ y_)) (fun h16 => ?_) (fun h16 => ?_)
                       · skip
                         have h16d := dT h16
                         exact absurd h16d (Int.not_lt.2 (na5_ (eT h15)))
                       · skip
                         have h16d := dF h16
                         refine wp_skip ?_
                         refine block_normal (then_normal ?_)
                         refine wp_region_lit ?_
                         refine wv (.int .i64 (k : Int)) ?_
                         refine wi64 ((k : Int) + 1) ?_
                         refine wv (.int .i64 ((k : Int) + 1)) ?_
                         refine wpList_nil (then_normal ?_)
                         replace B2 := ((((((B2.ext E34).ext E35).ext E36).ext E38).ext E39).ext E40).ext E41
                         replace B3 := ((((((B3.ext E34).ext E35).ext E36).ext E38).ext E39).ext E40).ext E41
                         replace B4 := ((((((B4.ext E34).ext E35).ext E36).ext E38).ext E39).ext E40).ext E41
                         replace B5 := ((((((B5.ext E34).ext E35).ext E36).ext E38).ext E39).ext E40).ext E41
                         replace B6 := ((((((B6.ext E34).ext E35).ext E36).ext E38).ext E39).ext E40).ext E41
                         replace B7 := B7.ext E41
                         replace B8 := ((((((B8.ext E34).ext E35).ext E36).ext E38).ext E39).ext E40).ext E41
                         replace B9 := ((((((B9.ext E34).ext E35).ext E36).ext E38).ext E39).ext E40).ext E41
                         replace B10 := ((B10.ext E39).ext E40).ext E41
                         replace B11 := (B11.ext E40).ext E41
                         refine ⟨_, ?_, k + 1, cm + 1, rfl, ?_, ?_, H23, B1, B2, B3, B4, B5, B6, B7, B8, B9, B10, B11, exJ (by kernel_rfl)⟩
                         · omega
                         · omega
                         · first | (rw [cntF_t (by assumption)]; omega) | (rw [cntF_f (by assumption)]; omega)
                     · skip
                       refine wbl 329 false h15 ?_
                       have h15d := eF h15
                       refine wsk ?_
                       refine wsk ?_
                       refine wsk ?_
                       refine wpl_frame (a' := ⟨#[v, v2, undef, undef, J2 4, .pointer (some ⟨g1, 0, none⟩), .pointer (some ⟨g2, 0, none⟩), .pointer (some ⟨g3, 0, none⟩), .pointer (some ⟨g4, 0, none⟩), .pointer (some ⟨g5, 0, none⟩), .pointer (some ⟨g6, 0, none⟩), .slice (some ⟨g7, 0, none⟩) ((listL x_ y_).length) cap1, .pointer (some ⟨g8, 0, none⟩), .int .i64 0, .int .i64 c_, .int .i64 p1, .int .i64 (near0 Fd c_ x_ y_), .int .i64 (near1 Fd c_ x_ y_), .int .i64 (near2 Fd c_ x_ y_), .int .i64 (near0 Fd c_ x_ y_), .int .i64 (near1 Fd c_ x_ y_), .int .i64 (near2 Fd c_ x_ y_), .int .i64 (rich0 Fd x_ y_), .int .i64 (rich1 Fd x_ y_), .int .i64 (near2 Fd c_ x_ y_), .int .i64 (rich0 Fd x_ y_), .int .i64 (rich1 Fd x_ y_), .int .i64 (near2 Fd c_ x_ y_), .pointer (some ⟨g9, 0, none⟩), .int .i64 0, .pointer (some ⟨g10, 0, none⟩), .int .i64 0, .slice (some ⟨g11, 0, none⟩) ((nbL Fd c_).length) cap2, .int .i64 0, .int .i64 (cm + 1), .int .i64 km, .int .i64 (i : Int), J1 37, J1 38, .int .i64 (k : Int), .int .i64 (sqr c_ (k : Int)), .int .i64 0, v, .bool (decide (4096 < (xs.length : Int))), .bool false, v2, .bool (decide (4096 < (ys.length : Int))), .bool (decide (4096 < (ys.length : Int))), v, .agg Fd.cells, v, .agg #[.int .u64 x_, .int .u64 y_], v2, .agg #[.int .u64 x2_, .int .u64 y2_], .agg #[.int .u64 x_, .int .u64 y_], .agg #[.int .u64 x2_, .int .u64 y2_], .agg #[.int .u64 (un0 x_ x2_), .int .u64 (un1 y_ y2_)], .agg #[.int .u64 x_, .int .u64 y_], .agg #[.int .u64 x2_, .int .u64 y2_], .agg #[.int .u64 (bo0 x_ x2_), .int .u64 (bo1 y_ y2_)], .agg #[.int .u64 x_, .int .u64 y_], .agg #[.int .u64 x2_, .int .u64 y2_], .agg #[.int .u64 (wo0 x_ x2_), .int .u64 (wo1 y_ y2_)], .agg #[.int .u64 (un0 x_ x2_), .int .u64 (un1 y_ y2_)], .agg #[.int .u64 x_, .int .u64 y_], .agg #[.int .u64 x2_, .int .u64 y2_], .agg #[.int .u64 (un0 x_ x2_), .int .u64 (un1 y_ y2_)], .bool false, .bool false, .agg #[.int .u64 (bo0 x_ x2_), .int .u64 (bo1 y_ y2_)], .agg #[.int .u64 x_, .int .u64 y_], .agg #[.int .u64 x2_, .int .u64 y2_], .agg #[.int .u64 (bo0 x_ x2_), .int .u64 (bo1 y_ y2_)], .bool false, .bool false, .bool false, .agg #[.int .u64 (wo0 x_ x2_), .int .u64 (wo1 y_ y2_)], .agg #[.int .u64 x_, .int .u64 y_], .agg #[.int .u64 x2_, .int .u64 y2_], .agg #[.int .u64 (wo0 x_ x2_), .int .u64 (wo1 y_ y2_)], .bool false, .bool false, .bool false, .agg #[.int .u64 x_, .int .u64 y_], .int .i64 (((listL (bo0 x_ x2_) (bo1 y_ y2_)).length : Int) + ((listL (wo0 x_ x2_) (wo1 y_ y2_)).length : Int)), .agg #[.int .u64 (bo0 x_ x2_), .int .u64 (bo1 y_ y2_)], .int .i64 ((listL (bo0 x_ x2_) (bo1 y_ y2_)).length : Int), .agg #[.int .u64 (wo0 x_ x2_), .int .u64 (wo1 y_ y2_)], .int .i64 ((listL (wo0 x_ x2_) (wo1 y_ y2_)).length : Int), .int .i64 (((listL (bo0 x_ x2_) (bo1 y_ y2_)).length : Int) + ((listL (wo0 x_ x2_) (wo1 y_ y2_)).length : Int)), .bool false, .bool false, .bool false, .agg #[.int .u64 (un0 x_ x2_), .int .u64 (un1 y_ y2_)], .int .i64 (((listL (wo0 x_ x2_) (wo1 y_ y2_)).length : Int) + ((listL x2_ y2_).length : Int)), .agg #[.int .u64 (wo0 x_ x2_), .int .u64 (wo1 y_ y2_)], .int .i64 ((listL (wo0 x_ x2_) (wo1 y_ y2_)).length : Int), .agg #[.int .u64 x2_, .int .u64 y2_], .int .i64 ((listL x2_ y2_).length : Int), .int .i64 (((listL (wo0 x_ x2_) (wo1 y_ y2_)).length : Int) + ((listL x2_ y2_).length : Int)), .bool false, .bool false, .agg #[.int .u64 x_, .int .u64 y_], .slice (some ⟨g7, 0, none⟩) ((listL x_ y_).length) cap1, .tuple #[.agg #[.int .u64 x_, .int .u64 y_], .int .i64 0], .slice (some ⟨g7, 0, none⟩) ((listL x_ y_).length) cap1, .tuple #[.agg #[.int .u64 x_, .int .u64 y_], .int .i64 0], .agg #[.int .u64 x_, .int .u64 y_], .int .i64 0, .int .i64 0, .bool false, .bool false, .agg #[.int .u64 x_, .int .u64 y_], .agg #[.int .u64 x_, .int .u64 y_], .bool false, .bool false, .bool false, .slice (some ⟨g7, 0, none⟩) ((listL x_ y_).length) cap1, .int .i64 ((listL x_ y_).length : Int), .agg #[.int .u64 x_, .int .u64 y_], .int .i64 ((listL x_ y_).length : Int), .bool false, .bool false, v2, .agg Fd.cells, .int .i64 c_, v, .int .i64 p1, .tuple #[.int .i64 (near0 Fd c_ x_ y_), .int .i64 (near1 Fd c_ x_ y_), .int .i64 (near2 Fd c_ x_ y_)], .agg Fd.cells, .int .i64 c_, .agg #[.int .u64 x_, .int .u64 y_], .tuple #[.int .i64 (near0 Fd c_ x_ y_), .int .i64 (near1 Fd c_ x_ y_), .int .i64 (near2 Fd c_ x_ y_)], .int .i64 (near0 Fd c_ x_ y_), .int .i64 (near1 Fd c_ x_ y_), .int .i64 (near2 Fd c_ x_ y_), .tuple #[.int .i64 (near0 Fd c_ x_ y_), .int .i64 (near1 Fd c_ x_ y_), .int .i64 (near2 Fd c_ x_ y_)], .agg Fd.cells, .int .i64 c_, .agg #[.int .u64 x_, .int .u64 y_], .tuple #[.int .i64 (near0 Fd c_ x_ y_), .int .i64 (near1 Fd c_ x_ y_), .int .i64 (near2 Fd c_ x_ y_)], .int .i64 (near0 Fd c_ x_ y_), .int .i64 (near1 Fd c_ x_ y_), .int .i64 (near2 Fd c_ x_ y_), .tuple #[.int .i64 (rich0 Fd x_ y_), .int .i64 (rich1 Fd x_ y_), .int .i64 (near2 Fd c_ x_ y_)], .agg Fd.cells, .agg #[.int .u64 x_, .int .u64 y_], .tuple #[.int .i64 (rich0 Fd x_ y_), .int .i64 (rich1 Fd x_ y_), .int .i64 (near2 Fd c_ x_ y_)], .int .i64 (rich0 Fd x_ y_), .int .i64 (rich1 Fd x_ y_), .int .i64 (near2 Fd c_ x_ y_), .tuple #[.int .i64 (rich0 Fd x_ y_), .int .i64 (rich1 Fd x_ y_), .int .i64 (near2 Fd c_ x_ y_)], .agg Fd.cells, .agg #[.int .u64 x_, .int .u64 y_], .tuple #[.int .i64 (rich0 Fd x_ y_), .int .i64 (rich1 Fd x_ y_), .int .i64 (near2 Fd c_ x_ y_)], .int .i64 (rich0 Fd x_ y_), .int .i64 (rich1 Fd x_ y_), .int .i64 (near2 Fd c_ x_ y_), .tuple #[.agg #[.int .u64 ((ringS Fd c_ p1).1), .int .u64 ((ringS Fd c_ p1).2)], .int .i64 0], .agg Fd.cells, .int .i64 c_, .int .i64 p1, .tuple #[.agg #[.int .u64 ((ringS Fd c_ p1).1), .int .u64 ((ringS Fd c_ p1).2)], .int .i64 0], .agg #[.int .u64 ((ringS Fd c_ p1).1), .int .u64 ((ringS Fd c_ p1).2)], .int .i64 0, .tuple #[.agg #[.int .u64 ((ringS Fd c_ p1).1), .int .u64 ((ringS Fd c_ p1).2)], .int .i64 0], .agg Fd.cells, .int .i64 c_, .int .i64 p1, .tuple #[.agg #[.int .u64 ((ringS Fd c_ p1).1), .int .u64 ((ringS Fd c_ p1).2)], .int .i64 0], .agg #[.int .u64 ((ringS Fd c_ p1).1), .int .u64 ((ringS Fd c_ p1).2)], .int .i64 0, .tuple #[.slice (some ⟨g11, 0, none⟩) ((nbL Fd c_).length) cap2, .int .i64 0], .agg Fd.cells, .int .i64 c_, .tuple #[.slice (some ⟨g11, 0, none⟩) ((nbL Fd c_).length) cap2, .int .i64 0], .slice (some ⟨g11, 0, none⟩) ((nbL Fd c_).length) cap2, .int .i64 0, .int .i64 (near2 Fd c_ x_ y_), .int .i64 (near2 Fd c_ x_ y_), .bool false, .bool false, .int .i64 (near0 Fd c_ x_ y_), .int .i64 (near0 Fd c_ x_ y_), .bool false, .bool false, .bool false, .int .i64 (near1 Fd c_ x_ y_), .int .i64 (near1 Fd c_ x_ y_), .bool false, .bool false, .bool false, .int .i64 (near2 Fd c_ x_ y_), .int .i64 (near2 Fd c_ x_ y_), .bool false, .bool false, .bool false, .int .i64 (rich0 Fd x_ y_), .int .i64 (rich0 Fd x_ y_), .bool false, .bool false, .bool false, .int .i64 (rich1 Fd x_ y_), .int .i64 (rich1 Fd x_ y_), .bool false, .bool false, .bool false, .int .i64 0, .int .i64 0, .bool false, .bool false, .bool false, .int .i64 0, .bool false, .bool false, .bool false, .agg #[.int .u64 ((ringS Fd c_ p1).1), .int .u64 ((ringS Fd c_ p1).2)], .agg #[.int .u64 ((ringS Fd c_ p1).1), .int .u64 ((ringS Fd c_ p1).2)], .bool false, .bool false, .bool false, .int .i64 0, .bool false, .bool false, .bool false, .int .i64 (near2 Fd c_ x_ y_), .int .i64 (near2 Fd c_ x_ y_), .bool false, .bool false, .int .i64 (i : Int), .bool (decide ((i : Int) < 4)), J1 231, J1 232, J1 233, J1 234, J1 235, J1 236, J1 237, J1 238, J1 239, J1 240, J1 241, J1 242, J1 243, J1 244, .int .i64 (k : Int), .bool (decide ((k : Int) < 100)), J2 247, J2 248, .agg #[.int .u64 x_, .int .u64 y_], .int .i64 (k : Int), .bool (hasB x_ y_ (k : Int)), .slice (some ⟨g7, 0, none⟩) ((listL x_ y_).length) cap1, .int .i64 (k : Int), .bool (hasB x_ y_ (k : Int)), .bool false, .agg Fd.cells, .int .i64 (k : Int), .bool (isB Fd (k : Int)), .bool (!(isB Fd (k : Int))), J2 260, J2 261, J2 262, .tuple #[.int .i64 (sqr c_ (k : Int)), .int .i64 0], .agg Fd.cells, .int .i64 c_, .int .i64 (k : Int), .tuple #[.int .i64 (sqr c_ (k : Int)), .int .i64 0], .int .i64 (sqr c_ (k : Int)), .int .i64 0, .int .i64 0, .bool false, .bool false, .agg #[.int .u64 ((ringS Fd c_ p1).1), .int .u64 ((ringS Fd c_ p1).2)], .int .i64 (k : Int), .bool (decide ((sqr c_ (k : Int)) ≤ p1)), .int .i64 (sqr c_ (k : Int)), .int .i64 p1, .bool (decide ((sqr c_ (k : Int)) ≤ p1)), .bool false, .bool false, .bool false, .slice (some ⟨g11, 0, none⟩) ((nbL Fd c_).length) cap2, .int .i64 (k : Int), .bool ((sqr c_ (k : Int)) == 1), .int .i64 (sqr c_ (k : Int)), .bool ((sqr c_ (k : Int)) == 1), .bool false, .bool false, .int .i64 cm, .int .i64 (cm + 1), .slice (some ⟨g7, 0, none⟩) ((listL x_ y_).length) cap1, .int .i64 (k : Int), .bool (hasB x_ y_ (k : Int)), .bool (!(hasB x_ y_ (k : Int))), .int .i64 (near2 Fd c_ x_ y_), .bool ((near2 Fd c_ x_ y_) != 0), .bool false, .int .i64 (sqr c_ (k : Int)), .int .i64 (near1 Fd c_ x_ y_), .bool (decide ((sqr c_ (k : Int)) < near1 Fd c_ x_ y_)), .bool (decide ((sqr c_ (k : Int)) < near1 Fd c_ x_ y_)), .bool false, .int .i64 (sqr c_ (k : Int)), .int .i64 (near1 Fd c_ x_ y_), .bool ((sqr c_ (k : Int)) == (near1 Fd c_ x_ y_)), .bool false, undef, undef, undef, .bool false, .bool false, .bool false, .int .i64 (k : Int), .pointer (some ⟨g1, 102, none⟩), .pointer (some ⟨g1, 102 + k, none⟩), .int .i16 (Fd.s k), .int .i64 (Fd.s k), .int .i64 (rich1 Fd x_ y_), .bool (decide ((rich1 Fd x_ y_) < Fd.s k)), .bool (decide ((rich1 Fd x_ y_) < Fd.s k)), .bool false, .int .i64 (k : Int), .pointer (some ⟨g1, 102, none⟩), .pointer (some ⟨g1, 102 + k, none⟩), .int .i16 (Fd.s k), .int .i64 (Fd.s k), .int .i64 (rich1 Fd x_ y_), .bool ((Fd.s k) == (rich1 Fd x_ y_)), .bool false, undef, undef, undef, J2 333, J2 334, undef, undef, undef, undef, undef, undef, undef, undef, undef, undef, undef, undef, undef, undef, undef, undef, undef, undef, undef], []⟩) (by kernel_rfl) ?_
                       refine wv (.bool false) ?_
                       refine wv (.bool false) ?_
                       refine wpList_nil (then_normal ?_)
                       refine wcf ?_
                       refine wp_skip ?_
                       refine block_normal (then_normal ?_)
                       refine wp_region_lit ?_
                       refine wv (.int .i64 (k : Int)) ?_
                       refine wi64 ((k : Int) + 1) ?_
                       refine wv (.int .i64 ((k : Int) + 1)) ?_
                       refine wpList_nil (then_normal ?_)
                       replace B2 := ((((((B2.ext E34).ext E35).ext E36).ext E38).ext E39).ext E40).ext E41
                       replace B3 := ((((((B3.ext E34).ext E35).ext E36).ext E38).ext E39).ext E40).ext E41
                       replace B4 := ((((((B4.ext E34).ext E35).ext E36).ext E38).ext E39).ext E40).ext E41
                       replace B5 := ((((((B5.ext E34).ext E35).ext E36).ext E38).ext E39).ext E40).ext E41
                       replace B6 := ((((((B6.ext E34).ext E35).ext E36).ext E38).ext E39).ext E40).ext E41
                       replace B7 := B7.ext E41
                       replace B8 := ((((((B8.ext E34).ext E35).ext E36).ext E38).ext E39).ext E40).ext E41
                       replace B9 := ((((((B9.ext E34).ext E35).ext E36).ext E38).ext E39).ext E40).ext E41
                       replace B10 := ((B10.ext E39).ext E40).ext E41
                       replace B11 := (B11.ext E40).ext E41
                       refine ⟨_, ?_, k + 1, cm + 1, rfl, ?_, ?_, H23, B1, B2, B3, B4, B5, B6, B7, B8, B9, B10, B11, exJ (by kernel_rfl)⟩
                       · omega
                       · omega
                       · first | (rw [cntF_t (by assumption)]; omega) | (rw [cntF_f (by assumption)]; omega)
       · skip
         have h4d := dF h4
         refine wp_exit ?_
         refine then_exit ?_
         refine then_exit ?_
         refine block_exit ?_
         refine then_normal ?_
         refine wp_seq ?_
         have e100_ : k = 100 := by omega
         rw [e100_] at hcm
         have k4_ := knd_4 hd_.ok
         refine wsr ?_
         refine wv (.int .i64 km) ?_
         refine wv (.int .i64 cm) ?_
         refine wv (.bool (km != cm)) ?_
         refine wpList_nil (then_normal ?_)
         refine wsplit (km != cm) (fun h17 => ?_) (fun h17 => ?_)
         · skip
           have h17d := nT h17
           exact absurd (hkm.trans (k4_.trans hcm.symm)) h17d
         · skip
           have h17d := nF h17
           refine wp_skip ?_
           refine then_normal ?_
           refine wsr ?_
           refine wv (.int .i64 (near2 Fd c_ x_ y_)) ?_
           refine wv (.bool ((near2 Fd c_ x_ y_) == 6)) ?_
           refine wv (.bool ((near2 Fd c_ x_ y_) == 6)) ?_
           refine split_bool ((near2 Fd c_ x_ y_) == 6) (fun h18 => ?_) (fun h18 => ?_)
           · skip
             refine wbl 340 true h18 ?_
             have h18d := eT h18
             refine wsk ?_
             refine wsk ?_
             refine wsk ?_
             refine wsk ?_
             refine wsk ?_
             refine wsk ?_
             refine wsk ?_
             refine wsk ?_
             refine wsk ?_
             refine wsk ?_
             refine wsk ?_
             refine wsk ?_
             refine wv (.bool true) ?_
             refine wv (.bool true) ?_
             refine wpList_nil (then_normal ?_)
             refine wp_ret ?_
             refine ret1 (.bool true) rfl ?_ rfl ?_
             · exact resT (by kernel_rfl)
             exact ⟨rfl, HL2⟩
           · skip
             refine wbl 340 false h18 ?_
             have h18d := eF h18
             refine wv (.int .i64 (near2 Fd c_ x_ y_)) ?_
             refine wv (.bool ((near2 Fd c_ x_ y_) == 0)) ?_
             refine wv (.bool ((near2 Fd c_ x_ y_) == 0)) ?_
             refine split_bool ((near2 Fd c_ x_ y_) == 0) (fun h19 => ?_) (fun h19 => ?_)
             · skip
               refine wbl 343 true h19 ?_
               have h19d := eT h19
               refine wv (.slice (some ⟨g7, 0, none⟩) ((listL x_ y_).length) cap1) ?_
               refine wv (.int .i64 (near0 Fd c_ x_ y_)) ?_
               refine wcl (HasNumber_list x_ y_ g7 cap1 cs1 S1 (near0 Fd c_ x_ y_) near0_in true (near_has hd_.ok hc_ (eT h19)).1 _ B7) ?_
               intro w52 E42
               refine wv (.bool true) ?_
               refine wv (.bool true) ?_
               refine wv (.slice (some ⟨g7, 0, none⟩) ((listL x_ y_).length) cap1) ?_
               refine wv (.int .i64 (rich0 Fd x_ y_)) ?_
               replace B7 := B7.ext E42
               refine wcl (HasNumber_list x_ y_ g7 cap1 cs1 S1 (rich0 Fd x_ y_) rich0_in true (near_has hd_.ok hc_ (eT h19)).2 _ B7) ?_
               intro w53 E43
               refine wv (.bool true) ?_
               refine wv (.bool true) ?_
               refine wv (.bool true) ?_
               refine wpList_nil (then_normal ?_)
               refine wp_ret ?_
               have H24 := (HL2.trans E42).trans E43
               refine ret1 (.bool true) rfl ?_ rfl ?_
               · exact resT (by kernel_rfl)
               exact ⟨rfl, H24⟩
             · skip
               refine wbl 343 false h19 ?_
               have h19d := eF h19
               exact absurd nor_ (fun z_ => z_.elim h19d (eF h18))
end
--# row FnSets
set_option maxRecDepth 100000 in
theorem fnSets_lifted (os : Os) (started : os.Started) (H : Type) (enc : TypeId × Value → H) :
    ReturnsInHanded {} Try.checked os 3 .any (Rows.fnSetsSpec.pre6 enc Try.prog Try.f3 Rows.fnSetsRow.domain false) (Rows.fnSetsSpec.post enc Try.prog Try.f3 false true false false) := by
  refine returnsInHanded_of_change (C := Try.checked) ownKnob_none started (by kernel_rfl) Try.func3
    (ChangeSpec.witness6 (enc := enc) (C := Try.checked) false ⟨#[], #[.slice none 0 0, .slice none 0 0], []⟩ 8 (by kernel_rfl) (by kernel_rfl) (by kernel_rfl) (by kernel_rfl)) ?_
  intro W base args ds gs before hval0 hW hcnd _
  have hval : ∀ (j : Nat) t v, Try.f3.params[j]? = some t → args[j]? = some v → Value.okWide Try.prog W .any base t v := hval0
  have hW' := hW
  obtain ⟨p, q, hA0, hV, rfl, hfz, hnd⟩ := hW
  have hA : DataW.TrodAll enc Try.prog W 0 (fun _ => true) true Try.f3.params.toList args.toList ds p := hA0
  rw [Try.params3] at hA hval
  obtain ⟨v0, vs0, d0, ds0, p0, q0, hargs, rfl, rfl, h0, r0⟩ := trodAll_cons hA
  obtain ⟨v1, vs1, d1, ds1, p1, q1, rfl, rfl, rfl, h1, r1⟩ := trodAll_cons r0
  obtain ⟨rfl, rfl, rfl⟩ := trodAll_nil r1
  obtain rfl : args = #[v0, v1] := by cases args; simp_all
  obtain ⟨rfl, rfl⟩ := trodVars_none hV
  have k0 := h0
  have lt0 : ∀ x ∈ p0, x.block < W.heap.size := by obtain ⟨m, hm⟩ := k0; exact DataW.trod_lt m _ _ _ hm
  obtain ⟨xs, hin0, hwl0⟩ := open_slin (k := .u8) Try.underlying22 Try.underlying5 (by kernel_rfl) (hval 0 22 v0 rfl rfl) h0
  have k1 := h1
  have lt1 : ∀ x ∈ p1, x.block < W.heap.size := by obtain ⟨m, hm⟩ := k1; exact DataW.trod_lt m _ _ _ hm
  obtain ⟨ys, hin1, hwl1⟩ := open_slin (k := .u8) Try.underlying22 Try.underlying5 (by kernel_rfl) (hval 1 22 v1 rfl rfl) h1
  clear hA0 hval0
  refine (FnSets_walk xs v0 ys v1 (atI_u8 hwl0) (atI_u8 hwl1) W hin0 hin1).mono fun e W' ⟨he, hx⟩ => ?_
  have bel := hx.below
  subst he
  exact ⟨_, rfl, _, _, _, [], _, [], hW', trodAll_mk1 (shut_bool Try.underlying4 _), (trodAll_cons_mk (Below.trod laidOut_ (by kernel_rfl) (of_decide_eq_true (by kernel_rfl)) k0 bel lt0) (trodAll_cons_mk (Below.trod laidOut_ (by kernel_rfl) (of_decide_eq_true (by kernel_rfl)) k1 bel lt1) trodAll_mk0)), rfl, bel.frame _, fun h => by cases h⟩
theorem fnSets_holds : Rows.FnSetsSaid :=
  OpenClaim.holds_of_wide 3 Try.f3 rfl rfl rfl rfl rfl rfl rfl ⟨rfl, rfl, rfl, rfl, rfl⟩ rfl rfl rfl rfl rfl (by kernel_rfl) Try.func3 (by kernel_rfl)
    (of_decide_eq_true (by kernel_rfl)) (by unfold Func.isWrapper; first | (rw [if_pos (by decide +kernel)]; kernel_rfl) | (rw [if_neg (by decide +kernel)]; exact ⟨rfl, rfl⟩))
    (fun os started H enc _ => fnSets_lifted os started H enc)
end Go.Proofs.Ytdhidmigngmgjaa
