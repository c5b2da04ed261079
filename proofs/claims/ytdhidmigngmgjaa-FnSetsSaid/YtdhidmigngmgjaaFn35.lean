/-
  Contracts: what the law of the sets asks for. No conditions.
-/
import Derived.Test.YtdhidmigngmgjaaTy
import Derived.Test.YtdhidmigngmgjaaSl
import Derived.Test.YtdhidmigngmgjaaMth
import Derived.Test.YtdhidmigngmgjaaFn26
import Derived.Test.YtdhidmigngmgjaaFn14
import Derived.Test.YtdhidmigngmgjaaFn6
import Derived.Test.YtdhidmigngmgjaaZd
namespace Go.Proofs.Ytdhidmigngmgjaa
open Go.RowKit
set_option linter.unusedSimpArgs false
set_option linter.unusedVariables false
set_option maxHeartbeats 4000000
set_option maxRecDepth 100000
attribute [local irreducible] wpList Code.wp
--# duot
theorem duot_impl_Cells : DuoT Try.prog 33 31 := ⟨by kernel_rfl, by kernel_rfl, by kernel_rfl, by kernel_rfl, by kernel_rfl⟩

--# l01Mask_any
theorem l01Mask_any (x y : Int) (hy : 0 ≤ y ∧ y ≤ 18446744073709551615) (w : World) :
 Calls Try.prog 37 #[.agg #[.int .u64 x, .int .u64 y]] w fun e w' => e = .returned (.agg #[.int .u64 x, .int .u64 (y % 68719476736)]) ∧ Ext w w' := by
 refine calls_of_wp Try.func37 rfl ?_
 refine wp_frame (a' := ⟨#[.agg #[.int .u64 x, .int .u64 y], undef, undef, undef, undef, undef, undef, undef, undef], []⟩) (by kernel_rfl) ?_
 refine wsr ?_
 refine wbox #[.int .u64 x, .int .u64 y] ?_
 intro g1 w1 B1 E1 hg_
 have lo_g1 := Nat.le_trans ((Ext.refl w)).size hg_
 have H1 := (Ext.refl w).trans E1
 refine wnew #[.int .u64 0, .int .u64 0] Try.zeroValue33 rfl ?_
 intro g2 w2 B2 E2 hg_
 have q_g1_g2 := Nat.ne_of_lt (Nat.lt_of_lt_of_le B1.lt hg_)
 have lo_g2 := Nat.le_trans (H1).size hg_
 refine wpList_nil (then_normal ?_)
 refine wsr ?_
 refine wixn g1 0 0 .i64 arrt_impl_Cells ?_
 replace B1 := B1.ext E2
 refine wld (v := .int .u64 x) g1 (0 + 0) scal_uint64 (B1.get (rfl)) ?_
 refine wixn g1 0 1 .i64 arrt_impl_Cells ?_
 refine wld (v := .int .u64 y) g1 (0 + 1) scal_uint64 (B1.get (rfl)) ?_
 refine wv (.int .u64 (bits BinOp.and IntKind.u64 y 68719476735)) ?_
 refine wv (.agg #[.int .u64 x, .int .u64 (bits BinOp.and IntKind.u64 y 68719476735)]) ?_
 refine wput #[.int .u64 x, .int .u64 (bits BinOp.and IntKind.u64 y 68719476735)] row_impl_Cells B2 (by rfl) (by rfl) (by kernel_rfl) ?_
 intro w3 B2_ X1
 clear B2; have B2 := B2_; clear B2_
 refine wpList_nil (then_normal ?_)
 refine wp_ret ?_
 have H2 := X1.ext w lo_g2 (H1.trans E2)
 refine ret1 (.agg #[.int .u64 x, .int .u64 (y % 68719476736)]) rfl ?_ rfl ?_
 · refine ⟨g2, 33, #[.int .u64 x, .int .u64 (bits BinOp.and IntKind.u64 y 68719476735)], _, by kernel_rfl, B2, row_impl_Cells, ?_, ?_⟩
   · rfl
   · show (.agg #[.int .u64 x, .int .u64 (y % 68719476736)] : Value) = (.agg #[.int .u64 x, .int .u64 (bits BinOp.and IntKind.u64 y 68719476735)])
     refine congrArg Value.agg ?_
     exact cut_eq hy
 exact ⟨rfl, H2⟩


--# iUnion_any
theorem iUnion_any (x y : Int) (x2 y2 : Int) (hy : wrd y) (hy2 : wrd y2) (w : World) :
 Calls Try.prog 7 #[.agg #[.int .u64 x, .int .u64 y], .agg #[.int .u64 x2, .int .u64 y2]] w fun e w' => e = .returned (.agg #[.int .u64 (un0 x x2), .int .u64 (un1 y y2)]) ∧ Ext w w' := by
 have wb_ := un_b hy hy2
 refine calls_of_wp Try.func7 rfl ?_
 refine wp_frame (a' := ⟨#[.agg #[.int .u64 x, .int .u64 y], .agg #[.int .u64 x2, .int .u64 y2], undef, undef, undef, undef, undef, undef, undef, undef, undef, undef, undef, undef, undef, undef, undef], []⟩) (by kernel_rfl) ?_
 refine wsr ?_
 refine wbox #[.int .u64 x, .int .u64 y] ?_
 intro g1 w1 B1 E1 hg_
 have lo_g1 := Nat.le_trans ((Ext.refl w)).size hg_
 have H1 := (Ext.refl w).trans E1
 refine wbox #[.int .u64 x2, .int .u64 y2] ?_
 intro g2 w2 B2 E2 hg_
 have q_g1_g2 := Nat.ne_of_lt (Nat.lt_of_lt_of_le B1.lt hg_)
 have lo_g2 := Nat.le_trans (H1).size hg_
 have H2 := H1.trans E2
 replace B1 := B1.ext E2
 refine wnew #[.int .u64 0, .int .u64 0] Try.zeroValue33 rfl ?_
 intro g3 w3 B3 E3 hg_
 have q_g1_g3 := Nat.ne_of_lt (Nat.lt_of_lt_of_le B1.lt hg_)
 have q_g2_g3 := Nat.ne_of_lt (Nat.lt_of_lt_of_le B2.lt hg_)
 have lo_g3 := Nat.le_trans (H2).size hg_
 refine wpList_nil (then_normal ?_)
 refine wsr ?_
 refine wixn g1 0 0 .i64 arrt_impl_Cells ?_
 replace B1 := B1.ext E3
 refine wld (v := .int .u64 x) g1 (0 + 0) scal_uint64 (B1.get (rfl)) ?_
 refine wixn g2 0 0 .i64 arrt_impl_Cells ?_
 replace B2 := B2.ext E3
 refine wld (v := .int .u64 x2) g2 (0 + 0) scal_uint64 (B2.get (rfl)) ?_
 refine wv (.int .u64 (bits BinOp.or IntKind.u64 x x2)) ?_
 refine wixn g1 0 1 .i64 arrt_impl_Cells ?_
 refine wld (v := .int .u64 y) g1 (0 + 1) scal_uint64 (B1.get (rfl)) ?_
 refine wixn g2 0 1 .i64 arrt_impl_Cells ?_
 refine wld (v := .int .u64 y2) g2 (0 + 1) scal_uint64 (B2.get (rfl)) ?_
 refine wv (.int .u64 (bits BinOp.or IntKind.u64 y y2)) ?_
 refine wv (.agg #[.int .u64 (bits BinOp.or IntKind.u64 x x2), .int .u64 (bits BinOp.or IntKind.u64 y y2)]) ?_
 refine wcl (cut_any (bits BinOp.or IntKind.u64 x x2) (bits BinOp.or IntKind.u64 y y2) (by omega) _) ?_
 intro w4 E4
 replace B3 := B3.ext E4
 refine wput #[.int .u64 (bits BinOp.or IntKind.u64 x x2), .int .u64 ((bits BinOp.or IntKind.u64 y y2) % 68719476736)] row_impl_Cells B3 (by rfl) (by rfl) (by kernel_rfl) ?_
 intro w5 B3_ X1
 clear B3; have B3 := B3_; clear B3_
 refine wpList_nil (then_normal ?_)
 refine wp_ret ?_
 have H3 := X1.ext w lo_g3 ((H2.trans E3).trans E4)
 refine ret1 (.agg #[.int .u64 (un0 x x2), .int .u64 (un1 y y2)]) rfl ?_ rfl ?_
 · refine ⟨g3, 33, #[.int .u64 (bits BinOp.or IntKind.u64 x x2), .int .u64 ((bits BinOp.or IntKind.u64 y y2) % 68719476736)], _, by kernel_rfl, B3, row_impl_Cells, ?_, ?_⟩
   · rfl
   · show (.agg #[.int .u64 (un0 x x2), .int .u64 (un1 y y2)] : Value) = (.agg #[.int .u64 (bits BinOp.or IntKind.u64 x x2), .int .u64 ((bits BinOp.or IntKind.u64 y y2) % 68719476736)])
     refine congrArg Value.agg ?_
     exact un_eq
 exact ⟨rfl, H3⟩


--# sUnion_any
theorem sUnion_any (x y : Int) (x2 y2 : Int) (hy : wrd y) (hy2 : wrd y2) (w : World) :
 Calls Try.prog 10 #[.agg #[.int .u64 x, .int .u64 y], .agg #[.int .u64 x2, .int .u64 y2]] w fun e w' => e = .returned (.agg #[.int .u64 (un0 x x2), .int .u64 (un1 y y2)]) ∧ Ext w w' := by
 have wb_ := un_b hy hy2
 refine calls_of_wp Try.func10 rfl ?_
 refine wp_frame (a' := ⟨#[.agg #[.int .u64 x, .int .u64 y], .agg #[.int .u64 x2, .int .u64 y2], undef, undef, undef, undef, undef, undef, undef, undef, undef, undef, undef, undef, undef, undef, undef], []⟩) (by kernel_rfl) ?_
 refine wsr ?_
 refine wbox #[.int .u64 x, .int .u64 y] ?_
 intro g1 w1 B1 E1 hg_
 have lo_g1 := Nat.le_trans ((Ext.refl w)).size hg_
 have H1 := (Ext.refl w).trans E1
 refine wbox #[.int .u64 x2, .int .u64 y2] ?_
 intro g2 w2 B2 E2 hg_
 have q_g1_g2 := Nat.ne_of_lt (Nat.lt_of_lt_of_le B1.lt hg_)
 have lo_g2 := Nat.le_trans (H1).size hg_
 have H2 := H1.trans E2
 replace B1 := B1.ext E2
 refine wnew #[.int .u64 0, .int .u64 0] Try.zeroValue33 rfl ?_
 intro g3 w3 B3 E3 hg_
 have q_g1_g3 := Nat.ne_of_lt (Nat.lt_of_lt_of_le B1.lt hg_)
 have q_g2_g3 := Nat.ne_of_lt (Nat.lt_of_lt_of_le B2.lt hg_)
 have lo_g3 := Nat.le_trans (H2).size hg_
 refine wpList_nil (then_normal ?_)
 refine wsr ?_
 refine wixn g1 0 0 .i64 arrt_impl_Cells ?_
 replace B1 := B1.ext E3
 refine wld (v := .int .u64 x) g1 (0 + 0) scal_uint64 (B1.get (rfl)) ?_
 refine wixn g2 0 0 .i64 arrt_impl_Cells ?_
 replace B2 := B2.ext E3
 refine wld (v := .int .u64 x2) g2 (0 + 0) scal_uint64 (B2.get (rfl)) ?_
 refine wv (.int .u64 (bits BinOp.or IntKind.u64 x x2)) ?_
 refine wixn g1 0 1 .i64 arrt_impl_Cells ?_
 refine wld (v := .int .u64 y) g1 (0 + 1) scal_uint64 (B1.get (rfl)) ?_
 refine wixn g2 0 1 .i64 arrt_impl_Cells ?_
 refine wld (v := .int .u64 y2) g2 (0 + 1) scal_uint64 (B2.get (rfl)) ?_
 refine wv (.int .u64 (bits BinOp.or IntKind.u64 y y2)) ?_
 refine wv (.agg #[.int .u64 (bits BinOp.or IntKind.u64 x x2), .int .u64 (bits BinOp.or IntKind.u64 y y2)]) ?_
 refine wcl (l01Mask_any (bits BinOp.or IntKind.u64 x x2) (bits BinOp.or IntKind.u64 y y2) (by omega) _) ?_
 intro w4 E4
 replace B3 := B3.ext E4
 refine wput #[.int .u64 (bits BinOp.or IntKind.u64 x x2), .int .u64 ((bits BinOp.or IntKind.u64 y y2) % 68719476736)] row_impl_Cells B3 (by rfl) (by rfl) (by kernel_rfl) ?_
 intro w5 B3_ X1
 clear B3; have B3 := B3_; clear B3_
 refine wpList_nil (then_normal ?_)
 refine wp_ret ?_
 have H3 := X1.ext w lo_g3 ((H2.trans E3).trans E4)
 refine ret1 (.agg #[.int .u64 (un0 x x2), .int .u64 (un1 y y2)]) rfl ?_ rfl ?_
 · refine ⟨g3, 33, #[.int .u64 (bits BinOp.or IntKind.u64 x x2), .int .u64 ((bits BinOp.or IntKind.u64 y y2) % 68719476736)], _, by kernel_rfl, B3, row_impl_Cells, ?_, ?_⟩
   · rfl
   · show (.agg #[.int .u64 (un0 x x2), .int .u64 (un1 y y2)] : Value) = (.agg #[.int .u64 (bits BinOp.or IntKind.u64 x x2), .int .u64 ((bits BinOp.or IntKind.u64 y y2) % 68719476736)])
     refine congrArg Value.agg ?_
     exact un_eq
 exact ⟨rfl, H3⟩


--# iBoth_any
theorem iBoth_any (x y : Int) (x2 y2 : Int) (hy : wrd y) (hy2 : wrd y2) (w : World) :
 Calls Try.prog 8 #[.agg #[.int .u64 x, .int .u64 y], .agg #[.int .u64 x2, .int .u64 y2]] w fun e w' => e = .returned (.agg #[.int .u64 (bo0 x x2), .int .u64 (bo1 y y2)]) ∧ Ext w w' := by
 have wb_ := bo_b hy hy2
 refine calls_of_wp Try.func8 rfl ?_
 refine wp_frame (a' := ⟨#[.agg #[.int .u64 x, .int .u64 y], .agg #[.int .u64 x2, .int .u64 y2], undef, undef, undef, undef, undef, undef, undef, undef, undef, undef, undef, undef, undef, undef, undef], []⟩) (by kernel_rfl) ?_
 refine wsr ?_
 refine wbox #[.int .u64 x, .int .u64 y] ?_
 intro g1 w1 B1 E1 hg_
 have lo_g1 := Nat.le_trans ((Ext.refl w)).size hg_
 have H1 := (Ext.refl w).trans E1
 refine wbox #[.int .u64 x2, .int .u64 y2] ?_
 intro g2 w2 B2 E2 hg_
 have q_g1_g2 := Nat.ne_of_lt (Nat.lt_of_lt_of_le B1.lt hg_)
 have lo_g2 := Nat.le_trans (H1).size hg_
 have H2 := H1.trans E2
 replace B1 := B1.ext E2
 refine wnew #[.int .u64 0, .int .u64 0] Try.zeroValue33 rfl ?_
 intro g3 w3 B3 E3 hg_
 have q_g1_g3 := Nat.ne_of_lt (Nat.lt_of_lt_of_le B1.lt hg_)
 have q_g2_g3 := Nat.ne_of_lt (Nat.lt_of_lt_of_le B2.lt hg_)
 have lo_g3 := Nat.le_trans (H2).size hg_
 refine wpList_nil (then_normal ?_)
 refine wsr ?_
 refine wixn g1 0 0 .i64 arrt_impl_Cells ?_
 replace B1 := B1.ext E3
 refine wld (v := .int .u64 x) g1 (0 + 0) scal_uint64 (B1.get (rfl)) ?_
 refine wixn g2 0 0 .i64 arrt_impl_Cells ?_
 replace B2 := B2.ext E3
 refine wld (v := .int .u64 x2) g2 (0 + 0) scal_uint64 (B2.get (rfl)) ?_
 refine wv (.int .u64 (bits BinOp.and IntKind.u64 x x2)) ?_
 refine wixn g1 0 1 .i64 arrt_impl_Cells ?_
 refine wld (v := .int .u64 y) g1 (0 + 1) scal_uint64 (B1.get (rfl)) ?_
 refine wixn g2 0 1 .i64 arrt_impl_Cells ?_
 refine wld (v := .int .u64 y2) g2 (0 + 1) scal_uint64 (B2.get (rfl)) ?_
 refine wv (.int .u64 (bits BinOp.and IntKind.u64 y y2)) ?_
 refine wv (.agg #[.int .u64 (bits BinOp.and IntKind.u64 x x2), .int .u64 (bits BinOp.and IntKind.u64 y y2)]) ?_
 refine wcl (cut_any (bits BinOp.and IntKind.u64 x x2) (bits BinOp.and IntKind.u64 y y2) (by omega) _) ?_
 intro w4 E4
 replace B3 := B3.ext E4
 refine wput #[.int .u64 (bits BinOp.and IntKind.u64 x x2), .int .u64 ((bits BinOp.and IntKind.u64 y y2) % 68719476736)] row_impl_Cells B3 (by rfl) (by rfl) (by kernel_rfl) ?_
 intro w5 B3_ X1
 clear B3; have B3 := B3_; clear B3_
 refine wpList_nil (then_normal ?_)
 refine wp_ret ?_
 have H3 := X1.ext w lo_g3 ((H2.trans E3).trans E4)
 refine ret1 (.agg #[.int .u64 (bo0 x x2), .int .u64 (bo1 y y2)]) rfl ?_ rfl ?_
 · refine ⟨g3, 33, #[.int .u64 (bits BinOp.and IntKind.u64 x x2), .int .u64 ((bits BinOp.and IntKind.u64 y y2) % 68719476736)], _, by kernel_rfl, B3, row_impl_Cells, ?_, ?_⟩
   · rfl
   · show (.agg #[.int .u64 (bo0 x x2), .int .u64 (bo1 y y2)] : Value) = (.agg #[.int .u64 (bits BinOp.and IntKind.u64 x x2), .int .u64 ((bits BinOp.and IntKind.u64 y y2) % 68719476736)])
     refine congrArg Value.agg ?_
     exact bo_eq
 exact ⟨rfl, H3⟩


--# sBoth_any
theorem sBoth_any (x y : Int) (x2 y2 : Int) (hy : wrd y) (hy2 : wrd y2) (w : World) :
 Calls Try.prog 11 #[.agg #[.int .u64 x, .int .u64 y], .agg #[.int .u64 x2, .int .u64 y2]] w fun e w' => e = .returned (.agg #[.int .u64 (bo0 x x2), .int .u64 (bo1 y y2)]) ∧ Ext w w' := by
 have wb_ := bo_b hy hy2
 refine calls_of_wp Try.func11 rfl ?_
 refine wp_frame (a' := ⟨#[.agg #[.int .u64 x, .int .u64 y], .agg #[.int .u64 x2, .int .u64 y2], undef, undef, undef, undef, undef, undef, undef, undef, undef, undef, undef, undef, undef, undef, undef], []⟩) (by kernel_rfl) ?_
 refine wsr ?_
 refine wbox #[.int .u64 x, .int .u64 y] ?_
 intro g1 w1 B1 E1 hg_
 have lo_g1 := Nat.le_trans ((Ext.refl w)).size hg_
 have H1 := (Ext.refl w).trans E1
 refine wbox #[.int .u64 x2, .int .u64 y2] ?_
 intro g2 w2 B2 E2 hg_
 have q_g1_g2 := Nat.ne_of_lt (Nat.lt_of_lt_of_le B1.lt hg_)
 have lo_g2 := Nat.le_trans (H1).size hg_
 have H2 := H1.trans E2
 replace B1 := B1.ext E2
 refine wnew #[.int .u64 0, .int .u64 0] Try.zeroValue33 rfl ?_
 intro g3 w3 B3 E3 hg_
 have q_g1_g3 := Nat.ne_of_lt (Nat.lt_of_lt_of_le B1.lt hg_)
 have q_g2_g3 := Nat.ne_of_lt (Nat.lt_of_lt_of_le B2.lt hg_)
 have lo_g3 := Nat.le_trans (H2).size hg_
 refine wpList_nil (then_normal ?_)
 refine wsr ?_
 refine wixn g1 0 0 .i64 arrt_impl_Cells ?_
 replace B1 := B1.ext E3
 refine wld (v := .int .u64 x) g1 (0 + 0) scal_uint64 (B1.get (rfl)) ?_
 refine wixn g2 0 0 .i64 arrt_impl_Cells ?_
 replace B2 := B2.ext E3
 refine wld (v := .int .u64 x2) g2 (0 + 0) scal_uint64 (B2.get (rfl)) ?_
 refine wv (.int .u64 (bits BinOp.and IntKind.u64 x x2)) ?_
 refine wixn g1 0 1 .i64 arrt_impl_Cells ?_
 refine wld (v := .int .u64 y) g1 (0 + 1) scal_uint64 (B1.get (rfl)) ?_
 refine wixn g2 0 1 .i64 arrt_impl_Cells ?_
 refine wld (v := .int .u64 y2) g2 (0 + 1) scal_uint64 (B2.get (rfl)) ?_
 refine wv (.int .u64 (bits BinOp.and IntKind.u64 y y2)) ?_
 refine wv (.agg #[.int .u64 (bits BinOp.and IntKind.u64 x x2), .int .u64 (bits BinOp.and IntKind.u64 y y2)]) ?_
 refine wcl (l01Mask_any (bits BinOp.and IntKind.u64 x x2) (bits BinOp.and IntKind.u64 y y2) (by omega) _) ?_
 intro w4 E4
 replace B3 := B3.ext E4
 refine wput #[.int .u64 (bits BinOp.and IntKind.u64 x x2), .int .u64 ((bits BinOp.and IntKind.u64 y y2) % 68719476736)] row_impl_Cells B3 (by rfl) (by rfl) (by kernel_rfl) ?_
 intro w5 B3_ X1
 clear B3; have B3 := B3_; clear B3_
 refine wpList_nil (then_normal ?_)
 refine wp_ret ?_
 have H3 := X1.ext w lo_g3 ((H2.trans E3).trans E4)
 refine ret1 (.agg #[.int .u64 (bo0 x x2), .int .u64 (bo1 y y2)]) rfl ?_ rfl ?_
 · refine ⟨g3, 33, #[.int .u64 (bits BinOp.and IntKind.u64 x x2), .int .u64 ((bits BinOp.and IntKind.u64 y y2) % 68719476736)], _, by kernel_rfl, B3, row_impl_Cells, ?_, ?_⟩
   · rfl
   · show (.agg #[.int .u64 (bo0 x x2), .int .u64 (bo1 y y2)] : Value) = (.agg #[.int .u64 (bits BinOp.and IntKind.u64 x x2), .int .u64 ((bits BinOp.and IntKind.u64 y y2) % 68719476736)])
     refine congrArg Value.agg ?_
     exact bo_eq
 exact ⟨rfl, H3⟩


--# iWithout_any
theorem iWithout_any (x y : Int) (x2 y2 : Int) (hy : wrd y) (hy2 : wrd y2) (w : World) :
 Calls Try.prog 9 #[.agg #[.int .u64 x, .int .u64 y], .agg #[.int .u64 x2, .int .u64 y2]] w fun e w' => e = .returned (.agg #[.int .u64 (wo0 x x2), .int .u64 (wo1 y y2)]) ∧ Ext w w' := by
 have wb_ := wo_b hy hy2
 refine calls_of_wp Try.func9 rfl ?_
 refine wp_frame (a' := ⟨#[.agg #[.int .u64 x, .int .u64 y], .agg #[.int .u64 x2, .int .u64 y2], undef, undef, undef, undef, undef, undef, undef, undef, undef, undef, undef, undef, undef, undef, undef], []⟩) (by kernel_rfl) ?_
 refine wsr ?_
 refine wbox #[.int .u64 x, .int .u64 y] ?_
 intro g1 w1 B1 E1 hg_
 have lo_g1 := Nat.le_trans ((Ext.refl w)).size hg_
 have H1 := (Ext.refl w).trans E1
 refine wbox #[.int .u64 x2, .int .u64 y2] ?_
 intro g2 w2 B2 E2 hg_
 have q_g1_g2 := Nat.ne_of_lt (Nat.lt_of_lt_of_le B1.lt hg_)
 have lo_g2 := Nat.le_trans (H1).size hg_
 have H2 := H1.trans E2
 replace B1 := B1.ext E2
 refine wnew #[.int .u64 0, .int .u64 0] Try.zeroValue33 rfl ?_
 intro g3 w3 B3 E3 hg_
 have q_g1_g3 := Nat.ne_of_lt (Nat.lt_of_lt_of_le B1.lt hg_)
 have q_g2_g3 := Nat.ne_of_lt (Nat.lt_of_lt_of_le B2.lt hg_)
 have lo_g3 := Nat.le_trans (H2).size hg_
 refine wpList_nil (then_normal ?_)
 refine wsr ?_
 refine wixn g1 0 0 .i64 arrt_impl_Cells ?_
 replace B1 := B1.ext E3
 refine wld (v := .int .u64 x) g1 (0 + 0) scal_uint64 (B1.get (rfl)) ?_
 refine wixn g2 0 0 .i64 arrt_impl_Cells ?_
 replace B2 := B2.ext E3
 refine wld (v := .int .u64 x2) g2 (0 + 0) scal_uint64 (B2.get (rfl)) ?_
 refine wv (.int .u64 (bits BinOp.andNot IntKind.u64 x x2)) ?_
 refine wixn g1 0 1 .i64 arrt_impl_Cells ?_
 refine wld (v := .int .u64 y) g1 (0 + 1) scal_uint64 (B1.get (rfl)) ?_
 refine wixn g2 0 1 .i64 arrt_impl_Cells ?_
 refine wld (v := .int .u64 y2) g2 (0 + 1) scal_uint64 (B2.get (rfl)) ?_
 refine wv (.int .u64 (bits BinOp.andNot IntKind.u64 y y2)) ?_
 refine wv (.agg #[.int .u64 (bits BinOp.andNot IntKind.u64 x x2), .int .u64 (bits BinOp.andNot IntKind.u64 y y2)]) ?_
 refine wcl (cut_any (bits BinOp.andNot IntKind.u64 x x2) (bits BinOp.andNot IntKind.u64 y y2) (by omega) _) ?_
 intro w4 E4
 replace B3 := B3.ext E4
 refine wput #[.int .u64 (bits BinOp.andNot IntKind.u64 x x2), .int .u64 ((bits BinOp.andNot IntKind.u64 y y2) % 68719476736)] row_impl_Cells B3 (by rfl) (by rfl) (by kernel_rfl) ?_
 intro w5 B3_ X1
 clear B3; have B3 := B3_; clear B3_
 refine wpList_nil (then_normal ?_)
 refine wp_ret ?_
 have H3 := X1.ext w lo_g3 ((H2.trans E3).trans E4)
 refine ret1 (.agg #[.int .u64 (wo0 x x2), .int .u64 (wo1 y y2)]) rfl ?_ rfl ?_
 · refine ⟨g3, 33, #[.int .u64 (bits BinOp.andNot IntKind.u64 x x2), .int .u64 ((bits BinOp.andNot IntKind.u64 y y2) % 68719476736)], _, by kernel_rfl, B3, row_impl_Cells, ?_, ?_⟩
   · rfl
   · show (.agg #[.int .u64 (wo0 x x2), .int .u64 (wo1 y y2)] : Value) = (.agg #[.int .u64 (bits BinOp.andNot IntKind.u64 x x2), .int .u64 ((bits BinOp.andNot IntKind.u64 y y2) % 68719476736)])
     refine congrArg Value.agg ?_
     exact wo_eq
 exact ⟨rfl, H3⟩


--# sWithout_any
theorem sWithout_any (x y : Int) (x2 y2 : Int) (hy : wrd y) (hy2 : wrd y2) (w : World) :
 Calls Try.prog 12 #[.agg #[.int .u64 x, .int .u64 y], .agg #[.int .u64 x2, .int .u64 y2]] w fun e w' => e = .returned (.agg #[.int .u64 (wo0 x x2), .int .u64 (wo1 y y2)]) ∧ Ext w w' := by
 have wb_ := wo_b hy hy2
 refine calls_of_wp Try.func12 rfl ?_
 refine wp_frame (a' := ⟨#[.agg #[.int .u64 x, .int .u64 y], .agg #[.int .u64 x2, .int .u64 y2], undef, undef, undef, undef, undef, undef, undef, undef, undef, undef, undef, undef, undef, undef, undef], []⟩) (by kernel_rfl) ?_
 refine wsr ?_
 refine wbox #[.int .u64 x, .int .u64 y] ?_
 intro g1 w1 B1 E1 hg_
 have lo_g1 := Nat.le_trans ((Ext.refl w)).size hg_
 have H1 := (Ext.refl w).trans E1
 refine wbox #[.int .u64 x2, .int .u64 y2] ?_
 intro g2 w2 B2 E2 hg_
 have q_g1_g2 := Nat.ne_of_lt (Nat.lt_of_lt_of_le B1.lt hg_)
 have lo_g2 := Nat.le_trans (H1).size hg_
 have H2 := H1.trans E2
 replace B1 := B1.ext E2
 refine wnew #[.int .u64 0, .int .u64 0] Try.zeroValue33 rfl ?_
 intro g3 w3 B3 E3 hg_
 have q_g1_g3 := Nat.ne_of_lt (Nat.lt_of_lt_of_le B1.lt hg_)
 have q_g2_g3 := Nat.ne_of_lt (Nat.lt_of_lt_of_le B2.lt hg_)
 have lo_g3 := Nat.le_trans (H2).size hg_
 refine wpList_nil (then_normal ?_)
 refine wsr ?_
 refine wixn g1 0 0 .i64 arrt_impl_Cells ?_
 replace B1 := B1.ext E3
 refine wld (v := .int .u64 x) g1 (0 + 0) scal_uint64 (B1.get (rfl)) ?_
 refine wixn g2 0 0 .i64 arrt_impl_Cells ?_
 replace B2 := B2.ext E3
 refine wld (v := .int .u64 x2) g2 (0 + 0) scal_uint64 (B2.get (rfl)) ?_
 refine wv (.int .u64 (bits BinOp.andNot IntKind.u64 x x2)) ?_
 refine wixn g1 0 1 .i64 arrt_impl_Cells ?_
 refine wld (v := .int .u64 y) g1 (0 + 1) scal_uint64 (B1.get (rfl)) ?_
 refine wixn g2 0 1 .i64 arrt_impl_Cells ?_
 refine wld (v := .int .u64 y2) g2 (0 + 1) scal_uint64 (B2.get (rfl)) ?_
 refine wv (.int .u64 (bits BinOp.andNot IntKind.u64 y y2)) ?_
 refine wv (.agg #[.int .u64 (bits BinOp.andNot IntKind.u64 x x2), .int .u64 (bits BinOp.andNot IntKind.u64 y y2)]) ?_
 refine wcl (l01Mask_any (bits BinOp.andNot IntKind.u64 x x2) (bits BinOp.andNot IntKind.u64 y y2) (by omega) _) ?_
 intro w4 E4
 replace B3 := B3.ext E4
 refine wput #[.int .u64 (bits BinOp.andNot IntKind.u64 x x2), .int .u64 ((bits BinOp.andNot IntKind.u64 y y2) % 68719476736)] row_impl_Cells B3 (by rfl) (by rfl) (by kernel_rfl) ?_
 intro w5 B3_ X1
 clear B3; have B3 := B3_; clear B3_
 refine wpList_nil (then_normal ?_)
 refine wp_ret ?_
 have H3 := X1.ext w lo_g3 ((H2.trans E3).trans E4)
 refine ret1 (.agg #[.int .u64 (wo0 x x2), .int .u64 (wo1 y y2)]) rfl ?_ rfl ?_
 · refine ⟨g3, 33, #[.int .u64 (bits BinOp.andNot IntKind.u64 x x2), .int .u64 ((bits BinOp.andNot IntKind.u64 y y2) % 68719476736)], _, by kernel_rfl, B3, row_impl_Cells, ?_, ?_⟩
   · rfl
   · show (.agg #[.int .u64 (wo0 x x2), .int .u64 (wo1 y y2)] : Value) = (.agg #[.int .u64 (bits BinOp.andNot IntKind.u64 x x2), .int .u64 ((bits BinOp.andNot IntKind.u64 y y2) % 68719476736)])
     refine congrArg Value.agg ?_
     exact wo_eq
 exact ⟨rfl, H3⟩


--# l00Has_any
theorem l00Has_any (xs : List Int) (n b cap : Nat) (cs : Array Value) (hS : SlI cs n cap .i64 xs) (c : Int) (hn : n ≤ 1048576) (w : World) (hb : Blk w b 2 cs) :
 Calls Try.prog 65 #[.slice (some ⟨b, 0, none⟩) n cap, .int .i64 c] w fun e w' => e = .returned (.bool (hasN xs c n)) ∧ Ext w w' := by
 have hn_ := hS.len
 refine calls_of_wp Try.func65 rfl ?_
 refine wp_frame (a' := ⟨#[.slice (some ⟨b, 0, none⟩) n cap, .int .i64 c, undef, undef, undef, undef, undef, undef, undef, undef, undef, undef, undef, undef, undef, undef, undef, undef], []⟩) (by kernel_rfl) ?_
 refine wsr ?_
 refine wv (.bool false) ?_
 refine wpList_nil (then_normal ?_)
 refine wp_seq ?_
 refine wsr ?_
 refine wv (.int .i64 0) ?_
 refine wpList_nil (then_normal ?_)
 refine wp_block ?_
 refine wp_loop_k (fun m1 a wl1 => ∃ (i : Nat), m1 = n - i ∧ i ≤ n ∧ hasN xs c i = false ∧ Ext w wl1 ∧ Blk wl1 b 2 cs ∧ (∃ J1 : Nat → Value, a = ⟨#[.slice (some ⟨b, 0, none⟩) n cap, .int .i64 c, undef, undef, J1 4, .int .i64 (i : Int), J1 6, J1 7, J1 8, J1 9, J1 10, J1 11, J1 12, J1 13, J1 14, J1 15, J1 16, J1 17], []⟩)) (n) ?_ ?_
 · refine ⟨0, rfl, ?_, ?_, (Ext.refl w), hb, exJ (by kernel_rfl)⟩
   · omega
   · rfl
 intro m1 a wl1 hI
 obtain ⟨i, rfl, hi_, hI, HL1, hb, J1, rfl⟩ := hI
 refine wp_seq ?_
 refine wsr ?_
 refine wv (.int .i64 (i : Int)) ?_
 refine wv (.slice (some ⟨b, 0, none⟩) n cap) ?_
 refine wv (.int .i64 (n : Int)) ?_
 refine wv (.bool (decide ((i : Int) < (n : Int)))) ?_
 refine wpList_nil (then_normal ?_)
 refine wsplit (decide ((i : Int) < (n : Int))) (fun h1 => ?_) (fun h1 => ?_)
 · skip
   have h1d := dT h1
   refine wp_skip ?_
   refine then_normal ?_
   refine wp_seq ?_
   refine wp_block ?_
   refine wsr ?_
   refine wv (.slice (some ⟨b, 0, none⟩) n cap) ?_
   refine wv (.int .i64 (i : Int)) ?_
   refine wsix1 b 0 n cap i .i64 slit__int64 ?_
   refine wld b (0 + i) scal_int64 (hb.get (SlI.get hS (by omega))) ?_
   refine wv (.int .i64 c) ?_
   refine wv (.bool ((atI xs i) == c)) ?_
   refine wpList_nil (then_normal ?_)
   refine wsplit ((atI xs i) == c) (fun h2 => ?_) (fun h2 => ?_)
   · skip
     have h2d := eT h2
     refine wsr ?_
     refine wv (.bool true) ?_
     refine wpList_nil (then_normal ?_)
     refine wp_ret ?_
     refine block_ret (then_ret (then_ret (block_ret (then_ret ?_))))
     refine ret1 (.bool (hasN xs c n)) rfl ?_ rfl ?_
     · refine (resT (v := .bool true) (by kernel_rfl)).trans ?_
       refine congrArg Value.bool ?_
       first | exact (hasN_t (i := i) (by omega) (by assumption)).symm | (rw [show n = i by omega]; exact hI.symm)
     exact ⟨rfl, HL1⟩
   · skip
     have h2d := eF h2
     refine wp_skip ?_
     refine block_normal (then_normal ?_)
     refine wp_region_lit ?_
     refine wv (.int .i64 (i : Int)) ?_
     refine wi64 ((i : Int) + 1) ?_
     refine wv (.int .i64 ((i : Int) + 1)) ?_
     refine wpList_nil (then_normal ?_)
     refine ⟨_, ?_, i + 1, rfl, ?_, ?_, HL1, hb, exJ (by kernel_rfl)⟩
     · omega
     · omega
     · exact hasN_s hI (by assumption)
 · skip
   have h1d := dF h1
   refine wp_exit ?_
   refine then_exit ?_
   refine then_exit ?_
   refine block_exit ?_
   refine then_normal ?_
   refine wsr ?_
   refine wv (.bool false) ?_
   refine wpList_nil (then_normal ?_)
   refine wp_ret ?_
   refine ret1 (.bool (hasN xs c n)) rfl ?_ rfl ?_
   · refine (resT (v := .bool false) (by kernel_rfl)).trans ?_
     refine congrArg Value.bool ?_
     first | exact (hasN_t (i := i) (by omega) (by assumption)).symm | (rw [show n = i by omega]; exact hI.symm)
   exact ⟨rfl, HL1⟩


--# HasNumber_any
theorem HasNumber_any (xs : List Int) (n b cap : Nat) (cs : Array Value) (hS : SlI cs n cap .i64 xs) (c : Int) (hn : n ≤ 1048576) (w : World) (hb : Blk w b 2 cs) :
 Calls Try.prog 28 #[.slice (some ⟨b, 0, none⟩) n cap, .int .i64 c] w fun e w' => e = .returned (.bool (hasN xs c n)) ∧ Ext w w' := by
 have hn_ := hS.len
 refine calls_of_wp Try.func28 rfl ?_
 refine wp_frame (a' := ⟨#[.slice (some ⟨b, 0, none⟩) n cap, .int .i64 c, undef, undef, undef, undef, undef, undef], []⟩) (by kernel_rfl) ?_
 refine wsr ?_
 refine wv (.bool false) ?_
 refine wpList_nil (then_normal ?_)
 refine wsr ?_
 refine wv (.slice (some ⟨b, 0, none⟩) n cap) ?_
 refine wv (.int .i64 c) ?_
 refine wcl (l00Has_any xs n b cap cs hS c (by omega) _ hb) ?_
 intro w1 E1
 refine wv (.bool (hasN xs c n)) ?_
 refine wpList_nil (then_normal ?_)
 refine wp_ret ?_
 have H1 := (Ext.refl w).trans E1
 refine ret1 (.bool (hasN xs c n)) rfl ?_ rfl ?_
 · exact resT (by kernel_rfl)
 exact ⟨rfl, H1⟩


--# eqs
theorem un_ok {s t : Int × Int} (h : okP s) (k : okP t) : okP (un0 s.1 t.1, un1 s.2 t.2) := ⟨un0_w h.1 k.1, by unfold un1; constructor <;> (simp only; omega)⟩
theorem wo_ok {s t : Int × Int} (h : okP s) (k : okP t) : okP (wo0 s.1 t.1, wo1 s.2 t.2) := ⟨wo0_w h.1 k.1, by unfold wo1; constructor <;> (simp only; omega)⟩
theorem bo_ok {s t : Int × Int} (h : wrd s.1) (h2 : wrd s.2) (k : okP t) : okP (bo0 s.1 t.1, bo1 s.2 t.2) := ⟨bo0_w h k.1, by unfold bo1; constructor <;> (simp only; omega)⟩
theorem kind_ok {F : Fld} {k : Int} : okP ((kindS F k).1, (kindS F k).2) := by
  by_cases h : code F (inB k 0 3) = 0
  · rw [kindS_t h]; exact setC_ok 100 (Nat.le_refl _)
  · rw [kindS_f h]; exact okP0
theorem len_le (x y : Int) : 0 ≤ ((listL x y).length : Int) ∧ ((listL x y).length : Int) ≤ 100 := by
  have := listL_length x y
  omega
theorem cnt_boI {x y x2 y2 : Int} (h : okP (x, y)) (k : okP (x2, y2)) : ((listL x y).length : Int) = ((listL (bo0 x x2) (bo1 y y2)).length : Int) + ((listL (wo0 x x2) (wo1 y y2)).length : Int) := by
  rw [cnt_bo h.1 h.w2 k.1 k.w2, Int.natCast_add]
theorem cnt_unI {x y x2 y2 : Int} (h : okP (x, y)) (k : okP (x2, y2)) : ((listL (un0 x x2) (un1 y y2)).length : Int) = ((listL (wo0 x x2) (wo1 y y2)).length : Int) + ((listL x2 y2).length : Int) := by
  rw [cnt_un h.1 h.w2 k.1 k.w2, Int.natCast_add]

--# P6Pick_r
-- 18
theorem P6Pick_r (xs : List Int) (v : Value) (n : Int) (hx : xs.length ≤ 4096) (hn : 2 ≤ n ∧ n ≤ 200) (hxb : ∀ i, i < xs.length → 0 ≤ atI xs i ∧ atI xs i ≤ 255) (w : World) (h : SlIn w v .u8 xs) : Calls Try.prog 18 #[v, .int .i64 n] w (NumR w n) :=
  (P6Pick_any xs v n hx hn hxb w h).mono fun e w' h => ⟨_, h.1, ⟨by omega, drM_in hn.1⟩, h.2⟩

--# iCount_is
-- 13
theorem iCount_is (x y : Int) (h : okP (x, y)) (v : Int) (hv : ((listL x y).length : Int) = v) (w : World) : Calls Try.prog 13 #[.agg #[.int .u64 x, .int .u64 y]] w fun e w' => e = .returned (.int .i64 v) ∧ Ext w w' := by
  have h2 := iCountCells_any x y h.1 h.w2 w
  rw [hv] at h2
  exact h2

--# iCellsOf_is
-- 15
theorem iCellsOf_is (x y : Int) (h : okP (x, y)) (b cap : Nat) (cs : Array Value) (hS : SlI cs (listL x y).length cap .i64 (listL x y)) (w : World) (hb : Blk w b 2 cs) : Calls Try.prog 15 #[.slice (some ⟨b, 0, none⟩) (listL x y).length cap] w fun e w' => e = .returned (.tuple #[.agg #[.int .u64 x, .int .u64 y], .int .i64 0]) ∧ Ext w w' := by
  have h2 := iCellsOf_any (listL x y) b cap cs hS (by have := listL_length x y; omega) w hb
  rw [ofL_list h, ofC_list] at h2
  exact h2

--# iRich_is
-- 21
theorem iRich_is (F : Fld) (hF : F.wf) (hk : okB F = true) (c : Int) (hc : isB F c = true) (x y : Int) (w : World) : Calls Try.prog 21 #[.agg F.cells, .agg #[.int .u64 x, .int .u64 y]] w fun e w' => e = .returned (.tuple #[.int .i64 (rich0 F x y), .int .i64 (rich1 F x y), .int .i64 (near2 F c x y)]) ∧ Ext w w' := by
  have h2 := iRichestIn_any F hF x y w
  rw [rich2_n hk hc] at h2
  exact h2

--# iRing_is
-- 23
theorem iRing_is (F : Fld) (hF : F.wf) (hk : okB F = true) (c : Int) (hc : isB F c = true) (m : Int) (hm : 0 ≤ m ∧ m ≤ 200) (w : World) : Calls Try.prog 23 #[.agg F.cells, .int .i64 c, .int .i64 m] w fun e w' => e = .returned (.tuple #[.agg #[.int .u64 ((ringS F c m).1), .int .u64 ((ringS F c m).2)], .int .i64 0]) ∧ Ext w w' := by
  have h2 := iRingOf_any F hF c m w
  rw [ring_c hk hc hm] at h2
  exact h2

--# sRich_is
-- 22
theorem sRich_is (F : Fld) (hF : F.wf) (hk : okB F = true) (c : Int) (hc : isB F c = true) (x y : Int) (w : World) : Calls Try.prog 22 #[.agg F.cells, .agg #[.int .u64 x, .int .u64 y]] w fun e w' => e = .returned (.tuple #[.int .i64 (rich0 F x y), .int .i64 (rich1 F x y), .int .i64 (near2 F c x y)]) ∧ Ext w w' := by
  have h2 := sRichestIn_any F hF x y w
  rw [rich2_n hk hc] at h2
  exact h2

--# sRing_is
-- 24
theorem sRing_is (F : Fld) (hF : F.wf) (hk : okB F = true) (c : Int) (hc : isB F c = true) (m : Int) (hm : 0 ≤ m ∧ m ≤ 200) (w : World) : Calls Try.prog 24 #[.agg F.cells, .int .i64 c, .int .i64 m] w fun e w' => e = .returned (.tuple #[.agg #[.int .u64 ((ringS F c m).1), .int .u64 ((ringS F c m).2)], .int .i64 0]) ∧ Ext w w' := by
  have h2 := sRingOf_any F hF c m w
  rw [ring_c hk hc hm] at h2
  exact h2

--# iKind_is
-- 26
theorem iKind_is (F : Fld) (hF : F.wf) (hk : okB F = true) (k : Int) (h : 0 ≤ k ∧ k ≤ 3) (w : World) : Calls Try.prog 26 #[.agg F.cells, .int .i64 k] w fun e w' => e = .returned (.tuple #[.agg #[.int .u64 ((kindS F k).1), .int .u64 ((kindS F k).2)], .int .i64 0]) ∧ Ext w w' := by
  have h2 := iCellsOfKind_any F hF k w
  rw [kind_c hk h] at h2
  exact h2

--# iSquare_is
-- 31
theorem iSquare_is (F : Fld) (hF : F.wf) (hk : okB F = true) (c : Int) (hc : isB F c = true) (d : Int) (hd : isB F d = true) (w : World) : Calls Try.prog 31 #[.agg F.cells, .int .i64 c, .int .i64 d] w fun e w' => e = .returned (.tuple #[.int .i64 (sqr c d), .int .i64 0]) ∧ Ext w w' := by
  have h2 := iSquareOf_any F hF c d w
  have e : code F (isB F c && isB F d) = 0 := code_0 hk (by rw [hc, hd]; rfl)
  rw [e, if_pos rfl] at h2
  exact h2

--# sHas_in
-- 30
theorem sHas_in (F : Fld) (hF : F.wf) (hk : okB F = true) (c : Int) (hc : isB F c = true) (m : Int) (hm : 0 ≤ m ∧ m ≤ 200) (d : Nat) (hd : d < 100) (hb : isB F (d : Int) = true) (w : World) : Calls Try.prog 30 #[.agg #[.int .u64 ((ringS F c m).1), .int .u64 ((ringS F c m).2)], .int .i64 (d : Int)] w fun e w' => e = .returned (.bool (decide (sqr c (d : Int) ≤ m))) ∧ Ext w w' := by
  have h2 := sHasCell_any (ringS F c m).1 (ringS F c m).2 (d : Int) w
  rw [ring_has hk hc hm hd, hb, Bool.true_and] at h2
  exact h2

--# sHas_out
-- 30
theorem sHas_out (F : Fld) (hF : F.wf) (hk : okB F = true) (c : Int) (hc : isB F c = true) (m : Int) (hm : 0 ≤ m ∧ m ≤ 200) (d : Nat) (hd : d < 100) (hb : isB F (d : Int) = false) (w : World) : Calls Try.prog 30 #[.agg #[.int .u64 ((ringS F c m).1), .int .u64 ((ringS F c m).2)], .int .i64 (d : Int)] w fun e w' => e = .returned (.bool false) ∧ Ext w w' := by
  have h2 := sHasCell_any (ringS F c m).1 (ringS F c m).2 (d : Int) w
  rw [ring_has hk hc hm hd, hb, Bool.false_and] at h2
  exact h2

--# HasNumber_list
-- 28
theorem HasNumber_list (x y : Int) (b cap : Nat) (cs : Array Value) (hS : SlI cs (listL x y).length cap .i64 (listL x y)) (d : Int) (hd : 0 ≤ d ∧ d ≤ 99) (v : Bool) (hv : hasB x y d = v) (w : World) (hb : Blk w b 2 cs) : Calls Try.prog 28 #[.slice (some ⟨b, 0, none⟩) (listL x y).length cap, .int .i64 d] w fun e w' => e = .returned (.bool v) ∧ Ext w w' := by
  have h2 := HasNumber_any (listL x y) (listL x y).length b cap cs hS d (by have := listL_length x y; omega) w hb
  rw [hasN_list x y hd, hv] at h2
  exact h2

--# HasNumber_nb
-- 28
theorem HasNumber_nb (F : Fld) (c : Int) (hc : isB F c = true) (b cap : Nat) (cs : Array Value) (hS : SlI cs (nbL F c).length cap .i64 (nbL F c)) (d : Nat) (hd : d < 100) (hb2 : isB F (d : Int) = true) (w : World) (hb : Blk w b 2 cs) : Calls Try.prog 28 #[.slice (some ⟨b, 0, none⟩) (nbL F c).length cap, .int .i64 (d : Int)] w fun e w' => e = .returned (.bool (sqr c (d : Int) == 1)) ∧ Ext w w' := by
  have h3 := isB_true.1 hc
  have h2 := HasNumber_any (nbL F c) (nbL F c).length b cap cs hS (d : Int) (by have := nbL_length F c; omega) w hb
  rw [nb_has (by omega) hd, hb2, Bool.true_and] at h2
  exact h2
end Go.Proofs.Ytdhidmigngmgjaa
