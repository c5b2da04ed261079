/-
 Contracts: places that cover targets. No conditions.
-/
import Derived.Test.YtgglcebaanomhaaTy
import Derived.Test.YtgglcebaanomhaaSl
import Derived.Test.YtgglcebaanomhaaMth
import Derived.Test.YtgglcebaanomhaaCk
namespace Go.Proofs.Ytgglcebaanomhaa
open Go.RowKit
set_option linter.unusedSimpArgs false
set_option linter.unusedVariables false
set_option maxHeartbeats 4000000
set_option maxRecDepth 100000
attribute [local irreducible] wpList Code.wp
-- 18
theorem duot_impl_Cells : DuoT Try.prog 33 31 := ⟨by kernel_rfl, by kernel_rfl, by kernel_rfl, by kernel_rfl, by kernel_rfl⟩
theorem cut_any (x y : Int) (hy : 0 ≤ y ∧ y ≤ 18446744073709551615) (w : World) :
 Calls Try.prog 76 #[.agg #[.int .u64 x, .int .u64 y]] w fun e w' => e = .returned (.agg #[.int .u64 x, .int .u64 (y % 68719476736)]) ∧ Ext w w' := by
 refine calls_of_wp Try.func76 rfl ?_
 refine wp_frame (a' := ⟨#[.agg #[.int .u64 x, .int .u64 y], undef, undef, undef, undef, undef, undef, undef, undef], []⟩) (by kernel_rfl) ?_
 refine wsr ?_
 refine wbox #[.int .u64 x, .int .u64 y] ?_
 intro g1 w1 B1 E1 hg_
 have lo_g1 := Nat.le_trans ((Ext.refl w)).size hg_
 have H1 := (Ext.refl w).trans E1
 refine wnew #[.int .u64 0, .int .u64 0] Try.zeroValue33 rfl ?_
 intro g2 w2 B2 E2 hg_
 have q_g1_g2 := Nat.ne_of_lt (Nat.lt_of_lt_of_le B1.lt hg_)
 have lo_g2 := Nat.le_trans (H1).size hg_
 refine wpList_nil (then_normal ?_)
 refine wsr ?_
 refine wixn g1 0 0 .i64 arrt_impl_Cells ?_
 replace B1 := B1.ext E2
 refine wld (v := .int .u64 x) g1 (0 + 0) scal_uint64 (B1.get (rfl)) ?_
 refine wixn g1 0 1 .i64 arrt_impl_Cells ?_
 refine wld (v := .int .u64 y) g1 (0 + 1) scal_uint64 (B1.get (rfl)) ?_
 refine wv (.int .u64 (bits BinOp.and IntKind.u64 y 68719476735)) ?_
 refine wv (.agg #[.int .u64 x, .int .u64 (bits BinOp.and IntKind.u64 y 68719476735)]) ?_
 refine wput #[.int .u64 x, .int .u64 (bits BinOp.and IntKind.u64 y 68719476735)] row_impl_Cells B2 (by rfl) (by rfl) (by kernel_rfl) ?_
 intro w3 B2_ X1
 clear B2; have B2 := B2_; clear B2_
 refine wpList_nil (then_normal ?_)
 refine wp_ret ?_
 have H2 := X1.ext w lo_g2 (H1.trans E2)
 refine ret1 (.agg #[.int .u64 x, .int .u64 (y % 68719476736)]) rfl ?_ rfl ?_
 ·refine ⟨g2, 33, #[.int .u64 x, .int .u64 (bits BinOp.and IntKind.u64 y 68719476735)], _, by kernel_rfl, B2, row_impl_Cells, ?_, ?_⟩
  ·rfl
  ·show (.agg #[.int .u64 x, .int .u64 (y % 68719476736)] : Value) = (.agg #[.int .u64 x, .int .u64 (bits BinOp.and IntKind.u64 y 68719476735)])
   refine congrArg Value.agg ?_
   exact cut_eq hy
 exact ⟨rfl, H2⟩
theorem l01Mask_any (x y : Int) (hy : 0 ≤ y ∧ y ≤ 18446744073709551615) (w : World) :
 Calls Try.prog 80 #[.agg #[.int .u64 x, .int .u64 y]] w fun e w' => e = .returned (.agg #[.int .u64 x, .int .u64 (y % 68719476736)]) ∧ Ext w w' := by
 refine calls_of_wp Try.func80 rfl ?_
 refine wp_frame (a' := ⟨#[.agg #[.int .u64 x, .int .u64 y], undef, undef, undef, undef, undef, undef, undef, undef], []⟩) (by kernel_rfl) ?_
 refine wsr ?_
 refine wbox #[.int .u64 x, .int .u64 y] ?_
 intro g1 w1 B1 E1 hg_
 have lo_g1 := Nat.le_trans ((Ext.refl w)).size hg_
 have H1 := (Ext.refl w).trans E1
 refine wnew #[.int .u64 0, .int .u64 0] Try.zeroValue33 rfl ?_
 intro g2 w2 B2 E2 hg_
 have q_g1_g2 := Nat.ne_of_lt (Nat.lt_of_lt_of_le B1.lt hg_)
 have lo_g2 := Nat.le_trans (H1).size hg_
 refine wpList_nil (then_normal ?_)
 refine wsr ?_
 refine wixn g1 0 0 .i64 arrt_impl_Cells ?_
 replace B1 := B1.ext E2
 refine wld (v := .int .u64 x) g1 (0 + 0) scal_uint64 (B1.get (rfl)) ?_
 refine wixn g1 0 1 .i64 arrt_impl_Cells ?_
 refine wld (v := .int .u64 y) g1 (0 + 1) scal_uint64 (B1.get (rfl)) ?_
 refine wv (.int .u64 (bits BinOp.and IntKind.u64 y 68719476735)) ?_
 refine wv (.agg #[.int .u64 x, .int .u64 (bits BinOp.and IntKind.u64 y 68719476735)]) ?_
 refine wput #[.int .u64 x, .int .u64 (bits BinOp.and IntKind.u64 y 68719476735)] row_impl_Cells B2 (by rfl) (by rfl) (by kernel_rfl) ?_
 intro w3 B2_ X1
 clear B2; have B2 := B2_; clear B2_
 refine wpList_nil (then_normal ?_)
 refine wp_ret ?_
 have H2 := X1.ext w lo_g2 (H1.trans E2)
 refine ret1 (.agg #[.int .u64 x, .int .u64 (y % 68719476736)]) rfl ?_ rfl ?_
 ·refine ⟨g2, 33, #[.int .u64 x, .int .u64 (bits BinOp.and IntKind.u64 y 68719476735)], _, by kernel_rfl, B2, row_impl_Cells, ?_, ?_⟩
  ·rfl
  ·show (.agg #[.int .u64 x, .int .u64 (y % 68719476736)] : Value) = (.agg #[.int .u64 x, .int .u64 (bits BinOp.and IntKind.u64 y 68719476735)])
   refine congrArg Value.agg ?_
   exact cut_eq hy
 exact ⟨rfl, H2⟩
theorem iUnion_any (x y : Int) (x2 y2 : Int) (hy : wrd y) (hy2 : wrd y2) (w : World) :
 Calls Try.prog 53 #[.agg #[.int .u64 x, .int .u64 y], .agg #[.int .u64 x2, .int .u64 y2]] w fun e w' => e = .returned (.agg #[.int .u64 (un0 x x2), .int .u64 (un1 y y2)]) ∧ Ext w w' := by
 have wb_ := un_b hy hy2
 refine calls_of_wp Try.func53 rfl ?_
 refine wp_frame (a' := ⟨#[.agg #[.int .u64 x, .int .u64 y], .agg #[.int .u64 x2, .int .u64 y2], undef, undef, undef, undef, undef, undef, undef, undef, undef, undef, undef, undef, undef, undef, undef], []⟩) (by kernel_rfl) ?_
 refine wsr ?_
 refine wbox #[.int .u64 x, .int .u64 y] ?_
 intro g1 w1 B1 E1 hg_
 have lo_g1 := Nat.le_trans ((Ext.refl w)).size hg_
 have H1 := (Ext.refl w).trans E1
 refine wbox #[.int .u64 x2, .int .u64 y2] ?_
 intro g2 w2 B2 E2 hg_
 have q_g1_g2 := Nat.ne_of_lt (Nat.lt_of_lt_of_le B1.lt hg_)
 have lo_g2 := Nat.le_trans (H1).size hg_
 have H2 := H1.trans E2
 replace B1 := B1.ext E2
 refine wnew #[.int .u64 0, .int .u64 0] Try.zeroValue33 rfl ?_
 intro g3 w3 B3 E3 hg_
 have q_g1_g3 := Nat.ne_of_lt (Nat.lt_of_lt_of_le B1.lt hg_)
 have q_g2_g3 := Nat.ne_of_lt (Nat.lt_of_lt_of_le B2.lt hg_)
 have lo_g3 := Nat.le_trans (H2).size hg_
 refine wpList_nil (then_normal ?_)
 refine wsr ?_
 refine wixn g1 0 0 .i64 arrt_impl_Cells ?_
 replace B1 := B1.ext E3
 refine wld (v := .int .u64 x) g1 (0 + 0) scal_uint64 (B1.get (rfl)) ?_
 refine wixn g2 0 0 .i64 arrt_impl_Cells ?_
 replace B2 := B2.ext E3
 refine wld (v := .int .u64 x2) g2 (0 + 0) scal_uint64 (B2.get (rfl)) ?_
 refine wv (.int .u64 (bits BinOp.or IntKind.u64 x x2)) ?_
 refine wixn g1 0 1 .i64 arrt_impl_Cells ?_
 refine wld (v := .int .u64 y) g1 (0 + 1) scal_uint64 (B1.get (rfl)) ?_
 refine wixn g2 0 1 .i64 arrt_impl_Cells ?_
 refine wld (v := .int .u64 y2) g2 (0 + 1) scal_uint64 (B2.get (rfl)) ?_
 refine wv (.int .u64 (bits BinOp.or IntKind.u64 y y2)) ?_
 refine wv (.agg #[.int .u64 (bits BinOp.or IntKind.u64 x x2), .int .u64 (bits BinOp.or IntKind.u64 y y2)]) ?_
 refine wcl (cut_any (bits BinOp.or IntKind.u64 x x2) (bits BinOp.or IntKind.u64 y y2) (by omega) _) ?_
 intro w4 E4
 replace B3 := B3.ext E4
 refine wput #[.int .u64 (bits BinOp.or IntKind.u64 x x2), .int .u64 ((bits BinOp.or IntKind.u64 y y2) % 68719476736)] row_impl_Cells B3 (by rfl) (by rfl) (by kernel_rfl) ?_
 intro w5 B3_ X1
 clear B3; have B3 := B3_; clear B3_
 refine wpList_nil (then_normal ?_)
 refine wp_ret ?_
 have H3 := X1.ext w lo_g3 ((H2.trans E3).trans E4)
 refine ret1 (.agg #[.int .u64 (un0 x x2), .int .u64 (un1 y y2)]) rfl ?_ rfl ?_
 ·refine ⟨g3, 33, #[.int .u64 (bits BinOp.or IntKind.u64 x x2), .int .u64 ((bits BinOp.or IntKind.u64 y y2) % 68719476736)], _, by kernel_rfl, B3, row_impl_Cells, ?_, ?_⟩
  ·rfl
  ·show (.agg #[.int .u64 (un0 x x2), .int .u64 (un1 y y2)] : Value) = (.agg #[.int .u64 (bits BinOp.or IntKind.u64 x x2), .int .u64 ((bits BinOp.or IntKind.u64 y y2) % 68719476736)])
   refine congrArg Value.agg ?_
   exact un_eq
 exact ⟨rfl, H3⟩
theorem iBoth_any (x y : Int) (x2 y2 : Int) (hy : wrd y) (hy2 : wrd y2) (w : World) :
 Calls Try.prog 36 #[.agg #[.int .u64 x, .int .u64 y], .agg #[.int .u64 x2, .int .u64 y2]] w fun e w' => e = .returned (.agg #[.int .u64 (bo0 x x2), .int .u64 (bo1 y y2)]) ∧ Ext w w' := by
 have wb_ := bo_b hy hy2
 refine calls_of_wp Try.func36 rfl ?_
 refine wp_frame (a' := ⟨#[.agg #[.int .u64 x, .int .u64 y], .agg #[.int .u64 x2, .int .u64 y2], undef, undef, undef, undef, undef, undef, undef, undef, undef, undef, undef, undef, undef, undef, undef], []⟩) (by kernel_rfl) ?_
 refine wsr ?_
 refine wbox #[.int .u64 x, .int .u64 y] ?_
 intro g1 w1 B1 E1 hg_
 have lo_g1 := Nat.le_trans ((Ext.refl w)).size hg_
 have H1 := (Ext.refl w).trans E1
 refine wbox #[.int .u64 x2, .int .u64 y2] ?_
 intro g2 w2 B2 E2 hg_
 have q_g1_g2 := Nat.ne_of_lt (Nat.lt_of_lt_of_le B1.lt hg_)
 have lo_g2 := Nat.le_trans (H1).size hg_
 have H2 := H1.trans E2
 replace B1 := B1.ext E2
 refine wnew #[.int .u64 0, .int .u64 0] Try.zeroValue33 rfl ?_
 intro g3 w3 B3 E3 hg_
 have q_g1_g3 := Nat.ne_of_lt (Nat.lt_of_lt_of_le B1.lt hg_)
 have q_g2_g3 := Nat.ne_of_lt (Nat.lt_of_lt_of_le B2.lt hg_)
 have lo_g3 := Nat.le_trans (H2).size hg_
 refine wpList_nil (then_normal ?_)
 refine wsr ?_
 refine wixn g1 0 0 .i64 arrt_impl_Cells ?_
 replace B1 := B1.ext E3
 refine wld (v := .int .u64 x) g1 (0 + 0) scal_uint64 (B1.get (rfl)) ?_
 refine wixn g2 0 0 .i64 arrt_impl_Cells ?_
 replace B2 := B2.ext E3
 refine wld (v := .int .u64 x2) g2 (0 + 0) scal_uint64 (B2.get (rfl)) ?_
 refine wv (.int .u64 (bits BinOp.and IntKind.u64 x x2)) ?_
 refine wixn g1 0 1 .i64 arrt_impl_Cells ?_
 refine wld (v := .int .u64 y) g1 (0 + 1) scal_uint64 (B1.get (rfl)) ?_
 refine wixn g2 0 1 .i64 arrt_impl_Cells ?_
 refine wld (v := .int .u64 y2) g2 (0 + 1) scal_uint64 (B2.get (rfl)) ?_
 refine wv (.int .u64 (bits BinOp.and IntKind.u64 y y2)) ?_
 refine wv (.agg #[.int .u64 (bits BinOp.and IntKind.u64 x x2), .int .u64 (bits BinOp.and IntKind.u64 y y2)]) ?_
 refine wcl (cut_any (bits BinOp.and IntKind.u64 x x2) (bits BinOp.and IntKind.u64 y y2) (by omega) _) ?_
 intro w4 E4
 replace B3 := B3.ext E4
 refine wput #[.int .u64 (bits BinOp.and IntKind.u64 x x2), .int .u64 ((bits BinOp.and IntKind.u64 y y2) % 68719476736)] row_impl_Cells B3 (by rfl) (by rfl) (by kernel_rfl) ?_
 intro w5 B3_ X1
 clear B3; have B3 := B3_; clear B3_
 refine wpList_nil (then_normal ?_)
 refine wp_ret ?_
 have H3 := X1.ext w lo_g3 ((H2.trans E3).trans E4)
 refine ret1 (.agg #[.int .u64 (bo0 x x2), .int .u64 (bo1 y y2)]) rfl ?_ rfl ?_
 ·refine ⟨g3, 33, #[.int .u64 (bits BinOp.and IntKind.u64 x x2), .int .u64 ((bits BinOp.and IntKind.u64 y y2) % 68719476736)], _, by kernel_rfl, B3, row_impl_Cells, ?_, ?_⟩
  ·rfl
  ·show (.agg #[.int .u64 (bo0 x x2), .int .u64 (bo1 y y2)] : Value) = (.agg #[.int .u64 (bits BinOp.and IntKind.u64 x x2), .int .u64 ((bits BinOp.and IntKind.u64 y y2) % 68719476736)])
   refine congrArg Value.agg ?_
   exact bo_eq
 exact ⟨rfl, H3⟩
theorem sBoth_any (x y : Int) (x2 y2 : Int) (hy : wrd y) (hy2 : wrd y2) (w : World) :
 Calls Try.prog 42 #[.agg #[.int .u64 x, .int .u64 y], .agg #[.int .u64 x2, .int .u64 y2]] w fun e w' => e = .returned (.agg #[.int .u64 (bo0 x x2), .int .u64 (bo1 y y2)]) ∧ Ext w w' := by
 have wb_ := bo_b hy hy2
 refine calls_of_wp Try.func42 rfl ?_
 refine wp_frame (a' := ⟨#[.agg #[.int .u64 x, .int .u64 y], .agg #[.int .u64 x2, .int .u64 y2], undef, undef, undef, undef, undef, undef, undef, undef, undef, undef, undef, undef, undef, undef, undef], []⟩) (by kernel_rfl) ?_
 refine wsr ?_
 refine wbox #[.int .u64 x, .int .u64 y] ?_
 intro g1 w1 B1 E1 hg_
 have lo_g1 := Nat.le_trans ((Ext.refl w)).size hg_
 have H1 := (Ext.refl w).trans E1
 refine wbox #[.int .u64 x2, .int .u64 y2] ?_
 intro g2 w2 B2 E2 hg_
 have q_g1_g2 := Nat.ne_of_lt (Nat.lt_of_lt_of_le B1.lt hg_)
 have lo_g2 := Nat.le_trans (H1).size hg_
 have H2 := H1.trans E2
 replace B1 := B1.ext E2
 refine wnew #[.int .u64 0, .int .u64 0] Try.zeroValue33 rfl ?_
 intro g3 w3 B3 E3 hg_
 have q_g1_g3 := Nat.ne_of_lt (Nat.lt_of_lt_of_le B1.lt hg_)
 have q_g2_g3 := Nat.ne_of_lt (Nat.lt_of_lt_of_le B2.lt hg_)
 have lo_g3 := Nat.le_trans (H2).size hg_
 refine wpList_nil (then_normal ?_)
 refine wsr ?_
 refine wixn g1 0 0 .i64 arrt_impl_Cells ?_
 replace B1 := B1.ext E3
 refine wld (v := .int .u64 x) g1 (0 + 0) scal_uint64 (B1.get (rfl)) ?_
 refine wixn g2 0 0 .i64 arrt_impl_Cells ?_
 replace B2 := B2.ext E3
 refine wld (v := .int .u64 x2) g2 (0 + 0) scal_uint64 (B2.get (rfl)) ?_
 refine wv (.int .u64 (bits BinOp.and IntKind.u64 x x2)) ?_
 refine wixn g1 0 1 .i64 arrt_impl_Cells ?_
 refine wld (v := .int .u64 y) g1 (0 + 1) scal_uint64 (B1.get (rfl)) ?_
 refine wixn g2 0 1 .i64 arrt_impl_Cells ?_
 refine wld (v := .int .u64 y2) g2 (0 + 1) scal_uint64 (B2.get (rfl)) ?_
 refine wv (.int .u64 (bits BinOp.and IntKind.u64 y y2)) ?_
 refine wv (.agg #[.int .u64 (bits BinOp.and IntKind.u64 x x2), .int .u64 (bits BinOp.and IntKind.u64 y y2)]) ?_
 refine wcl (l01Mask_any (bits BinOp.and IntKind.u64 x x2) (bits BinOp.and IntKind.u64 y y2) (by omega) _) ?_
 intro w4 E4
 replace B3 := B3.ext E4
 refine wput #[.int .u64 (bits BinOp.and IntKind.u64 x x2), .int .u64 ((bits BinOp.and IntKind.u64 y y2) % 68719476736)] row_impl_Cells B3 (by rfl) (by rfl) (by kernel_rfl) ?_
 intro w5 B3_ X1
 clear B3; have B3 := B3_; clear B3_
 refine wpList_nil (then_normal ?_)
 refine wp_ret ?_
 have H3 := X1.ext w lo_g3 ((H2.trans E3).trans E4)
 refine ret1 (.agg #[.int .u64 (bo0 x x2), .int .u64 (bo1 y y2)]) rfl ?_ rfl ?_
 ·refine ⟨g3, 33, #[.int .u64 (bits BinOp.and IntKind.u64 x x2), .int .u64 ((bits BinOp.and IntKind.u64 y y2) % 68719476736)], _, by kernel_rfl, B3, row_impl_Cells, ?_, ?_⟩
  ·rfl
  ·show (.agg #[.int .u64 (bo0 x x2), .int .u64 (bo1 y y2)] : Value) = (.agg #[.int .u64 (bits BinOp.and IntKind.u64 x x2), .int .u64 ((bits BinOp.and IntKind.u64 y y2) % 68719476736)])
   refine congrArg Value.agg ?_
   exact bo_eq
 exact ⟨rfl, H3⟩
theorem iWithout_any (x y : Int) (x2 y2 : Int) (hy : wrd y) (hy2 : wrd y2) (w : World) :
 Calls Try.prog 37 #[.agg #[.int .u64 x, .int .u64 y], .agg #[.int .u64 x2, .int .u64 y2]] w fun e w' => e = .returned (.agg #[.int .u64 (wo0 x x2), .int .u64 (wo1 y y2)]) ∧ Ext w w' := by
 have wb_ := wo_b hy hy2
 refine calls_of_wp Try.func37 rfl ?_
 refine wp_frame (a' := ⟨#[.agg #[.int .u64 x, .int .u64 y], .agg #[.int .u64 x2, .int .u64 y2], undef, undef, undef, undef, undef, undef, undef, undef, undef, undef, undef, undef, undef, undef, undef], []⟩) (by kernel_rfl) ?_
 refine wsr ?_
 refine wbox #[.int .u64 x, .int .u64 y] ?_
 intro g1 w1 B1 E1 hg_
 have lo_g1 := Nat.le_trans ((Ext.refl w)).size hg_
 have H1 := (Ext.refl w).trans E1
 refine wbox #[.int .u64 x2, .int .u64 y2] ?_
 intro g2 w2 B2 E2 hg_
 have q_g1_g2 := Nat.ne_of_lt (Nat.lt_of_lt_of_le B1.lt hg_)
 have lo_g2 := Nat.le_trans (H1).size hg_
 have H2 := H1.trans E2
 replace B1 := B1.ext E2
 refine wnew #[.int .u64 0, .int .u64 0] Try.zeroValue33 rfl ?_
 intro g3 w3 B3 E3 hg_
 have q_g1_g3 := Nat.ne_of_lt (Nat.lt_of_lt_of_le B1.lt hg_)
 have q_g2_g3 := Nat.ne_of_lt (Nat.lt_of_lt_of_le B2.lt hg_)
 have lo_g3 := Nat.le_trans (H2).size hg_
 refine wpList_nil (then_normal ?_)
 refine wsr ?_
 refine wixn g1 0 0 .i64 arrt_impl_Cells ?_
 replace B1 := B1.ext E3
 refine wld (v := .int .u64 x) g1 (0 + 0) scal_uint64 (B1.get (rfl)) ?_
 refine wixn g2 0 0 .i64 arrt_impl_Cells ?_
 replace B2 := B2.ext E3
 refine wld (v := .int .u64 x2) g2 (0 + 0) scal_uint64 (B2.get (rfl)) ?_
 refine wv (.int .u64 (bits BinOp.andNot IntKind.u64 x x2)) ?_
 refine wixn g1 0 1 .i64 arrt_impl_Cells ?_
 refine wld (v := .int .u64 y) g1 (0 + 1) scal_uint64 (B1.get (rfl)) ?_
 refine wixn g2 0 1 .i64 arrt_impl_Cells ?_
 refine wld (v := .int .u64 y2) g2 (0 + 1) scal_uint64 (B2.get (rfl)) ?_
 refine wv (.int .u64 (bits BinOp.andNot IntKind.u64 y y2)) ?_
 refine wv (.agg #[.int .u64 (bits BinOp.andNot IntKind.u64 x x2), .int .u64 (bits BinOp.andNot IntKind.u64 y y2)]) ?_
 refine wcl (cut_any (bits BinOp.andNot IntKind.u64 x x2) (bits BinOp.andNot IntKind.u64 y y2) (by omega) _) ?_
 intro w4 E4
 replace B3 := B3.ext E4
 refine wput #[.int .u64 (bits BinOp.andNot IntKind.u64 x x2), .int .u64 ((bits BinOp.andNot IntKind.u64 y y2) % 68719476736)] row_impl_Cells B3 (by rfl) (by rfl) (by kernel_rfl) ?_
 intro w5 B3_ X1
 clear B3; have B3 := B3_; clear B3_
 refine wpList_nil (then_normal ?_)
 refine wp_ret ?_
 have H3 := X1.ext w lo_g3 ((H2.trans E3).trans E4)
 refine ret1 (.agg #[.int .u64 (wo0 x x2), .int .u64 (wo1 y y2)]) rfl ?_ rfl ?_
 ·refine ⟨g3, 33, #[.int .u64 (bits BinOp.andNot IntKind.u64 x x2), .int .u64 ((bits BinOp.andNot IntKind.u64 y y2) % 68719476736)], _, by kernel_rfl, B3, row_impl_Cells, ?_, ?_⟩
  ·rfl
  ·show (.agg #[.int .u64 (wo0 x x2), .int .u64 (wo1 y y2)] : Value) = (.agg #[.int .u64 (bits BinOp.andNot IntKind.u64 x x2), .int .u64 ((bits BinOp.andNot IntKind.u64 y y2) % 68719476736)])
   refine congrArg Value.agg ?_
   exact wo_eq
 exact ⟨rfl, H3⟩
theorem soilOf_any (F : Fld) (hF : F.wf) (b : Nat) (t : TypeId) (x y : Int) (hy : wrd y) (w : World) (hb : Blk w b t F.cells) :
 Calls Try.prog 32 #[.pointer (some ⟨b, 0, none⟩), .agg #[.int .u64 x, .int .u64 y]] w fun e w' => e = .returned (.agg #[.int .u64 (bo0 x (setC F (fun c_ => F.k c_.toNat == 0) 100).1), .int .u64 (bo1 y (setC F (fun c_ => F.k c_.toNat == 0) 100).2)]) ∧ Ext w w' := by
 refine calls_of_wp Try.func32 rfl ?_
 refine wp_frame (a' := ⟨#[.pointer (some ⟨b, 0, none⟩), .agg #[.int .u64 x, .int .u64 y], undef, undef, undef, undef, undef, undef, undef], []⟩) (by kernel_rfl) ?_
 refine wsr ?_
 refine wbox #[.int .u64 x, .int .u64 y] ?_
 intro g1 w1 B1 E1 hg_
 have q_b_g1 := Nat.ne_of_lt (Nat.lt_of_lt_of_le hb.lt hg_)
 have lo_g1 := Nat.le_trans ((Ext.refl w)).size hg_
 have H1 := (Ext.refl w).trans E1
 replace hb := hb.ext E1
 refine wnew #[.int .u64 0, .int .u64 0] Try.zeroValue33 rfl ?_
 intro g2 w2 B2 E2 hg_
 have q_b_g2 := Nat.ne_of_lt (Nat.lt_of_lt_of_le hb.lt hg_)
 have q_g1_g2 := Nat.ne_of_lt (Nat.lt_of_lt_of_le B1.lt hg_)
 have lo_g2 := Nat.le_trans (H1).size hg_
 refine wpList_nil (then_normal ?_)
 refine wp_seq ?_
 refine wp_frame (a' := ⟨#[.pointer (some ⟨b, 0, none⟩), .agg #[.int .u64 x, .int .u64 y], undef, .pointer (some ⟨g1, 0, none⟩), .pointer (some ⟨g2, 0, none⟩), undef, undef, undef, undef], []⟩) (by kernel_rfl) ?_
 replace B1 := B1.ext E2
 replace hb := hb.ext E2
 refine region_go 4 [5, 6, 7, 8] [[], [], [1], [0, 2]]
  (fun i_ => ([.val (.agg #[.int .u64 x, .int .u64 y]), .val (.pointer (some ⟨b, 0, none⟩)), .val (.agg #[.int .u64 ((setC F (fun c_ => F.k c_.toNat == 0) 100).1), .int .u64 ((setC F (fun c_ => F.k c_.toNat == 0) 100).2)]), .val (.agg #[.int .u64 (bo0 x ((setC F (fun c_ => F.k c_.toNat == 0) 100).1)), .int .u64 (bo1 y ((setC F (fun c_ => F.k c_.toNat == 0) 100).2))])] : List Fct).getD i_ .any)
  (by kernel_rfl) (by kernel_rfl) (by decide) (by simp) rfl (all_succ (all_succ (all_succ (all_succ all_zero ?_) ?_) ?_) ?_) ?_
 ·refine step0 rfl rfl rfl (fun wr hw => ?_)
  with_reducible refine OpRun.row (x := (.tmp 3)) row_impl_Cells (B1.ext hw) ?_ ?_ ?_ ?_
  ·rfl
  ·rfl
  ·kernel_rfl
  ·exact ⟨Ext.refl _, rfl⟩
 ·refine step0 rfl rfl rfl (fun wr hw => ?_)
  exact OpRun.val (.pointer (some ⟨b, 0, none⟩)) (.pointer (some ⟨b, 0, none⟩)) (by kernel_rfl) rfl ⟨Ext.refl _, rfl⟩
 ·refine step1 rfl rfl rfl rfl (fun u0 wr hw h0 => ?_)
  cases h0
  exact OpRun.call 75 #[.pointer (some ⟨b, 0, none⟩), .int .i64 0] (by kernel_rfl) ((ofKind_any F hF b _ 0 _ (hb.ext hw)).mono fun e w1 ⟨he, hb⟩ => ⟨_, he, hb, rfl⟩)
 ·refine step2 rfl rfl rfl rfl rfl (fun u0 u1 wr hw h0 h1 => ?_)
  cases h0
  cases h1
  exact OpRun.call 36 #[.agg #[.int .u64 x, .int .u64 y], .agg #[.int .u64 ((setC F (fun c_ => F.k c_.toNat == 0) 100).1), .int .u64 ((setC F (fun c_ => F.k c_.toNat == 0) 100).2)]] (by kernel_rfl) ((iBoth_any x y ((setC F (fun c_ => F.k c_.toNat == 0) 100).1) ((setC F (fun c_ => F.k c_.toNat == 0) 100).2) (by first | assumption | exact okP.w2 (setC_ok 100 (Nat.le_refl _)) | exact okP.w2 hI.1) (by first | assumption | exact okP.w2 (setC_ok 100 (Nat.le_refl _)) | exact okP.w2 hI.1) _).mono fun e w1 ⟨he, hb⟩ => ⟨_, he, hb, rfl⟩)
 refine end4 (fun u0 u1 u2 u3 w3 E3 f0 f1 f2 f3 => ?_)
 cases f0
 cases f1
 cases f2
 cases f3
 replace B2 := B2.ext E3
 refine wput #[.int .u64 (bo0 x ((setC F (fun c_ => F.k c_.toNat == 0) 100).1)), .int .u64 (bo1 y ((setC F (fun c_ => F.k c_.toNat == 0) 100).2))] row_impl_Cells B2 (by rfl) (by rfl) (by kernel_rfl) ?_
 intro w4 B2_ X1
 clear B2; have B2 := B2_; clear B2_
 refine wpList_nil (then_normal ?_)
 refine wp_ret ?_
 have H2 := X1.ext w lo_g2 ((H1.trans E2).trans E3)
 refine ret1 (.agg #[.int .u64 (bo0 x (setC F (fun c_ => F.k c_.toNat == 0) 100).1), .int .u64 (bo1 y (setC F (fun c_ => F.k c_.toNat == 0) 100).2)]) rfl ?_ rfl ?_
 ·refine ⟨g2, 33, #[.int .u64 (bo0 x ((setC F (fun c_ => F.k c_.toNat == 0) 100).1)), .int .u64 (bo1 y ((setC F (fun c_ => F.k c_.toNat == 0) 100).2))], _, by kernel_rfl, B2, row_impl_Cells, ?_, ?_⟩
  ·rfl
  ·show (.agg #[.int .u64 (bo0 x (setC F (fun c_ => F.k c_.toNat == 0) 100).1), .int .u64 (bo1 y (setC F (fun c_ => F.k c_.toNat == 0) 100).2)] : Value) = (.agg #[.int .u64 (bo0 x ((setC F (fun c_ => F.k c_.toNat == 0) 100).1)), .int .u64 (bo1 y ((setC F (fun c_ => F.k c_.toNat == 0) 100).2))])
   refine congrArg Value.agg ?_
   rfl
 exact ⟨rfl, H2⟩
theorem l03Targets_any (F : Fld) (hF : F.wf) (b : Nat) (t : TypeId) (x y : Int) (b2 : Nat) (t2 : TypeId) (w : World) (hb : Blk w b t F.cells) (hb2 : Blk w b2 t2 #[.int .u64 x, .int .u64 y]) :
 Calls Try.prog 40 #[.pointer (some ⟨b, 0, none⟩), .pointer (some ⟨b2, 0, none⟩)] w fun e w' => RetI w 2 .i64 (tgL F x y 100) id e w' := by
 refine calls_of_wp Try.func40 rfl ?_
 refine wp_frame (a' := ⟨#[.pointer (some ⟨b, 0, none⟩), .pointer (some ⟨b2, 0, none⟩), undef, undef, undef, undef, undef, undef, undef, undef, undef, undef, undef, undef, undef, undef, undef, undef, undef, undef, undef, undef, undef, undef, undef], []⟩) (by kernel_rfl) ?_
 refine wsr ?_
 refine wv (.slice none 0 0) ?_
 refine wpList_nil (then_normal ?_)
 refine wsr ?_
 refine wbsl 0 #[] slt__int64 ?_
 intro g1 w1 B1 E1 hg_
 have q_b_g1 := Nat.ne_of_lt (Nat.lt_of_lt_of_le hb.lt hg_)
 have q_b2_g1 := Nat.ne_of_lt (Nat.lt_of_lt_of_le hb2.lt hg_)
 have lo_g1 := Nat.le_trans ((Ext.refl w)).size hg_
 have S1 : SlI #[] 0 0 .i64 [] := SlI.nil
 refine wv (.slice (some ⟨g1, 0, none⟩) 0 0) ?_
 refine wpList_nil (then_normal ?_)
 refine wp_seq ?_
 refine wsr ?_
 refine wv (.int .i64 0) ?_
 refine wpList_nil (then_normal ?_)
 refine wp_block ?_
 replace hb := hb.ext E1
 replace hb2 := hb2.ext E1
 have H1 := (Ext.refl w).trans E1
 refine wp_loop_k (fun m1 a wl1 => ∃ (i : Nat) (go : Nat) (no : Nat) (capo : Nat) (cso : Array Value), m1 = 100 - i ∧ i ≤ 100 ∧ SlI cso no capo .i64 (tgL F x y i) ∧ w.heap.size ≤ go ∧ b ≠ go ∧ b2 ≠ go ∧ Ext w wl1 ∧ Blk wl1 b t F.cells ∧ Blk wl1 b2 t2 #[.int .u64 x, .int .u64 y] ∧ Blk wl1 go 2 cso ∧ (∃ J1 : Nat → Value, a = ⟨#[.pointer (some ⟨b, 0, none⟩), .pointer (some ⟨b2, 0, none⟩), undef, undef, .slice none 0 0, .slice (some ⟨go, 0, none⟩) no capo, .int .i64 (i : Int), .slice (some ⟨g1, 0, none⟩) 0 0, J1 8, J1 9, J1 10, J1 11, J1 12, J1 13, J1 14, J1 15, J1 16, J1 17, J1 18, J1 19, J1 20, J1 21, J1 22, J1 23, undef], []⟩)) (100) ?_ ?_
 ·refine ⟨0, g1, 0, 0, #[], rfl, ?_, ?_, ?_, ?_, ?_, H1, hb, hb2, B1, exJ (by kernel_rfl)⟩
  ·omega
  ·refine S1.of_eq ?_
   first | rfl | exact (tgL_0 F x y).symm
  ·exact lo_g1
  ·exact q_b_g1
  ·exact q_b2_g1
 intro m1 a wl1 hI
 obtain ⟨i, go, no, capo, cso, rfl, hi_, So, lo_go, n_b_go, n_b2_go, HL1, hb, hb2, Bo, J1, rfl⟩ := hI
 have cl_ := tgL_length F x y i
 have len_So := So.len
 refine wp_seq ?_
 refine wsr ?_
 refine wv (.int .i64 (i : Int)) ?_
 refine wv (.bool (decide ((i : Int) < 100))) ?_
 refine wpList_nil (then_normal ?_)
 refine wsplit (decide ((i : Int) < 100)) (fun h1 => ?_) (fun h1 => ?_)
 ·skip
  have h1d := dT h1
  refine wp_skip ?_
  refine then_normal ?_
  refine wp_seq ?_
  refine wp_block ?_
  refine wsr ?_
  refine wv (.pointer (some ⟨b, 0, none⟩)) ?_
  refine wv (.int .i64 (i : Int)) ?_
  refine wcl (l03Soil_any F hF b _ (i : Int) _ hb) ?_
  intro w2 E2
  refine wv (.bool (isB F (i : Int) && (F.k (i : Int).toNat == 0))) ?_
  have H2 := HL1.trans E2
  refine split_bool (isB F (i : Int) && (F.k (i : Int).toNat == 0)) (fun h2 => ?_) (fun h2 => ?_)
  ·skip
   refine wbl 15 true h2 ?_
   obtain ⟨h2a, h2b⟩ := andT h2
   have h2ad := isB_true.1 h2a
   have h2bd := eT h2b
   refine wv (.pointer (some ⟨b2, 0, none⟩)) ?_
   refine wv (.int .i64 (i : Int)) ?_
   replace hb2 := hb2.ext E2
   refine wcl (l01Has_any x y b2 _ (i : Int) _ hb2) ?_
   intro w3 E3
   refine wv (.bool (hasB x y (i : Int))) ?_
   refine wpList_nil (then_normal ?_)
   have H3 := H2.trans E3
   refine wsplit (hasB x y (i : Int)) (fun h3 => ?_) (fun h3 => ?_)
   ·skip
    refine wp_region_lit ?_
    refine wv (.slice (some ⟨go, 0, none⟩) no capo) ?_
    refine wv (.int .i64 (i : Int)) ?_
    replace hb := (hb.ext E2).ext E3
    replace hb2 := hb2.ext E3
    replace Bo := (Bo.ext E2).ext E3
    refine wbsl 1 #[.int .i64 (i : Int)] slt__int64 ?_
    intro g2 w4 B2 E4 hg_
    have q_b_g2 := Nat.ne_of_lt (Nat.lt_of_lt_of_le hb.lt hg_)
    have q_b2_g2 := Nat.ne_of_lt (Nat.lt_of_lt_of_le hb2.lt hg_)
    have q_go_g2 := Nat.ne_of_lt (Nat.lt_of_lt_of_le Bo.lt hg_)
    have lo_g2 := Nat.le_trans (H3).size hg_
    replace hb := hb.ext E4
    replace hb2 := hb2.ext E4
    replace Bo := Bo.ext E4
    have H4 := H3.trans E4
    refine wappi (i : Int) slt__int64 Bo So B2 ?_
    intro g3 cap1 cs1 w5 B3 S2 X1 or1
    have n_b_g3 := ne_app hb n_b_go or1
    have n_b2_g3 := ne_app hb2 n_b2_go or1
    have n_g2_g3 := ne_app B2 (Ne.symm q_go_g2) or1
    have lo_g3 := Wr.lo or1 lo_go (H4).size
    refine wv (.slice (some ⟨g3, 0, none⟩) (no + 1) cap1) ?_
    refine wpList_nil (block_normal (then_normal ?_))
    refine wp_region_lit ?_
    refine wv (.int .i64 (i : Int)) ?_
    refine wi64 ((i : Int) + 1) ?_
    refine wv (.int .i64 ((i : Int) + 1)) ?_
    refine wpList_nil (then_normal ?_)
    replace hb := X1.blk hb n_b_go
    replace hb2 := X1.blk hb2 n_b2_go
    have H5 := X1.ext w lo_go H4
    refine ⟨_, ?_, i + 1, g3, no + 1, cap1, cs1, rfl, ?_, ?_, ?_, ?_, ?_, H5, hb, hb2, B3, exJ (by kernel_rfl)⟩
    ·omega
    ·omega
    ·refine S2.of_eq ?_
     first | exact (tgL_a (by assumption)).symm | exact (tgL_b (by assumption)).symm | exact (tgL_c (by assumption) (by assumption)).symm | exact (tgL_d (by assumption)).symm | exact (tgL_e (by assumption)).symm
    ·exact lo_g3
    ·exact n_b_g3
    ·exact n_b2_g3
   ·skip
    refine wp_skip ?_
    refine block_normal (then_normal ?_)
    refine wp_region_lit ?_
    refine wv (.int .i64 (i : Int)) ?_
    refine wi64 ((i : Int) + 1) ?_
    refine wv (.int .i64 ((i : Int) + 1)) ?_
    refine wpList_nil (then_normal ?_)
    replace hb := (hb.ext E2).ext E3
    replace hb2 := hb2.ext E3
    replace Bo := (Bo.ext E2).ext E3
    refine ⟨_, ?_, i + 1, go, no, capo, cso, rfl, ?_, ?_, ?_, ?_, ?_, H3, hb, hb2, Bo, exJ (by kernel_rfl)⟩
    ·omega
    ·omega
    ·refine So.of_eq ?_
     first | exact (tgL_a (by assumption)).symm | exact (tgL_b (by assumption)).symm | exact (tgL_c (by assumption) (by assumption)).symm | exact (tgL_d (by assumption)).symm | exact (tgL_e (by assumption)).symm
    ·exact lo_go
    ·exact n_b_go
    ·exact n_b2_go
  ·skip
   refine wbl 15 false h2 ?_
   refine wsk ?_
   refine wsk ?_
   refine wsk ?_
   refine wv (.bool false) ?_
   refine wpList_nil (then_normal ?_)
   refine wcf ?_
   refine wp_skip ?_
   refine block_normal (then_normal ?_)
   refine wp_region_lit ?_
   refine wv (.int .i64 (i : Int)) ?_
   refine wi64 ((i : Int) + 1) ?_
   refine wv (.int .i64 ((i : Int) + 1)) ?_
   refine wpList_nil (then_normal ?_)
   replace hb := hb.ext E2
   replace hb2 := hb2.ext E2
   replace Bo := Bo.ext E2
   refine ⟨_, ?_, i + 1, go, no, capo, cso, rfl, ?_, ?_, ?_, ?_, ?_, H2, hb, hb2, Bo, exJ (by kernel_rfl)⟩
   ·omega
   ·omega
   ·refine So.of_eq ?_
    first | exact (tgL_a (by assumption)).symm | exact (tgL_b (by assumption)).symm | exact (tgL_c (by assumption) (by assumption)).symm | exact (tgL_d (by assumption)).symm | exact (tgL_e (by assumption)).symm
   ·exact lo_go
   ·exact n_b_go
   ·exact n_b2_go
 ·skip
  have h1d := dF h1
  refine wp_exit ?_
  refine then_exit ?_
  refine then_exit ?_
  refine block_exit ?_
  refine then_normal ?_
  refine wsr ?_
  refine wv (.slice (some ⟨go, 0, none⟩) no capo) ?_
  refine wv (.slice (some ⟨go, 0, none⟩) no capo) ?_
  refine wpList_nil (then_normal ?_)
  refine wp_ret ?_
  refine ret1 (.slice (some ⟨go, 0, none⟩) no capo) rfl ?_ rfl ?_
  ·exact resT (by kernel_rfl)
  have hq : tgL F x y i = tgL F x y 100 := by
   rw [show i = 100 by omega]
  exact ⟨go, no, capo, cso, rfl, Bo, So.of_eq hq, HL1, lo_go⟩
theorem l03Game_any (F : Fld) (hF : F.wf) (b : Nat) (t : TypeId) (m : Int) (n : Int) (w : World) (hb : Blk w b t F.cells) :
 Calls Try.prog 38 #[.pointer (some ⟨b, 0, none⟩), .int .i64 m, .int .i64 n] w fun e w' => e = .returned (.int .i64 (code F (inB m 1 1000 && inB n 1 1000))) ∧ Ext w w' := by
 refine calls_of_wp Try.func38 rfl ?_
 refine wp_frame (a' := ⟨#[.pointer (some ⟨b, 0, none⟩), .int .i64 m, .int .i64 n, undef, undef, undef, undef, undef, undef, undef, undef, undef, undef, undef], []⟩) (by kernel_rfl) ?_
 refine wsr ?_
 refine wv (.int .i64 0) ?_
 refine wpList_nil (then_normal ?_)
 refine wp_seq ?_
 refine wsr ?_
 refine wv (.pointer (some ⟨b, 0, none⟩)) ?_
 refine wcl (l01Ok_any F hF b _ _ hb) ?_
 intro w1 E1
 refine wv (.bool (!(okB F))) ?_
 refine wpList_nil (then_normal ?_)
 refine wsplit (!(okB F)) (fun h1 => ?_) (fun h1 => ?_)
 ·skip
  replace h1 := nbT h1
  refine wsr ?_
  refine wv (.int .i64 1) ?_
  refine wpList_nil (then_normal ?_)
  refine wp_ret ?_
  refine then_ret ?_
  have H1 := (Ext.refl w).trans E1
  refine ret1 (.int .i64 (code F (inB m 1 1000 && inB n 1 1000))) rfl ?_ rfl ?_
  ·refine (resT (v := .int .i64 1) (by kernel_rfl)).trans ?_
   refine congrArg (Value.int _) ?_
   first | exact (code_1 (by assumption)).symm | exact (code_2 (by assumption) (by assumption)).symm | exact (code_0 (by assumption) (by assumption)).symm
  exact ⟨rfl, H1⟩
 ·skip
  replace h1 := nbF h1
  refine wp_skip ?_
  refine then_normal ?_
  refine wp_seq ?_
  refine wsr ?_
  refine wv (.int .i64 m) ?_
  refine wv (.int .i64 n) ?_
  refine wcl (l03Numbers_any m n _) ?_
  intro w2 E2
  refine wv (.bool (!(inB m 1 1000 && inB n 1 1000))) ?_
  refine wpList_nil (then_normal ?_)
  have H2 := ((Ext.refl w).trans E1).trans E2
  refine wsplit (!(inB m 1 1000 && inB n 1 1000)) (fun h2 => ?_) (fun h2 => ?_)
  ·skip
   replace h2 := nbT h2
   have h2d := h2
   try simp only [decide_eq_true_eq, decide_eq_false_iff_not, Bool.and_eq_true, Bool.or_eq_true, Bool.and_eq_false_iff, Bool.or_eq_false_iff, Bool.not_eq_true', Bool.not_eq_false', beq_iff_eq, beq_eq_false_iff_ne, bne_iff_ne, bne_eq_false_iff_eq, gt_iff_lt, ge_iff_le, ne_eq, Decidable.not_not, Int.not_lt, Int.not_le] at h2d
   refine wsr ?_
   refine wv (.int .i64 2) ?_
   refine wpList_nil (then_normal ?_)
   refine wp_ret ?_
   refine then_ret ?_
   refine ret1 (.int .i64 (code F (inB m 1 1000 && inB n 1 1000))) rfl ?_ rfl ?_
   ·refine (resT (v := .int .i64 2) (by kernel_rfl)).trans ?_
    refine congrArg (Value.int _) ?_
    first | exact (code_1 (by assumption)).symm | exact (code_2 (by assumption) (by assumption)).symm | exact (code_0 (by assumption) (by assumption)).symm
   exact ⟨rfl, H2⟩
  ·skip
   replace h2 := nbF h2
   obtain ⟨h2a, h2b⟩ := andT h2
   have h2ad := inT h2a
   have h2bd := inT h2b
   refine wp_skip ?_
   refine then_normal ?_
   refine wsr ?_
   refine wv (.int .i64 0) ?_
   refine wpList_nil (then_normal ?_)
   refine wp_ret ?_
   refine ret1 (.int .i64 (code F (inB m 1 1000 && inB n 1 1000))) rfl ?_ rfl ?_
   ·refine (resT (v := .int .i64 0) (by kernel_rfl)).trans ?_
    refine congrArg (Value.int _) ?_
    first | exact (code_1 (by assumption)).symm | exact (code_2 (by assumption) (by assumption)).symm | exact (code_0 (by assumption) (by assumption)).symm
   exact ⟨rfl, H2⟩
theorem CheckPlaces1_any (w0 : Int) (b0 : Nat) (t0 : TypeId) (l : Int) (b1 : Nat) (t1 : TypeId) (w : World) (hb0 : Blk w b0 t0 #[.int .i64 w0]) (hb1 : Blk w b1 t1 #[.int .i64 l]) :
 Calls Try.prog 62 #[.pointer (some ⟨b0, 0, none⟩), .pointer (some ⟨b1, 0, none⟩)] w fun e w' => e = .returned (.bool (inB w0 1 1000 && inB l 1 1000)) ∧ Ext w w' := by
 refine calls_of_wp Try.func62 rfl ?_
 refine wp_frame (a' := ⟨#[.pointer (some ⟨b0, 0, none⟩), .pointer (some ⟨b1, 0, none⟩), undef, undef, undef, undef], []⟩) (by kernel_rfl) ?_
 refine wsr ?_
 refine wv (.bool false) ?_
 refine wpList_nil (then_normal ?_)
 refine wsr ?_
 refine wld (v := .int .i64 w0) b0 (0) scal_int64 (hb0.get (rfl)) ?_
 refine wld (v := .int .i64 l) b1 (0) scal_int64 (hb1.get (rfl)) ?_
 refine wcl (arePowers_any w0 l _) ?_
 intro w1 E1
 refine wv (.bool (inB w0 1 1000 && inB l 1 1000)) ?_
 refine wpList_nil (then_normal ?_)
 refine wp_ret ?_
 have H1 := (Ext.refl w).trans E1
 refine ret1 (.bool (inB w0 1 1000 && inB l 1 1000)) rfl ?_ rfl ?_
 ·exact resT (by kernel_rfl)
 exact ⟨rfl, H1⟩
theorem iCheckPlaces_any (F : Fld) (hF : F.wf) (w0 : Int) (l : Int) (x y : Int) (xs : List Int) (n bx cap : Nat) (cs : Array Value) (hS : SlI cs n cap .i64 xs) (hn : n ≤ 1048576) (hwx : wrd x) (hwy : wrd y) (w : World) (hbx : Blk w bx 2 cs) :
 Calls Try.prog 18 #[.agg F.cells, .int .i64 w0, .int .i64 l, .agg #[.int .u64 x, .int .u64 y], .slice (some ⟨bx, 0, none⟩) n cap] w fun e w' => e = .returned (.tuple #[.bool (ckB F w0 l x y xs), .int .i64 (code F (inB w0 1 1000 && inB l 1 1000))]) ∧ Ext w w' := by
 have hn_ := hS.len
 refine calls_of_wp Try.func18 rfl ?_
 refine wp_frame (a' := ⟨#[.agg F.cells, .int .i64 w0, .int .i64 l, .agg #[.int .u64 x, .int .u64 y], .slice (some ⟨bx, 0, none⟩) n cap, undef, undef, undef, undef, undef, undef, undef, undef, undef, undef, undef, undef, undef, undef, undef, undef, undef, undef, undef, undef, undef, undef, undef, undef, undef, undef, undef, undef, undef, undef, undef, undef, undef, undef, undef, undef, undef], []⟩) (by kernel_rfl) ?_
 refine wsr ?_
 refine wbox F.cells ?_
 intro g1 w1 B1 E1 hg_
 have q_bx_g1 := Nat.ne_of_lt (Nat.lt_of_lt_of_le hbx.lt hg_)
 have lo_g1 := Nat.le_trans ((Ext.refl w)).size hg_
 have H1 := (Ext.refl w).trans E1
 replace hbx := hbx.ext E1
 refine wboxv (.int .i64 w0) ?_
 intro g2 w2 B2 E2 hg_
 have q_bx_g2 := Nat.ne_of_lt (Nat.lt_of_lt_of_le hbx.lt hg_)
 have q_g1_g2 := Nat.ne_of_lt (Nat.lt_of_lt_of_le B1.lt hg_)
 have lo_g2 := Nat.le_trans (H1).size hg_
 have H2 := H1.trans E2
 replace hbx := hbx.ext E2
 replace B1 := B1.ext E2
 refine wboxv (.int .i64 l) ?_
 intro g3 w3 B3 E3 hg_
 have q_bx_g3 := Nat.ne_of_lt (Nat.lt_of_lt_of_le hbx.lt hg_)
 have q_g1_g3 := Nat.ne_of_lt (Nat.lt_of_lt_of_le B1.lt hg_)
 have q_g2_g3 := Nat.ne_of_lt (Nat.lt_of_lt_of_le B2.lt hg_)
 have lo_g3 := Nat.le_trans (H2).size hg_
 have H3 := H2.trans E3
 replace hbx := hbx.ext E3
 replace B1 := B1.ext E3
 replace B2 := B2.ext E3
 refine wbox #[.int .u64 x, .int .u64 y] ?_
 intro g4 w4 B4 E4 hg_
 have q_bx_g4 := Nat.ne_of_lt (Nat.lt_of_lt_of_le hbx.lt hg_)
 have q_g1_g4 := Nat.ne_of_lt (Nat.lt_of_lt_of_le B1.lt hg_)
 have q_g2_g4 := Nat.ne_of_lt (Nat.lt_of_lt_of_le B2.lt hg_)
 have q_g3_g4 := Nat.ne_of_lt (Nat.lt_of_lt_of_le B3.lt hg_)
 have lo_g4 := Nat.le_trans (H3).size hg_
 refine wv (.bool false) ?_
 refine wv (.int .i64 0) ?_
 refine wpList_nil (then_normal ?_)
 refine wp_seq ?_
 refine wsr ?_
 refine wv (.func (.func 62) #[] #[.pointer (some ⟨g2, 0, none⟩), .pointer (some ⟨g3, 0, none⟩)]) ?_
 replace B1 := B1.ext E4
 replace B2 := B2.ext E4
 replace B3 := B3.ext E4
 refine wcl (fieldCode_any F hF g1 _ (.func (.func 62) #[] #[.pointer (some ⟨g2, 0, none⟩), .pointer (some ⟨g3, 0, none⟩)]) 62 #[.pointer (some ⟨g2, 0, none⟩), .pointer (some ⟨g3, 0, none⟩)] (fun _ => by kernel_rfl) (inB w0 1 1000 && inB l 1 1000) _ B1 (fun _ E_ => CheckPlaces1_any w0 g2 _ l g3 _ _ (B2.ext E_) (B3.ext E_))) ?_
 intro w5 E5
 refine wv (.int .i64 (code F (inB w0 1 1000 && inB l 1 1000))) ?_
 refine wpList_nil (then_normal ?_)
 refine wsr ?_
 refine wv (.int .i64 (code F (inB w0 1 1000 && inB l 1 1000))) ?_
 refine wv (.bool ((code F (inB w0 1 1000 && inB l 1 1000)) != 0)) ?_
 refine wpList_nil (then_normal ?_)
 have H4 := (H3.trans E4).trans E5
 refine wsplit ((code F (inB w0 1 1000 && inB l 1 1000)) != 0) (fun h1 => ?_) (fun h1 => ?_)
 ·skip
  have h1d := nT h1
  refine wsr ?_
  refine wv (.int .i64 (code F (inB w0 1 1000 && inB l 1 1000))) ?_
  refine wv (.bool false) ?_
  refine wv (.int .i64 (code F (inB w0 1 1000 && inB l 1 1000))) ?_
  refine wpList_nil (then_normal ?_)
  refine wp_ret ?_
  refine then_ret ?_
  refine ret2 (.bool (ckB F w0 l x y xs)) (.int .i64 (code F (inB w0 1 1000 && inB l 1 1000))) rfl ?_ ?_ rfl ?_
  ·refine (resT (v := .bool false) (by kernel_rfl)).trans ?_
   refine congrArg Value.bool ?_
   first | exact (ckB_n (by assumption)).symm | exact (ckB_p (by assumption) i (by omega) (by assumption)).symm | (rw [ckB_y (by assumption)]; exact lf_end (by omega) (by rw [show n = i by omega]; exact hI) (fun j hj => hall j (by omega)))
  ·exact resT (by kernel_rfl)
  exact ⟨rfl, H4⟩
 ·skip
  have h1d := nF h1
  have h1o := (code_zero h1d).1
  have h1z := (code_zero h1d).2
  obtain ⟨h1za, h1zb⟩ := andT h1z
  have h1zad := inT h1za
  have h1zbd := inT h1zb
  refine wp_skip ?_
  refine then_normal ?_
  refine wsr ?_
  replace B4 := B4.ext E5
  refine wrow row_impl_Cells B4 (by rfl) ?_
  replace B1 := B1.ext E5
  refine wcl (soilOf_any F hF g1 _ x y (by first | assumption | exact okP.w2 (setC_ok 100 (Nat.le_refl _)) | exact okP.w2 hI.1) _ B1) ?_
  intro w6 E6
  have H5 := H4.trans E6
  replace hbx := ((hbx.ext E4).ext E5).ext E6
  replace B1 := B1.ext E6
  replace B2 := (B2.ext E5).ext E6
  replace B3 := (B3.ext E5).ext E6
  replace B4 := B4.ext E6
  refine wnew #[.int .u64 0, .int .u64 0] Try.zeroValue33 rfl ?_
  intro g5 w7 B5 E7 hg_
  have q_bx_g5 := Nat.ne_of_lt (Nat.lt_of_lt_of_le hbx.lt hg_)
  have q_g1_g5 := Nat.ne_of_lt (Nat.lt_of_lt_of_le B1.lt hg_)
  have q_g2_g5 := Nat.ne_of_lt (Nat.lt_of_lt_of_le B2.lt hg_)
  have q_g3_g5 := Nat.ne_of_lt (Nat.lt_of_lt_of_le B3.lt hg_)
  have q_g4_g5 := Nat.ne_of_lt (Nat.lt_of_lt_of_le B4.lt hg_)
  have lo_g5 := Nat.le_trans (H5).size hg_
  refine wput #[.int .u64 (bo0 x (setC F (fun c_ => F.k c_.toNat == 0) 100).1), .int .u64 (bo1 y (setC F (fun c_ => F.k c_.toNat == 0) 100).2)] row_impl_Cells B5 (by rfl) (by rfl) (by kernel_rfl) ?_
  intro w8 B5_ X1
  clear B5; have B5 := B5_; clear B5_
  refine wpList_nil (then_normal ?_)
  refine wp_seq ?_
  refine wsr ?_
  refine wv (.slice (some ⟨bx, 0, none⟩) n cap) ?_
  refine wv (.int .i64 (n : Int)) ?_
  refine wv (.int .i64 0) ?_
  refine wpList_nil (then_normal ?_)
  refine wp_block ?_
  replace hbx := X1.blk (hbx.ext E7) q_bx_g5
  replace B1 := X1.blk (B1.ext E7) q_g1_g5
  replace B2 := X1.blk (B2.ext E7) q_g2_g5
  replace B3 := X1.blk (B3.ext E7) q_g3_g5
  replace B4 := X1.blk (B4.ext E7) q_g4_g5
  have H6 := X1.ext w lo_g5 (H5.trans E7)
  refine wp_loop_k (fun m1 a wl1 => ∃ (i : Nat) (s_ : Int × Int), m1 = n - i ∧ i ≤ n ∧ lfI F w0 l x y xs i s_ ∧ (∀ j, j < i → plB F (atI xs j) = true) ∧ Ext w wl1 ∧ Blk wl1 bx 2 cs ∧ Blk wl1 g1 29 F.cells ∧ Blk wl1 g2 2 #[.int .i64 w0] ∧ Blk wl1 g3 2 #[.int .i64 l] ∧ Blk wl1 g4 33 #[.int .u64 x, .int .u64 y] ∧ Blk wl1 g5 33 #[.int .u64 s_.1, .int .u64 s_.2] ∧ (∃ J1 : Nat → Value, a = ⟨#[.agg F.cells, .int .i64 w0, .int .i64 l, .agg #[.int .u64 x, .int .u64 y], .slice (some ⟨bx, 0, none⟩) n cap, .pointer (some ⟨g1, 0, none⟩), .pointer (some ⟨g2, 0, none⟩), .pointer (some ⟨g3, 0, none⟩), .pointer (some ⟨g4, 0, none⟩), undef, J1 10, J1 11, .int .i64 (code F (inB w0 1 1000 && inB l 1 1000)), .pointer (some ⟨g5, 0, none⟩), undef, J1 15, .func (.func 62) #[] #[.pointer (some ⟨g2, 0, none⟩), .pointer (some ⟨g3, 0, none⟩)], .int .i64 (code F (inB w0 1 1000 && inB l 1 1000)), .int .i64 (code F (inB w0 1 1000 && inB l 1 1000)), .bool ((code F (inB w0 1 1000 && inB l 1 1000)) != 0), undef, .agg #[.int .u64 x, .int .u64 y], .agg #[.int .u64 (bo0 x (setC F (fun c_ => F.k c_.toNat == 0) 100).1), .int .u64 (bo1 y (setC F (fun c_ => F.k c_.toNat == 0) 100).2)], .slice (some ⟨bx, 0, none⟩) n cap, .int .i64 (n : Int), .int .i64 (i : Int), J1 26, J1 27, J1 28, J1 29, J1 30, J1 31, J1 32, J1 33, J1 34, J1 35, J1 36, J1 37, J1 38, undef, undef, undef], []⟩)) (n) ?_ ?_
  ·refine ⟨0, (bo0 x (setC F (fun c_ => F.k c_.toNat == 0) 100).1, bo1 y (setC F (fun c_ => F.k c_.toNat == 0) 100).2), rfl, ?_, ?_, ?_, H6, hbx, B1, B2, B3, B4, B5, exJ (by kernel_rfl)⟩
   ·omega
   ·exact lf_0 hwx hwy
   ·intro j hj; omega
  intro m1 a wl1 hI
  obtain ⟨i, s_, rfl, hi_, hI, hall, HL1, hbx, B1, B2, B3, B4, B5, J1, rfl⟩ := hI
  refine wsr ?_
  refine wv (.bool (decide ((i : Int) < (n : Int)))) ?_
  refine wpList_nil (then_normal ?_)
  refine wp_seq ?_
  refine wsplit (decide ((i : Int) < (n : Int))) (fun h2 => ?_) (fun h2 => ?_)
  ·skip
   have h2d := dT h2
   refine wp_skip ?_
   refine then_normal ?_
   refine wp_seq ?_
   refine wp_block ?_
   refine wsr ?_
   refine wsix1 bx 0 n cap i .i64 slit__int64 ?_
   refine wld bx (0 + i) scal_int64 (hbx.get (SlI.get hS (by omega))) ?_
   refine wv (.int .i64 (atI xs i)) ?_
   refine wpList_nil (then_normal ?_)
   refine wp_seq ?_
   refine wsr ?_
   refine wv (.int .i64 (atI xs i)) ?_
   refine wcl (isPlace_any F hF g1 _ (atI xs i) _ B1) ?_
   intro w9 E8
   refine wv (.bool (!(isB F (atI xs i) && (F.k (atI xs i).toNat != 3)))) ?_
   refine wpList_nil (then_normal ?_)
   have H7 := HL1.trans E8
   refine wsplit (!(isB F (atI xs i) && (F.k (atI xs i).toNat != 3))) (fun h3 => ?_) (fun h3 => ?_)
   ·skip
    replace h3 := nbT h3
    refine wsr ?_
    refine wv (.bool false) ?_
    refine wv (.int .i64 0) ?_
    refine wpList_nil (then_normal ?_)
    refine wp_ret ?_
    refine then_ret (block_ret (then_ret (then_ret (block_ret (then_ret ?_)))))
    refine ret2 (.bool (ckB F w0 l x y xs)) (.int .i64 (code F (inB w0 1 1000 && inB l 1 1000))) rfl ?_ ?_ rfl ?_
    ·refine (resT (v := .bool false) (by kernel_rfl)).trans ?_
     refine congrArg Value.bool ?_
     first | exact (ckB_n (by assumption)).symm | exact (ckB_p (by assumption) i (by omega) (by assumption)).symm | (rw [ckB_y (by assumption)]; exact lf_end (by omega) (by rw [show n = i by omega]; exact hI) (fun j hj => hall j (by omega)))
    ·refine (resT (v := .int .i64 0) (by kernel_rfl)).trans ?_
     refine congrArg (Value.int _) ?_
     first | (rw [if_pos (by assumption)]; done) | (rw [if_neg (by assumption)]; done) | rfl | assumption | (symm; assumption)
    exact ⟨rfl, H7⟩
   ·skip
    replace h3 := nbF h3
    obtain ⟨h3a, h3b⟩ := andT h3
    have h3ad := isB_true.1 h3a
    have h3bd := nT h3b
    refine wp_skip ?_
    refine then_normal ?_
    refine wp_frame (a' := ⟨#[.agg F.cells, .int .i64 w0, .int .i64 l, .agg #[.int .u64 x, .int .u64 y], .slice (some ⟨bx, 0, none⟩) n cap, .pointer (some ⟨g1, 0, none⟩), .pointer (some ⟨g2, 0, none⟩), .pointer (some ⟨g3, 0, none⟩), .pointer (some ⟨g4, 0, none⟩), undef, J1 10, J1 11, .int .i64 (code F (inB w0 1 1000 && inB l 1 1000)), .pointer (some ⟨g5, 0, none⟩), undef, .int .i64 (atI xs i), .func (.func 62) #[] #[.pointer (some ⟨g2, 0, none⟩), .pointer (some ⟨g3, 0, none⟩)], .int .i64 (code F (inB w0 1 1000 && inB l 1 1000)), .int .i64 (code F (inB w0 1 1000 && inB l 1 1000)), .bool ((code F (inB w0 1 1000 && inB l 1 1000)) != 0), undef, .agg #[.int .u64 x, .int .u64 y], .agg #[.int .u64 (bo0 x (setC F (fun c_ => F.k c_.toNat == 0) 100).1), .int .u64 (bo1 y (setC F (fun c_ => F.k c_.toNat == 0) 100).2)], .slice (some ⟨bx, 0, none⟩) n cap, .int .i64 (n : Int), .int .i64 (i : Int), .bool (decide ((i : Int) < (n : Int))), .pointer (some ⟨bx, 0 + i, none⟩), .int .i64 (atI xs i), .int .i64 (atI xs i), .bool (isB F (atI xs i) && (F.k (atI xs i).toNat != 3)), .bool (!(isB F (atI xs i) && (F.k (atI xs i).toNat != 3))), J1 32, J1 33, J1 34, J1 35, J1 36, J1 37, J1 38, undef, undef, undef], []⟩) (by kernel_rfl) ?_
    replace B5 := B5.ext E8
    replace B2 := B2.ext E8
    replace B3 := B3.ext E8
    replace B1 := B1.ext E8
    refine region_go 6 [32, 33, 34, 35, 36, 37] [[], [], [], [], [1, 2, 3], [0, 4]]
     (fun i_ => ([.val (.agg #[.int .u64 s_.1, .int .u64 s_.2]), .val (.int .i64 (atI xs i)), .val (.int .i64 w0), .val (.int .i64 l), .val (.agg #[.int .u64 ((setC F (fun c_ => cvU F (atI xs i) c_ w0 l) 100).1), .int .u64 ((setC F (fun c_ => cvU F (atI xs i) c_ w0 l) 100).2)]), .val (.agg #[.int .u64 (wo0 s_.1 ((setC F (fun c_ => cvU F (atI xs i) c_ w0 l) 100).1)), .int .u64 (wo1 s_.2 ((setC F (fun c_ => cvU F (atI xs i) c_ w0 l) 100).2))])] : List Fct).getD i_ .any)
     (by kernel_rfl) (by kernel_rfl) (by decide) (by simp) rfl (all_succ (all_succ (all_succ (all_succ (all_succ (all_succ all_zero ?_) ?_) ?_) ?_) ?_) ?_) ?_
    ·refine step0 rfl rfl rfl (fun wr hw => ?_)
     with_reducible refine OpRun.row (x := (.tmp 13)) row_impl_Cells (B5.ext hw) ?_ ?_ ?_ ?_
     ·rfl
     ·rfl
     ·kernel_rfl
     ·exact ⟨Ext.refl _, rfl⟩
    ·refine step0 rfl rfl rfl (fun wr hw => ?_)
     exact OpRun.val (.int .i64 (atI xs i)) (.int .i64 (atI xs i)) (by kernel_rfl) rfl ⟨Ext.refl _, rfl⟩
    ·refine step0 rfl rfl rfl (fun wr hw => ?_)
     exact OpRun.cell (g := g2) (off := 0) (v := .int .i64 w0) scal_int64 rfl (by kernel_rfl) ((B2.ext hw).get (rfl)) ⟨Ext.refl _, rfl⟩
    ·refine step0 rfl rfl rfl (fun wr hw => ?_)
     exact OpRun.cell (g := g3) (off := 0) (v := .int .i64 l) scal_int64 rfl (by kernel_rfl) ((B3.ext hw).get (rfl)) ⟨Ext.refl _, rfl⟩
    ·refine step3 rfl rfl rfl rfl rfl rfl (fun u0 u1 u2 wr hw h0 h1 h2 => ?_)
     cases h0
     cases h1
     cases h2
     exact OpRun.call 64 #[.pointer (some ⟨g1, 0, none⟩), .int .i64 (atI xs i), .int .i64 w0, .int .i64 l] (by kernel_rfl) ((cover_any F hF g1 _ (atI xs i) w0 l (by omega) (by omega) _ (B1.ext hw)).mono fun e w1 ⟨he, hb⟩ => ⟨_, he, hb, rfl⟩)
    ·refine step2 rfl rfl rfl rfl rfl (fun u0 u1 wr hw h0 h1 => ?_)
     cases h0
     cases h1
     exact OpRun.call 37 #[.agg #[.int .u64 s_.1, .int .u64 s_.2], .agg #[.int .u64 ((setC F (fun c_ => cvU F (atI xs i) c_ w0 l) 100).1), .int .u64 ((setC F (fun c_ => cvU F (atI xs i) c_ w0 l) 100).2)]] (by kernel_rfl) ((iWithout_any s_.1 s_.2 ((setC F (fun c_ => cvU F (atI xs i) c_ w0 l) 100).1) ((setC F (fun c_ => cvU F (atI xs i) c_ w0 l) 100).2) (by first | assumption | exact okP.w2 (setC_ok 100 (Nat.le_refl _)) | exact okP.w2 hI.1) (by first | assumption | exact okP.w2 (setC_ok 100 (Nat.le_refl _)) | exact okP.w2 hI.1) _).mono fun e w1 ⟨he, hb⟩ => ⟨_, he, hb, rfl⟩)
    refine end6 (fun u0 u1 u2 u3 u4 u5 w10 E9 f0 f1 f2 f3 f4 f5 => ?_)
    cases f0
    cases f1
    cases f2
    cases f3
    cases f4
    cases f5
    replace B5 := B5.ext E9
    refine wput #[.int .u64 (wo0 s_.1 ((setC F (fun c_ => cvU F (atI xs i) c_ w0 l) 100).1)), .int .u64 (wo1 s_.2 ((setC F (fun c_ => cvU F (atI xs i) c_ w0 l) 100).2))] row_impl_Cells B5 (by rfl) (by rfl) (by kernel_rfl) ?_
    intro w11 B5_ X2
    clear B5; have B5 := B5_; clear B5_
    refine wpList_nil (block_normal (then_normal ?_))
    refine wp_region_lit ?_
    refine wi64 ((i : Int) + 1) ?_
    refine wv (.int .i64 ((i : Int) + 1)) ?_
    refine wpList_nil (then_normal ?_)
    replace hbx := X2.blk ((hbx.ext E8).ext E9) q_bx_g5
    replace B1 := X2.blk (B1.ext E9) q_g1_g5
    replace B2 := X2.blk (B2.ext E9) q_g2_g5
    replace B3 := X2.blk (B3.ext E9) q_g3_g5
    replace B4 := X2.blk ((B4.ext E8).ext E9) q_g4_g5
    have H8 := X2.ext w lo_g5 (H7.trans E9)
    refine ⟨_, ?_, i + 1, (wo0 s_.1 ((setC F (fun c_ => cvU F (atI xs i) c_ w0 l) 100).1), wo1 s_.2 ((setC F (fun c_ => cvU F (atI xs i) c_ w0 l) 100).2)), rfl, ?_, ?_, ?_, H8, hbx, B1, B2, B3, B4, B5, exJ (by kernel_rfl)⟩
    ·omega
    ·omega
    ·exact lf_s hI
    ·intro j hj
     rcases (by omega : j < i ∨ j = i) with h_ | h_
     ·exact hall j h_
     ·subst h_; first | assumption | exact plB_t (by assumption) (by assumption)
  ·skip
   have h2d := dF h2
   refine wp_exit ?_
   refine then_exit ?_
   refine then_exit ?_
   refine block_exit ?_
   refine then_normal ?_
   refine wsr ?_
   refine wrow row_impl_Cells B5 (by rfl) ?_
   refine wv (.agg #[.int .u64 0, .int .u64 0]) ?_
   refine weqA duot_impl_Cells.eg (equalIn_duo duot_impl_Cells 9998 s_.1 s_.2 0 0) ?_
   refine wv (.bool (eq2 s_.1 s_.2 0 0)) ?_
   refine wv (.int .i64 0) ?_
   refine wpList_nil (then_normal ?_)
   refine wp_ret ?_
   refine ret2 (.bool (ckB F w0 l x y xs)) (.int .i64 (code F (inB w0 1 1000 && inB l 1 1000))) rfl ?_ ?_ rfl ?_
   ·refine (resT (v := .bool (eq2 s_.1 s_.2 0 0)) (by kernel_rfl)).trans ?_
    refine congrArg Value.bool ?_
    first | exact (ckB_n (by assumption)).symm | exact (ckB_p (by assumption) i (by omega) (by assumption)).symm | (rw [ckB_y (by assumption)]; exact lf_end (by omega) (by rw [show n = i by omega]; exact hI) (fun j hj => hall j (by omega)))
   ·refine (resT (v := .int .i64 0) (by kernel_rfl)).trans ?_
    refine congrArg (Value.int _) ?_
    first | (rw [if_pos (by assumption)]; done) | (rw [if_neg (by assumption)]; done) | rfl | assumption | (symm; assumption)
   exact ⟨rfl, HL1⟩
