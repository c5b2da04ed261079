/-
  Contracts: places that cover targets. No conditions.
-/
import Derived.Test.YtldlaohefgianaaTy
import Derived.Test.YtldlaohefgianaaSl
import Derived.Test.YtldlaohefgianaaMth
import Derived.Test.YtldlaohefgianaaCk
namespace Go.Proofs.Ytldlaohefgianaa
open Go.RowKit
set_option linter.unusedSimpArgs false
set_option linter.unusedVariables false
set_option maxHeartbeats 4000000
set_option maxRecDepth 100000
attribute [local irreducible] wpList Code.wp
--# cut_any
theorem cut_any (x y : Int) (hy : 0 ≤ y ∧ y ≤ 18446744073709551615) (w : World) :
 Calls Try.prog 67 #[.agg #[.int .u64 x, .int .u64 y]] w fun e w' => e = .returned (.agg #[.int .u64 x, .int .u64 (y % 68719476736)]) ∧ Ext w w' := by
 refine calls_of_wp Try.func67 rfl ?_
 refine wp_frame (a' := ⟨#[.agg #[.int .u64 x, .int .u64 y], undef, undef, undef, undef, undef, undef, undef, undef], []⟩) (by kernel_rfl) ?_
 refine wsr ?_
 refine wbox #[.int .u64 x, .int .u64 y] ?_
 intro g1 w1 B1 E1 hg_
 have lo_g1 := Nat.le_trans ((Ext.refl w)).size hg_
 have H1 := (Ext.refl w).trans E1
 refine wnew #[.int .u64 0, .int .u64 0] Try.zeroValue43 rfl ?_
 intro g2 w2 B2 E2 hg_
 have q_g1_g2 := Nat.ne_of_lt (Nat.lt_of_lt_of_le B1.lt hg_)
 have lo_g2 := Nat.le_trans (H1).size hg_
 refine wpList_nil (then_normal ?_)
 refine wsr ?_
 refine wixn g1 0 0 .i64 arrt_impl_Cells ?_
 replace B1 := B1.ext E2
 refine wld (v := .int .u64 x) g1 (0 + 0) scal_uint64 (B1.get (rfl)) ?_
 refine wixn g1 0 1 .i64 arrt_impl_Cells ?_
 refine wld (v := .int .u64 y) g1 (0 + 1) scal_uint64 (B1.get (rfl)) ?_
 refine wv (.int .u64 (bits BinOp.and IntKind.u64 y 68719476735)) ?_
 refine wv (.agg #[.int .u64 x, .int .u64 (bits BinOp.and IntKind.u64 y 68719476735)]) ?_
 refine wput #[.int .u64 x, .int .u64 (bits BinOp.and IntKind.u64 y 68719476735)] row_impl_Cells B2 (by rfl) (by rfl) (by kernel_rfl) ?_
 intro w3 B2_ X1
 clear B2; have B2 := B2_; clear B2_
 refine wpList_nil (then_normal ?_)
 refine wp_ret ?_
 have H2 := X1.ext w lo_g2 (H1.trans E2)
 refine ret1 (.agg #[.int .u64 x, .int .u64 (y % 68719476736)]) rfl ?_ rfl ?_
 · refine ⟨g2, 43, #[.int .u64 x, .int .u64 (bits BinOp.and IntKind.u64 y 68719476735)], _, by kernel_rfl, B2, row_impl_Cells, ?_, ?_⟩
   · rfl
   · show (.agg #[.int .u64 x, .int .u64 (y % 68719476736)] : Value) = (.agg #[.int .u64 x, .int .u64 (bits BinOp.and IntKind.u64 y 68719476735)])
     refine congrArg Value.agg ?_
     exact cut_eq hy
 exact ⟨rfl, H2⟩


--# l01Mask_any
theorem l01Mask_any (x y : Int) (hy : 0 ≤ y ∧ y ≤ 18446744073709551615) (w : World) :
 Calls Try.prog 65 #[.agg #[.int .u64 x, .int .u64 y]] w fun e w' => e = .returned (.agg #[.int .u64 x, .int .u64 (y % 68719476736)]) ∧ Ext w w' := by
 refine calls_of_wp Try.func65 rfl ?_
 refine wp_frame (a' := ⟨#[.agg #[.int .u64 x, .int .u64 y], undef, undef, undef, undef, undef, undef, undef, undef], []⟩) (by kernel_rfl) ?_
 refine wsr ?_
 refine wbox #[.int .u64 x, .int .u64 y] ?_
 intro g1 w1 B1 E1 hg_
 have lo_g1 := Nat.le_trans ((Ext.refl w)).size hg_
 have H1 := (Ext.refl w).trans E1
 refine wnew #[.int .u64 0, .int .u64 0] Try.zeroValue43 rfl ?_
 intro g2 w2 B2 E2 hg_
 have q_g1_g2 := Nat.ne_of_lt (Nat.lt_of_lt_of_le B1.lt hg_)
 have lo_g2 := Nat.le_trans (H1).size hg_
 refine wpList_nil (then_normal ?_)
 refine wsr ?_
 refine wixn g1 0 0 .i64 arrt_impl_Cells ?_
 replace B1 := B1.ext E2
 refine wld (v := .int .u64 x) g1 (0 + 0) scal_uint64 (B1.get (rfl)) ?_
 refine wixn g1 0 1 .i64 arrt_impl_Cells ?_
 refine wld (v := .int .u64 y) g1 (0 + 1) scal_uint64 (B1.get (rfl)) ?_
 refine wv (.int .u64 (bits BinOp.and IntKind.u64 y 68719476735)) ?_
 refine wv (.agg #[.int .u64 x, .int .u64 (bits BinOp.and IntKind.u64 y 68719476735)]) ?_
 refine wput #[.int .u64 x, .int .u64 (bits BinOp.and IntKind.u64 y 68719476735)] row_impl_Cells B2 (by rfl) (by rfl) (by kernel_rfl) ?_
 intro w3 B2_ X1
 clear B2; have B2 := B2_; clear B2_
 refine wpList_nil (then_normal ?_)
 refine wp_ret ?_
 have H2 := X1.ext w lo_g2 (H1.trans E2)
 refine ret1 (.agg #[.int .u64 x, .int .u64 (y % 68719476736)]) rfl ?_ rfl ?_
 · refine ⟨g2, 43, #[.int .u64 x, .int .u64 (bits BinOp.and IntKind.u64 y 68719476735)], _, by kernel_rfl, B2, row_impl_Cells, ?_, ?_⟩
   · rfl
   · show (.agg #[.int .u64 x, .int .u64 (y % 68719476736)] : Value) = (.agg #[.int .u64 x, .int .u64 (bits BinOp.and IntKind.u64 y 68719476735)])
     refine congrArg Value.agg ?_
     exact cut_eq hy
 exact ⟨rfl, H2⟩


--# iBoth_any
theorem iBoth_any (x y : Int) (x2 y2 : Int) (hy : wrd y) (hy2 : wrd y2) (w : World) :
 Calls Try.prog 57 #[.agg #[.int .u64 x, .int .u64 y], .agg #[.int .u64 x2, .int .u64 y2]] w fun e w' => e = .returned (.agg #[.int .u64 (bo0 x x2), .int .u64 (bo1 y y2)]) ∧ Ext w w' := by
 have wb_ := bo_b hy hy2
 refine calls_of_wp Try.func57 rfl ?_
 refine wp_frame (a' := ⟨#[.agg #[.int .u64 x, .int .u64 y], .agg #[.int .u64 x2, .int .u64 y2], undef, undef, undef, undef, undef, undef, undef, undef, undef, undef, undef, undef, undef, undef, undef], []⟩) (by kernel_rfl) ?_
 refine wsr ?_
 refine wbox #[.int .u64 x, .int .u64 y] ?_
 intro g1 w1 B1 E1 hg_
 have lo_g1 := Nat.le_trans ((Ext.refl w)).size hg_
 have H1 := (Ext.refl w).trans E1
 refine wbox #[.int .u64 x2, .int .u64 y2] ?_
 intro g2 w2 B2 E2 hg_
 have q_g1_g2 := Nat.ne_of_lt (Nat.lt_of_lt_of_le B1.lt hg_)
 have lo_g2 := Nat.le_trans (H1).size hg_
 have H2 := H1.trans E2
 replace B1 := B1.ext E2
 refine wnew #[.int .u64 0, .int .u64 0] Try.zeroValue43 rfl ?_
 intro g3 w3 B3 E3 hg_
 have q_g1_g3 := Nat.ne_of_lt (Nat.lt_of_lt_of_le B1.lt hg_)
 have q_g2_g3 := Nat.ne_of_lt (Nat.lt_of_lt_of_le B2.lt hg_)
 have lo_g3 := Nat.le_trans (H2).size hg_
 refine wpList_nil (then_normal ?_)
 refine wsr ?_
 refine wixn g1 0 0 .i64 arrt_impl_Cells ?_
 replace B1 := B1.ext E3
 refine wld (v := .int .u64 x) g1 (0 + 0) scal_uint64 (B1.get (rfl)) ?_
 refine wixn g2 0 0 .i64 arrt_impl_Cells ?_
 replace B2 := B2.ext E3
 refine wld (v := .int .u64 x2) g2 (0 + 0) scal_uint64 (B2.get (rfl)) ?_
 refine wv (.int .u64 (bits BinOp.and IntKind.u64 x x2)) ?_
 refine wixn g1 0 1 .i64 arrt_impl_Cells ?_
 refine wld (v := .int .u64 y) g1 (0 + 1) scal_uint64 (B1.get (rfl)) ?_
 refine wixn g2 0 1 .i64 arrt_impl_Cells ?_
 refine wld (v := .int .u64 y2) g2 (0 + 1) scal_uint64 (B2.get (rfl)) ?_
 refine wv (.int .u64 (bits BinOp.and IntKind.u64 y y2)) ?_
 refine wv (.agg #[.int .u64 (bits BinOp.and IntKind.u64 x x2), .int .u64 (bits BinOp.and IntKind.u64 y y2)]) ?_
 refine wcl (cut_any (bits BinOp.and IntKind.u64 x x2) (bits BinOp.and IntKind.u64 y y2) (by omega) _) ?_
 intro w4 E4
 replace B3 := B3.ext E4
 refine wput #[.int .u64 (bits BinOp.and IntKind.u64 x x2), .int .u64 ((bits BinOp.and IntKind.u64 y y2) % 68719476736)] row_impl_Cells B3 (by rfl) (by rfl) (by kernel_rfl) ?_
 intro w5 B3_ X1
 clear B3; have B3 := B3_; clear B3_
 refine wpList_nil (then_normal ?_)
 refine wp_ret ?_
 have H3 := X1.ext w lo_g3 ((H2.trans E3).trans E4)
 refine ret1 (.agg #[.int .u64 (bo0 x x2), .int .u64 (bo1 y y2)]) rfl ?_ rfl ?_
 · refine ⟨g3, 43, #[.int .u64 (bits BinOp.and IntKind.u64 x x2), .int .u64 ((bits BinOp.and IntKind.u64 y y2) % 68719476736)], _, by kernel_rfl, B3, row_impl_Cells, ?_, ?_⟩
   · rfl
   · show (.agg #[.int .u64 (bo0 x x2), .int .u64 (bo1 y y2)] : Value) = (.agg #[.int .u64 (bits BinOp.and IntKind.u64 x x2), .int .u64 ((bits BinOp.and IntKind.u64 y y2) % 68719476736)])
     refine congrArg Value.agg ?_
     exact bo_eq
 exact ⟨rfl, H3⟩


--# iWithout_any
theorem iWithout_any (x y : Int) (x2 y2 : Int) (hy : wrd y) (hy2 : wrd y2) (w : World) :
 Calls Try.prog 55 #[.agg #[.int .u64 x, .int .u64 y], .agg #[.int .u64 x2, .int .u64 y2]] w fun e w' => e = .returned (.agg #[.int .u64 (wo0 x x2), .int .u64 (wo1 y y2)]) ∧ Ext w w' := by
 have wb_ := wo_b hy hy2
 refine calls_of_wp Try.func55 rfl ?_
 refine wp_frame (a' := ⟨#[.agg #[.int .u64 x, .int .u64 y], .agg #[.int .u64 x2, .int .u64 y2], undef, undef, undef, undef, undef, undef, undef, undef, undef, undef, undef, undef, undef, undef, undef], []⟩) (by kernel_rfl) ?_
 refine wsr ?_
 refine wbox #[.int .u64 x, .int .u64 y] ?_
 intro g1 w1 B1 E1 hg_
 have lo_g1 := Nat.le_trans ((Ext.refl w)).size hg_
 have H1 := (Ext.refl w).trans E1
 refine wbox #[.int .u64 x2, .int .u64 y2] ?_
 intro g2 w2 B2 E2 hg_
 have q_g1_g2 := Nat.ne_of_lt (Nat.lt_of_lt_of_le B1.lt hg_)
 have lo_g2 := Nat.le_trans (H1).size hg_
 have H2 := H1.trans E2
 replace B1 := B1.ext E2
 refine wnew #[.int .u64 0, .int .u64 0] Try.zeroValue43 rfl ?_
 intro g3 w3 B3 E3 hg_
 have q_g1_g3 := Nat.ne_of_lt (Nat.lt_of_lt_of_le B1.lt hg_)
 have q_g2_g3 := Nat.ne_of_lt (Nat.lt_of_lt_of_le B2.lt hg_)
 have lo_g3 := Nat.le_trans (H2).size hg_
 refine wpList_nil (then_normal ?_)
 refine wsr ?_
 refine wixn g1 0 0 .i64 arrt_impl_Cells ?_
 replace B1 := B1.ext E3
 refine wld (v := .int .u64 x) g1 (0 + 0) scal_uint64 (B1.get (rfl)) ?_
 refine wixn g2 0 0 .i64 arrt_impl_Cells ?_
 replace B2 := B2.ext E3
 refine wld (v := .int .u64 x2) g2 (0 + 0) scal_uint64 (B2.get (rfl)) ?_
 refine wv (.int .u64 (bits BinOp.andNot IntKind.u64 x x2)) ?_
 refine wixn g1 0 1 .i64 arrt_impl_Cells ?_
 refine wld (v := .int .u64 y) g1 (0 + 1) scal_uint64 (B1.get (rfl)) ?_
 refine wixn g2 0 1 .i64 arrt_impl_Cells ?_
 refine wld (v := .int .u64 y2) g2 (0 + 1) scal_uint64 (B2.get (rfl)) ?_
 refine wv (.int .u64 (bits BinOp.andNot IntKind.u64 y y2)) ?_
 refine wv (.agg #[.int .u64 (bits BinOp.andNot IntKind.u64 x x2), .int .u64 (bits BinOp.andNot IntKind.u64 y y2)]) ?_
 refine wcl (cut_any (bits BinOp.andNot IntKind.u64 x x2) (bits BinOp.andNot IntKind.u64 y y2) (by omega) _) ?_
 intro w4 E4
 replace B3 := B3.ext E4
 refine wput #[.int .u64 (bits BinOp.andNot IntKind.u64 x x2), .int .u64 ((bits BinOp.andNot IntKind.u64 y y2) % 68719476736)] row_impl_Cells B3 (by rfl) (by rfl) (by kernel_rfl) ?_
 intro w5 B3_ X1
 clear B3; have B3 := B3_; clear B3_
 refine wpList_nil (then_normal ?_)
 refine wp_ret ?_
 have H3 := X1.ext w lo_g3 ((H2.trans E3).trans E4)
 refine ret1 (.agg #[.int .u64 (wo0 x x2), .int .u64 (wo1 y y2)]) rfl ?_ rfl ?_
 · refine ⟨g3, 43, #[.int .u64 (bits BinOp.andNot IntKind.u64 x x2), .int .u64 ((bits BinOp.andNot IntKind.u64 y y2) % 68719476736)], _, by kernel_rfl, B3, row_impl_Cells, ?_, ?_⟩
   · rfl
   · show (.agg #[.int .u64 (wo0 x x2), .int .u64 (wo1 y y2)] : Value) = (.agg #[.int .u64 (bits BinOp.andNot IntKind.u64 x x2), .int .u64 ((bits BinOp.andNot IntKind.u64 y y2) % 68719476736)])
     refine congrArg Value.agg ?_
     exact wo_eq
 exact ⟨rfl, H3⟩


--# soilOf_any
theorem soilOf_any (F : Fld) (hF : F.wf) (b : Nat) (t : TypeId) (x y : Int) (hy : wrd y) (w : World) (hb : Blk w b t F.cells) :
 Calls Try.prog 36 #[.pointer (some ⟨b, 0, none⟩), .agg #[.int .u64 x, .int .u64 y]] w fun e w' => e = .returned (.agg #[.int .u64 (bo0 x (setC F (fun c_ => F.k c_.toNat == 0) 100).1), .int .u64 (bo1 y (setC F (fun c_ => F.k c_.toNat == 0) 100).2)]) ∧ Ext w w' := by
 refine calls_of_wp Try.func36 rfl ?_
 refine wp_frame (a' := ⟨#[.pointer (some ⟨b, 0, none⟩), .agg #[.int .u64 x, .int .u64 y], undef, undef, undef, undef, undef, undef, undef], []⟩) (by kernel_rfl) ?_
 refine wsr ?_
 refine wbox #[.int .u64 x, .int .u64 y] ?_
 intro g1 w1 B1 E1 hg_
 have q_b_g1 := Nat.ne_of_lt (Nat.lt_of_lt_of_le hb.lt hg_)
 have lo_g1 := Nat.le_trans ((Ext.refl w)).size hg_
 have H1 := (Ext.refl w).trans E1
 replace hb := hb.ext E1
 refine wnew #[.int .u64 0, .int .u64 0] Try.zeroValue43 rfl ?_
 intro g2 w2 B2 E2 hg_
 have q_b_g2 := Nat.ne_of_lt (Nat.lt_of_lt_of_le hb.lt hg_)
 have q_g1_g2 := Nat.ne_of_lt (Nat.lt_of_lt_of_le B1.lt hg_)
 have lo_g2 := Nat.le_trans (H1).size hg_
 refine wpList_nil (then_normal ?_)
 refine wp_seq ?_
 refine wp_frame (a' := ⟨#[.pointer (some ⟨b, 0, none⟩), .agg #[.int .u64 x, .int .u64 y], undef, .pointer (some ⟨g1, 0, none⟩), .pointer (some ⟨g2, 0, none⟩), undef, undef, undef, undef], []⟩) (by kernel_rfl) ?_
 replace B1 := B1.ext E2
 replace hb := hb.ext E2
 refine region_go 4 [5, 6, 7, 8] [[], [], [1], [0, 2]]
  (fun i_ => ([.val (.agg #[.int .u64 x, .int .u64 y]), .val (.pointer (some ⟨b, 0, none⟩)), .val (.agg #[.int .u64 ((setC F (fun c_ => F.k c_.toNat == 0) 100).1), .int .u64 ((setC F (fun c_ => F.k c_.toNat == 0) 100).2)]), .val (.agg #[.int .u64 (bo0 x ((setC F (fun c_ => F.k c_.toNat == 0) 100).1)), .int .u64 (bo1 y ((setC F (fun c_ => F.k c_.toNat == 0) 100).2))])] : List Fct).getD i_ .any)
  (by kernel_rfl) (by kernel_rfl) (by decide) (by simp) rfl (all_succ (all_succ (all_succ (all_succ all_zero ?_) ?_) ?_) ?_) ?_
 · refine step0 rfl rfl rfl (fun wr hw => ?_)
   with_reducible refine OpRun.row (x := (.tmp 3)) row_impl_Cells (B1.ext hw) ?_ ?_ ?_ ?_
   · rfl
   · rfl
   · kernel_rfl
   · exact ⟨Ext.refl _, rfl⟩
 · refine step0 rfl rfl rfl (fun wr hw => ?_)
   exact OpRun.val (.pointer (some ⟨b, 0, none⟩)) (.pointer (some ⟨b, 0, none⟩)) (by kernel_rfl) rfl ⟨Ext.refl _, rfl⟩
 · refine step1 rfl rfl rfl rfl (fun u0 wr hw h0 => ?_)
   cases h0
   exact OpRun.call 58 #[.pointer (some ⟨b, 0, none⟩), .int .i64 0] (by kernel_rfl) ((ofKind_any F hF b _ 0 _ (hb.ext hw)).mono fun e w1 ⟨he, hb⟩ => ⟨_, he, hb, rfl⟩)
 · refine step2 rfl rfl rfl rfl rfl (fun u0 u1 wr hw h0 h1 => ?_)
   cases h0
   cases h1
   exact OpRun.call 57 #[.agg #[.int .u64 x, .int .u64 y], .agg #[.int .u64 ((setC F (fun c_ => F.k c_.toNat == 0) 100).1), .int .u64 ((setC F (fun c_ => F.k c_.toNat == 0) 100).2)]] (by kernel_rfl) ((iBoth_any x y ((setC F (fun c_ => F.k c_.toNat == 0) 100).1) ((setC F (fun c_ => F.k c_.toNat == 0) 100).2) (by first | assumption | exact okP.w2 (setC_ok 100 (Nat.le_refl _)) | exact okP.w2 hI.1) (by first | assumption | exact okP.w2 (setC_ok 100 (Nat.le_refl _)) | exact okP.w2 hI.1) _).mono fun e w1 ⟨he, hb⟩ => ⟨_, he, hb, rfl⟩)
 refine end4 (fun u0 u1 u2 u3 w3 E3 f0 f1 f2 f3 => ?_)
 cases f0
 cases f1
 cases f2
 cases f3
 replace B2 := B2.ext E3
 refine wput #[.int .u64 (bo0 x ((setC F (fun c_ => F.k c_.toNat == 0) 100).1)), .int .u64 (bo1 y ((setC F (fun c_ => F.k c_.toNat == 0) 100).2))] row_impl_Cells B2 (by rfl) (by rfl) (by kernel_rfl) ?_
 intro w4 B2_ X1
 clear B2; have B2 := B2_; clear B2_
 refine wpList_nil (then_normal ?_)
 refine wp_ret ?_
 have H2 := X1.ext w lo_g2 ((H1.trans E2).trans E3)
 refine ret1 (.agg #[.int .u64 (bo0 x (setC F (fun c_ => F.k c_.toNat == 0) 100).1), .int .u64 (bo1 y (setC F (fun c_ => F.k c_.toNat == 0) 100).2)]) rfl ?_ rfl ?_
 · refine ⟨g2, 43, #[.int .u64 (bo0 x ((setC F (fun c_ => F.k c_.toNat == 0) 100).1)), .int .u64 (bo1 y ((setC F (fun c_ => F.k c_.toNat == 0) 100).2))], _, by kernel_rfl, B2, row_impl_Cells, ?_, ?_⟩
   · rfl
   · show (.agg #[.int .u64 (bo0 x (setC F (fun c_ => F.k c_.toNat == 0) 100).1), .int .u64 (bo1 y (setC F (fun c_ => F.k c_.toNat == 0) 100).2)] : Value) = (.agg #[.int .u64 (bo0 x ((setC F (fun c_ => F.k c_.toNat == 0) 100).1)), .int .u64 (bo1 y ((setC F (fun c_ => F.k c_.toNat == 0) 100).2))])
     refine congrArg Value.agg ?_
     rfl
 exact ⟨rfl, H2⟩


--# l03Targets_any
theorem l03Targets_any (F : Fld) (hF : F.wf) (b : Nat) (t : TypeId) (x y : Int) (b2 : Nat) (t2 : TypeId) (w : World) (hb : Blk w b t F.cells) (hb2 : Blk w b2 t2 #[.int .u64 x, .int .u64 y]) :
 Calls Try.prog 28 #[.pointer (some ⟨b, 0, none⟩), .pointer (some ⟨b2, 0, none⟩)] w fun e w' => RetI w 2 .i64 (tgL F x y 100) id e w' := by
 refine calls_of_wp Try.func28 rfl ?_
 refine wp_frame (a' := ⟨#[.pointer (some ⟨b, 0, none⟩), .pointer (some ⟨b2, 0, none⟩), undef, undef, undef, undef, undef, undef, undef, undef, undef, undef, undef, undef, undef, undef, undef, undef, undef, undef, undef, undef, undef, undef, undef], []⟩) (by kernel_rfl) ?_
 refine wsr ?_
 refine wv (.slice none 0 0) ?_
 refine wpList_nil (then_normal ?_)
 refine wsr ?_
 refine wbsl 0 #[] slt__int64 ?_
 intro g1 w1 B1 E1 hg_
 have q_b_g1 := Nat.ne_of_lt (Nat.lt_of_lt_of_le hb.lt hg_)
 have q_b2_g1 := Nat.ne_of_lt (Nat.lt_of_lt_of_le hb2.lt hg_)
 have lo_g1 := Nat.le_trans ((Ext.refl w)).size hg_
 have S1 : SlI #[] 0 0 .i64 [] := SlI.nil
 refine wv (.slice (some ⟨g1, 0, none⟩) 0 0) ?_
 refine wpList_nil (then_normal ?_)
 refine wp_seq ?_
 refine wsr ?_
 refine wv (.int .i64 0) ?_
 refine wpList_nil (then_normal ?_)
 refine wp_block ?_
 replace hb := hb.ext E1
 replace hb2 := hb2.ext E1
 have H1 := (Ext.refl w).trans E1
 refine wp_loop_k (fun m1 a wl1 => ∃ (i : Nat) (go : Nat) (no : Nat) (capo : Nat) (cso : Array Value), m1 = 100 - i ∧ i ≤ 100 ∧ SlI cso no capo .i64 (tgL F x y i) ∧ w.heap.size ≤ go ∧ b ≠ go ∧ b2 ≠ go ∧ Ext w wl1 ∧ Blk wl1 b t F.cells ∧ Blk wl1 b2 t2 #[.int .u64 x, .int .u64 y] ∧ Blk wl1 go 2 cso ∧ (∃ J1 : Nat → Value, a = ⟨#[.pointer (some ⟨b, 0, none⟩), .pointer (some ⟨b2, 0, none⟩), undef, undef, .slice none 0 0, .slice (some ⟨go, 0, none⟩) no capo, .int .i64 (i : Int), .slice (some ⟨g1, 0, none⟩) 0 0, J1 8, J1 9, J1 10, J1 11, J1 12, J1 13, J1 14, J1 15, J1 16, J1 17, J1 18, J1 19, J1 20, J1 21, J1 22, J1 23, undef], []⟩)) (100) ?_ ?_
 · refine ⟨0, g1, 0, 0, #[], rfl, ?_, ?_, ?_, ?_, ?_, H1, hb, hb2, B1, exJ (by kernel_rfl)⟩
   · omega
   · refine S1.of_eq ?_
     first | rfl | exact (tgL_0 F x y).symm
   · exact lo_g1
   · exact q_b_g1
   · exact q_b2_g1
 intro m1 a wl1 hI
 obtain ⟨i, go, no, capo, cso, rfl, hi_, So, lo_go, n_b_go, n_b2_go, HL1, hb, hb2, Bo, J1, rfl⟩ := hI
 have cl_ := tgL_length F x y i
 have len_So := So.len
 refine wp_seq ?_
 refine wsr ?_
 refine wv (.int .i64 (i : Int)) ?_
 refine wv (.bool (decide ((i : Int) < 100))) ?_
 refine wpList_nil (then_normal ?_)
 refine wsplit (decide ((i : Int) < 100)) (fun h1 => ?_) (fun h1 => ?_)
 · skip
   have h1d := dT h1
   refine wp_skip ?_
   refine then_normal ?_
   refine wp_seq ?_
   refine wp_block ?_
   refine wsr ?_
   refine wv (.pointer (some ⟨b, 0, none⟩)) ?_
   refine wv (.int .i64 (i : Int)) ?_
   refine wcl (l03Soil_any F hF b _ (i : Int) _ hb) ?_
   intro w2 E2
   refine wv (.bool (isB F (i : Int) && (F.k (i : Int).toNat == 0))) ?_
   have H2 := HL1.trans E2
   refine split_bool (isB F (i : Int) && (F.k (i : Int).toNat == 0)) (fun h2 => ?_) (fun h2 => ?_)
   · skip
     refine wbl 15 true h2 ?_
     obtain ⟨h2a, h2b⟩ := andT h2
     have h2ad := isB_true.1 h2a
     have h2bd := eT h2b
     refine wv (.pointer (some ⟨b2, 0, none⟩)) ?_
     refine wv (.int .i64 (i : Int)) ?_
     replace hb2 := hb2.ext E2
     refine wcl (l01Has_any x y b2 _ (i : Int) _ hb2) ?_
     intro w3 E3
     refine wv (.bool (hasB x y (i : Int))) ?_
     refine wpList_nil (then_normal ?_)
     have H3 := H2.trans E3
     refine wsplit (hasB x y (i : Int)) (fun h3 => ?_) (fun h3 => ?_)
     · skip
       refine wp_region_lit ?_
       refine wv (.slice (some ⟨go, 0, none⟩) no capo) ?_
       refine wv (.int .i64 (i : Int)) ?_
       replace hb := (hb.ext E2).ext E3
       replace hb2 := hb2.ext E3
       replace Bo := (Bo.ext E2).ext E3
       refine wbsl 1 #[.int .i64 (i : Int)] slt__int64 ?_
       intro g2 w4 B2 E4 hg_
       have q_b_g2 := Nat.ne_of_lt (Nat.lt_of_lt_of_le hb.lt hg_)
       have q_b2_g2 := Nat.ne_of_lt (Nat.lt_of_lt_of_le hb2.lt hg_)
       have q_go_g2 := Nat.ne_of_lt (Nat.lt_of_lt_of_le Bo.lt hg_)
       have lo_g2 := Nat.le_trans (H3).size hg_
       replace hb := hb.ext E4
       replace hb2 := hb2.ext E4
       replace Bo := Bo.ext E4
       have H4 := H3.trans E4
       refine wappi (i : Int) slt__int64 Bo So B2 ?_
       intro g3 cap1 cs1 w5 B3 S2 X1 or1
       have n_b_g3 := ne_app hb n_b_go or1
       have n_b2_g3 := ne_app hb2 n_b2_go or1
       have n_g2_g3 := ne_app B2 (Ne.symm q_go_g2) or1
       have lo_g3 := Wr.lo or1 lo_go (H4).size
       refine wv (.slice (some ⟨g3, 0, none⟩) (no + 1) cap1) ?_
       refine wpList_nil (block_normal (then_normal ?_))
       refine wp_region_lit ?_
       refine wv (.int .i64 (i : Int)) ?_
       refine wi64 ((i : Int) + 1) ?_
       refine wv (.int .i64 ((i : Int) + 1)) ?_
       refine wpList_nil (then_normal ?_)
       replace hb := X1.blk hb n_b_go
       replace hb2 := X1.blk hb2 n_b2_go
       have H5 := X1.ext w lo_go H4
       refine ⟨_, ?_, i + 1, g3, no + 1, cap1, cs1, rfl, ?_, ?_, ?_, ?_, ?_, H5, hb, hb2, B3, exJ (by kernel_rfl)⟩
       · omega
       · omega
       · refine S2.of_eq ?_
         first | exact (tgL_a (by assumption)).symm | exact (tgL_b (by assumption)).symm | exact (tgL_c (by assumption) (by assumption)).symm | exact (tgL_d (by assumption)).symm | exact (tgL_e (by assumption)).symm
       · exact lo_g3
       · exact n_b_g3
       · exact n_b2_g3
     · skip
       refine wp_skip ?_
       refine block_normal (then_normal ?_)
       refine wp_region_lit ?_
       refine wv (.int .i64 (i : Int)) ?_
       refine wi64 ((i : Int) + 1) ?_
       refine wv (.int .i64 ((i : Int) + 1)) ?_
       refine wpList_nil (then_normal ?_)
       replace hb := (hb.ext E2).ext E3
       replace hb2 := hb2.ext E3
       replace Bo := (Bo.ext E2).ext E3
       refine ⟨_, ?_, i + 1, go, no, capo, cso, rfl, ?_, ?_, ?_, ?_, ?_, H3, hb, hb2, Bo, exJ (by kernel_rfl)⟩
       · omega
       · omega
       · refine So.of_eq ?_
         first | exact (tgL_a (by assumption)).symm | exact (tgL_b (by assumption)).symm | exact (tgL_c (by assumption) (by assumption)).symm | exact (tgL_d (by assumption)).symm | exact (tgL_e (by assumption)).symm
       · exact lo_go
       · exact n_b_go
       · exact n_b2_go
   · skip
     refine wbl 15 false h2 ?_
     refine wsk ?_
     refine wsk ?_
     refine wsk ?_
     refine wv (.bool false) ?_
     refine wpList_nil (then_normal ?_)
     refine wcf ?_
     refine wp_skip ?_
     refine block_normal (then_normal ?_)
     refine wp_region_lit ?_
     refine wv (.int .i64 (i : Int)) ?_
     refine wi64 ((i : Int) + 1) ?_
     refine wv (.int .i64 ((i : Int) + 1)) ?_
     refine wpList_nil (then_normal ?_)
     replace hb := hb.ext E2
     replace hb2 := hb2.ext E2
     replace Bo := Bo.ext E2
     refine ⟨_, ?_, i + 1, go, no, capo, cso, rfl, ?_, ?_, ?_, ?_, ?_, H2, hb, hb2, Bo, exJ (by kernel_rfl)⟩
     · omega
     · omega
     · refine So.of_eq ?_
       first | exact (tgL_a (by assumption)).symm | exact (tgL_b (by assumption)).symm | exact (tgL_c (by assumption) (by assumption)).symm | exact (tgL_d (by assumption)).symm | exact (tgL_e (by assumption)).symm
     · exact lo_go
     · exact n_b_go
     · exact n_b2_go
 · skip
   have h1d := dF h1
   refine wp_exit ?_
   refine then_exit ?_
   refine then_exit ?_
   refine block_exit ?_
   refine then_normal ?_
   refine wsr ?_
   refine wv (.slice (some ⟨go, 0, none⟩) no capo) ?_
   refine wv (.slice (some ⟨go, 0, none⟩) no capo) ?_
   refine wpList_nil (then_normal ?_)
   refine wp_ret ?_
   refine ret1 (.slice (some ⟨go, 0, none⟩) no capo) rfl ?_ rfl ?_
   · exact resT (by kernel_rfl)
   have hq : tgL F x y i = tgL F x y 100 := by
     rw [show i = 100 by omega]
   exact ⟨go, no, capo, cso, rfl, Bo, So.of_eq hq, HL1, lo_go⟩


--# l03Game_any
theorem l03Game_any (F : Fld) (hF : F.wf) (b : Nat) (t : TypeId) (m : Int) (n : Int) (w : World) (hb : Blk w b t F.cells) :
 Calls Try.prog 24 #[.pointer (some ⟨b, 0, none⟩), .int .i64 m, .int .i64 n] w fun e w' => e = .returned (.int .i64 (code F (inB m 1 1000 && inB n 1 1000))) ∧ Ext w w' := by
 refine calls_of_wp Try.func24 rfl ?_
 refine wp_frame (a' := ⟨#[.pointer (some ⟨b, 0, none⟩), .int .i64 m, .int .i64 n, undef, undef, undef, undef, undef, undef, undef, undef, undef, undef, undef], []⟩) (by kernel_rfl) ?_
 refine wsr ?_
 refine wv (.int .i64 0) ?_
 refine wpList_nil (then_normal ?_)
 refine wp_seq ?_
 refine wsr ?_
 refine wv (.pointer (some ⟨b, 0, none⟩)) ?_
 refine wcl (l01Ok_any F hF b _ _ hb) ?_
 intro w1 E1
 refine wv (.bool (!(okB F))) ?_
 refine wpList_nil (then_normal ?_)
 refine wsplit (!(okB F)) (fun h1 => ?_) (fun h1 => ?_)
 · skip
   replace h1 := nbT h1
   refine wsr ?_
   refine wv (.int .i64 1) ?_
   refine wpList_nil (then_normal ?_)
   refine wp_ret ?_
   refine then_ret ?_
   have H1 := (Ext.refl w).trans E1
   refine ret1 (.int .i64 (code F (inB m 1 1000 && inB n 1 1000))) rfl ?_ rfl ?_
   · refine (resT (v := .int .i64 1) (by kernel_rfl)).trans ?_
     refine congrArg (Value.int _) ?_
     first | exact (code_1 (by assumption)).symm | exact (code_2 (by assumption) (by assumption)).symm | exact (code_0 (by assumption) (by assumption)).symm
   exact ⟨rfl, H1⟩
 · skip
   replace h1 := nbF h1
   refine wp_skip ?_
   refine then_normal ?_
   refine wp_seq ?_
   refine wsr ?_
   refine wv (.int .i64 m) ?_
   refine wv (.int .i64 n) ?_
   refine wcl (l03Numbers_any m n _) ?_
   intro w2 E2
   refine wv (.bool (!(inB m 1 1000 && inB n 1 1000))) ?_
   refine wpList_nil (then_normal ?_)
   have H2 := ((Ext.refl w).trans E1).trans E2
   refine wsplit (!(inB m 1 1000 && inB n 1 1000)) (fun h2 => ?_) (fun h2 => ?_)
   · skip
     replace h2 := nbT h2
     have h2d := h2
     try simp only [decide_eq_true_eq, decide_eq_false_iff_not, Bool.and_eq_true, Bool.or_eq_true, Bool.and_eq_false_iff, Bool.or_eq_false_iff, Bool.not_eq_true', Bool.not_eq_false', beq_iff_eq, beq_eq_false_iff_ne, bne_iff_ne, bne_eq_false_iff_eq, gt_iff_lt, ge_iff_le, ne_eq, Decidable.not_not, Int.not_lt, Int.not_le] at h2d
     refine wsr ?_
     refine wv (.int .i64 2) ?_
     refine wpList_nil (then_normal ?_)
     refine wp_ret ?_
     refine then_ret ?_
     refine ret1 (.int .i64 (code F (inB m 1 1000 && inB n 1 1000))) rfl ?_ rfl ?_
     · refine (resT (v := .int .i64 2) (by kernel_rfl)).trans ?_
       refine congrArg (Value.int _) ?_
       first | exact (code_1 (by assumption)).symm | exact (code_2 (by assumption) (by assumption)).symm | exact (code_0 (by assumption) (by assumption)).symm
     exact ⟨rfl, H2⟩
   · skip
     replace h2 := nbF h2
     obtain ⟨h2a, h2b⟩ := andT h2
     have h2ad := inT h2a
     have h2bd := inT h2b
     refine wp_skip ?_
     refine then_normal ?_
     refine wsr ?_
     refine wv (.int .i64 0) ?_
     refine wpList_nil (then_normal ?_)
     refine wp_ret ?_
     refine ret1 (.int .i64 (code F (inB m 1 1000 && inB n 1 1000))) rfl ?_ rfl ?_
     · refine (resT (v := .int .i64 0) (by kernel_rfl)).trans ?_
       refine congrArg (Value.int _) ?_
       first | exact (code_1 (by assumption)).symm | exact (code_2 (by assumption) (by assumption)).symm | exact (code_0 (by assumption) (by assumption)).symm
     exact ⟨rfl, H2⟩


