/-
  Contracts: the greedy places. No conditions.
-/
import Derived.Test.YtldlaohefgianaaTy
import Derived.Test.YtldlaohefgianaaSl
import Derived.Test.YtldlaohefgianaaMth
import Derived.Test.YtldlaohefgianaaFn16
import Derived.Test.YtldlaohefgianaaDr
import Derived.Test.YtldlaohefgianaaGr
import Derived.Test.YtldlaohefgianaaMp
namespace Go.Proofs.Ytldlaohefgianaa
open Go.RowKit
set_option linter.unusedSimpArgs false
set_option linter.unusedVariables false
set_option maxHeartbeats 4000000
set_option maxRecDepth 100000
attribute [local irreducible] wpList Code.wp
--# mapt
-- 34
theorem mapt_map_int64_impl_Cells : MapT Try.prog 71 2 43 (.agg #[.int .u64 0, .int .u64 0]) := ⟨Try.underlying71, by kernel_rfl, fun w => by kernel_rfl⟩

--# covers_any
theorem covers_any (F : Fld) (hF : F.wf) (b : Nat) (t : TypeId) (w0 : Int) (l : Int) (hw0 : 0 ≤ w0 ∧ w0 ≤ 1000) (w : World) (hb : Blk w b t F.cells) :
 Calls Try.prog 34 #[.pointer (some ⟨b, 0, none⟩), .int .i64 w0, .int .i64 l] w fun e w' => RetM w (.agg #[.int .u64 0, .int .u64 0]) (cvV F w0 l) e w' := by
 refine calls_of_wp Try.func34 rfl ?_
 refine wp_frame (a' := ⟨#[.pointer (some ⟨b, 0, none⟩), .int .i64 w0, .int .i64 l, undef, undef, undef, undef, undef, undef, undef, undef, undef, undef, undef, undef, undef, undef, undef, undef, undef, undef, undef, undef, undef, undef, undef, undef, undef, undef, undef], []⟩) (by kernel_rfl) ?_
 refine wsr ?_
 refine wv (.map none) ?_
 refine wpList_nil (then_normal ?_)
 refine wsr ?_
 refine wmmk (cvF F w0 l) ?_
 intro g1 w1 B1 E1 hg_
 have q_b_g1 := Nat.ne_of_lt (Nat.lt_of_lt_of_le hb.lt hg_)
 have lo_g1 := Nat.le_trans ((Ext.refl w)).size hg_
 refine wv (.map (some g1)) ?_
 refine wpList_nil (then_normal ?_)
 refine wp_seq ?_
 refine wsr ?_
 refine wv (.pointer (some ⟨b, 0, none⟩)) ?_
 replace hb := hb.ext E1
 have H1 := (Ext.refl w).trans E1
 refine wcli (cells_any F hF b _ _ hb) ?_
 intro g2 cap1 cs1 w2 B2 S1 E2 hg_
 have q_b_g2 := Nat.ne_of_lt (Nat.lt_of_lt_of_le hb.lt hg_)
 have q_g1_g2 := Nat.ne_of_lt (Nat.lt_of_lt_of_le B1.lt hg_)
 have lo_g2 := Nat.le_trans (H1).size hg_
 have cl1 := cellsL_length F
 refine wv (.int .i64 ((cellsL F).length : Int)) ?_
 refine wv (.int .i64 0) ?_
 refine wpList_nil (then_normal ?_)
 refine wp_block ?_
 replace hb := hb.ext E2
 replace B1 := B1.ext E2
 have H2 := H1.trans E2
 refine wp_loop_k (fun m1 a wl1 => ∃ (i : Nat), m1 = (cellsL F).length - i ∧ i ≤ (cellsL F).length ∧ Ext w wl1 ∧ Blk wl1 b t F.cells ∧ MB wl1 g1 (plN F i) (cvF F w0 l) ∧ Blk wl1 g2 2 cs1 ∧ (∃ J1 : Nat → Value, a = ⟨#[.pointer (some ⟨b, 0, none⟩), .int .i64 w0, .int .i64 l, undef, undef, undef, .map none, .map (some g1), undef, J1 9, .map (some g1), .pointer (some ⟨b, 0, none⟩), .slice (some ⟨g2, 0, none⟩) ((cellsL F).length) cap1, .int .i64 ((cellsL F).length : Int), .int .i64 (i : Int), J1 15, J1 16, J1 17, J1 18, J1 19, J1 20, J1 21, J1 22, J1 23, J1 24, J1 25, J1 26, J1 27, J1 28, undef], []⟩)) ((cellsL F).length) ?_ ?_
 · refine ⟨0, rfl, ?_, H2, hb, B1, B2, exJ (by kernel_rfl)⟩
   · omega
 intro m1 a wl1 hI
 obtain ⟨i, rfl, hi_, HL1, hb, B1, B2, J1, rfl⟩ := hI
 refine wsr ?_
 refine wv (.bool (decide ((i : Int) < ((cellsL F).length : Int)))) ?_
 refine wpList_nil (then_normal ?_)
 refine wp_seq ?_
 refine wsplit (decide ((i : Int) < ((cellsL F).length : Int))) (fun h1 => ?_) (fun h1 => ?_)
 · skip
   have h1d := dT h1
   refine wp_skip ?_
   refine then_normal ?_
   refine wp_seq ?_
   refine wp_block ?_
   refine wsr ?_
   refine wsix1 g2 0 ((cellsL F).length) cap1 i .i64 slit__int64 ?_
   have ce1 := cellsL_in (F := F) (j := i) (by omega)
   have ci1 := cellsL_is (F := F) (j := i) (by omega)
   refine wld g2 (0 + i) scal_int64 (B2.get (SlI.get S1 (by omega))) ?_
   refine wv (.int .i64 (atI (cellsL F) i)) ?_
   refine wpList_nil (then_normal ?_)
   refine wsr ?_
   refine wv (.pointer (some ⟨b, 0, none⟩)) ?_
   refine wv (.int .i64 (atI (cellsL F) i)) ?_
   refine wcl (isPlace_any F hF b _ (atI (cellsL F) i) _ hb) ?_
   intro w3 E3
   refine wpList_nil (then_normal ?_)
   have H3 := HL1.trans E3
   refine wsplit (isB F (atI (cellsL F) i) && (F.k (atI (cellsL F) i).toNat != 3)) (fun h2 => ?_) (fun h2 => ?_)
   · skip
     obtain ⟨h2a, h2b⟩ := andT h2
     have h2ad := isB_true.1 h2a
     have h2bd := nT h2b
     refine wp_region_lit ?_
     refine wv (.map (some g1)) ?_
     refine wv (.int .i64 (atI (cellsL F) i)) ?_
     refine wv (.pointer (some ⟨b, 0, none⟩)) ?_
     refine wv (.int .i64 (atI (cellsL F) i)) ?_
     refine wv (.int .i64 w0) ?_
     refine wv (.int .i64 l) ?_
     replace hb := hb.ext E3
     refine wcl (cover_any F hF b _ (atI (cellsL F) i) w0 l (by omega) (by omega) _ hb) ?_
     intro w4 E4
     replace B1 := (B1.ext E3).ext E4
     replace hb := hb.ext E4
     replace B2 := (B2.ext E3).ext E4
     have H4 := H3.trans E4
     refine wmup g1 (atI (cellsL F) i) (.agg #[.int .u64 ((setC F (fun c_ => cvU F (atI (cellsL F) i) c_ w0 l) 100).1), .int .u64 ((setC F (fun c_ => cvU F (atI (cellsL F) i) c_ w0 l) 100).2)]) mapt_map_int64_impl_Cells B1 (by omega) (plN_new (by omega)) rfl ?_
     intro w5 B1_ X1
     clear B1; have B1 := B1_; clear B1_
     refine wpList_nil (block_normal (then_normal ?_))
     refine wp_region_lit ?_
     refine wi64 ((i : Int) + 1) ?_
     refine wv (.int .i64 ((i : Int) + 1)) ?_
     refine wpList_nil (then_normal ?_)
     replace hb := X1.blk hb q_b_g1
     replace B2 := X1.blk B2 (Ne.symm q_g1_g2)
     have H5 := X1.ext w lo_g1 H4
     refine ⟨_, ?_, i + 1, rfl, ?_, H5, hb, ?_, B2, exJ (by kernel_rfl)⟩
     · omega
     · omega
     · first | (rw [plN_1' (by assumption)]; exact B1) | (rw [plN_2' (by assumption)]; exact B1)
   · skip
     refine wp_skip ?_
     refine block_normal (then_normal ?_)
     refine wp_region_lit ?_
     refine wi64 ((i : Int) + 1) ?_
     refine wv (.int .i64 ((i : Int) + 1)) ?_
     refine wpList_nil (then_normal ?_)
     replace hb := hb.ext E3
     replace B1 := B1.ext E3
     replace B2 := B2.ext E3
     refine ⟨_, ?_, i + 1, rfl, ?_, H3, hb, ?_, B2, exJ (by kernel_rfl)⟩
     · omega
     · omega
     · first | (rw [plN_1' (by assumption)]; exact B1) | (rw [plN_2' (by assumption)]; exact B1)
 · skip
   have h1d := dF h1
   refine wp_exit ?_
   refine then_exit ?_
   refine then_exit ?_
   refine block_exit ?_
   refine then_normal ?_
   refine wsr ?_
   refine wv (.map (some g1)) ?_
   refine wv (.map (some g1)) ?_
   refine wpList_nil (then_normal ?_)
   refine wp_ret ?_
   refine ret1 (.map (some g1)) rfl ?_ rfl ?_
   · exact resT (by kernel_rfl)
   exact ⟨g1, rfl, ⟨_, _, B1, plN_v (by omega)⟩, HL1, lo_g1⟩


--# sWithout_any
theorem sWithout_any (x y : Int) (x2 y2 : Int) (hy : wrd y) (hy2 : wrd y2) (w : World) :
 Calls Try.prog 48 #[.agg #[.int .u64 x, .int .u64 y], .agg #[.int .u64 x2, .int .u64 y2]] w fun e w' => e = .returned (.agg #[.int .u64 (wo0 x x2), .int .u64 (wo1 y y2)]) ∧ Ext w w' := by
 have wb_ := wo_b hy hy2
 refine calls_of_wp Try.func48 rfl ?_
 refine wp_frame (a' := ⟨#[.agg #[.int .u64 x, .int .u64 y], .agg #[.int .u64 x2, .int .u64 y2], undef, undef, undef, undef, undef, undef, undef, undef, undef, undef, undef, undef, undef, undef, undef], []⟩) (by kernel_rfl) ?_
 refine wsr ?_
 refine wbox #[.int .u64 x, .int .u64 y] ?_
 intro g1 w1 B1 E1 hg_
 have lo_g1 := Nat.le_trans ((Ext.refl w)).size hg_
 have H1 := (Ext.refl w).trans E1
 refine wbox #[.int .u64 x2, .int .u64 y2] ?_
 intro g2 w2 B2 E2 hg_
 have q_g1_g2 := Nat.ne_of_lt (Nat.lt_of_lt_of_le B1.lt hg_)
 have lo_g2 := Nat.le_trans (H1).size hg_
 have H2 := H1.trans E2
 replace B1 := B1.ext E2
 refine wnew #[.int .u64 0, .int .u64 0] Try.zeroValue43 rfl ?_
 intro g3 w3 B3 E3 hg_
 have q_g1_g3 := Nat.ne_of_lt (Nat.lt_of_lt_of_le B1.lt hg_)
 have q_g2_g3 := Nat.ne_of_lt (Nat.lt_of_lt_of_le B2.lt hg_)
 have lo_g3 := Nat.le_trans (H2).size hg_
 refine wpList_nil (then_normal ?_)
 refine wsr ?_
 refine wixn g1 0 0 .i64 arrt_impl_Cells ?_
 replace B1 := B1.ext E3
 refine wld (v := .int .u64 x) g1 (0 + 0) scal_uint64 (B1.get (rfl)) ?_
 refine wixn g2 0 0 .i64 arrt_impl_Cells ?_
 replace B2 := B2.ext E3
 refine wld (v := .int .u64 x2) g2 (0 + 0) scal_uint64 (B2.get (rfl)) ?_
 refine wv (.int .u64 (bits BinOp.andNot IntKind.u64 x x2)) ?_
 refine wixn g1 0 1 .i64 arrt_impl_Cells ?_
 refine wld (v := .int .u64 y) g1 (0 + 1) scal_uint64 (B1.get (rfl)) ?_
 refine wixn g2 0 1 .i64 arrt_impl_Cells ?_
 refine wld (v := .int .u64 y2) g2 (0 + 1) scal_uint64 (B2.get (rfl)) ?_
 refine wv (.int .u64 (bits BinOp.andNot IntKind.u64 y y2)) ?_
 refine wv (.agg #[.int .u64 (bits BinOp.andNot IntKind.u64 x x2), .int .u64 (bits BinOp.andNot IntKind.u64 y y2)]) ?_
 refine wcl (l01Mask_any (bits BinOp.andNot IntKind.u64 x x2) (bits BinOp.andNot IntKind.u64 y y2) (by omega) _) ?_
 intro w4 E4
 replace B3 := B3.ext E4
 refine wput #[.int .u64 (bits BinOp.andNot IntKind.u64 x x2), .int .u64 ((bits BinOp.andNot IntKind.u64 y y2) % 68719476736)] row_impl_Cells B3 (by rfl) (by rfl) (by kernel_rfl) ?_
 intro w5 B3_ X1
 clear B3; have B3 := B3_; clear B3_
 refine wpList_nil (then_normal ?_)
 refine wp_ret ?_
 have H3 := X1.ext w lo_g3 ((H2.trans E3).trans E4)
 refine ret1 (.agg #[.int .u64 (wo0 x x2), .int .u64 (wo1 y y2)]) rfl ?_ rfl ?_
 · refine ⟨g3, 43, #[.int .u64 (bits BinOp.andNot IntKind.u64 x x2), .int .u64 ((bits BinOp.andNot IntKind.u64 y y2) % 68719476736)], _, by kernel_rfl, B3, row_impl_Cells, ?_, ?_⟩
   · rfl
   · show (.agg #[.int .u64 (wo0 x x2), .int .u64 (wo1 y y2)] : Value) = (.agg #[.int .u64 (bits BinOp.andNot IntKind.u64 x x2), .int .u64 ((bits BinOp.andNot IntKind.u64 y y2) % 68719476736)])
     refine congrArg Value.agg ?_
     exact wo_eq
 exact ⟨rfl, H3⟩


--# l03Cover_out
theorem l03Cover_out (F : Fld) (hF : F.wf) (b : Nat) (t : TypeId) (p : Int) (w0 : Int) (l : Int) (hw0 : 0 ≤ w0 ∧ w0 ≤ 1000) (hp : 0 ≤ p ∧ p ≤ 99) (hpl : plB F p = false) (w : World) (hb : Blk w b t F.cells) :
 Calls Try.prog 26 #[.pointer (some ⟨b, 0, none⟩), .int .i64 p, .int .i64 w0, .int .i64 l] w fun e w' => e = .returned (.agg #[.int .u64 0, .int .u64 0]) ∧ Ext w w' := by
 refine calls_of_wp Try.func26 rfl ?_
 refine wp_frame (a' := ⟨#[.pointer (some ⟨b, 0, none⟩), .int .i64 p, .int .i64 w0, .int .i64 l, undef, undef, undef, undef, undef, undef, undef, undef, undef, undef, undef, undef, undef, undef, undef, undef, undef, undef, undef, undef, undef], []⟩) (by kernel_rfl) ?_
 refine wsr ?_
 refine wnew #[.int .u64 0, .int .u64 0] Try.zeroValue43 rfl ?_
 intro g1 w1 B1 E1 hg_
 have q_b_g1 := Nat.ne_of_lt (Nat.lt_of_lt_of_le hb.lt hg_)
 have lo_g1 := Nat.le_trans ((Ext.refl w)).size hg_
 refine wpList_nil (then_normal ?_)
 refine wsr ?_
 refine wv (.agg #[.int .u64 0, .int .u64 0]) ?_
 have H1 := (Ext.refl w).trans E1
 replace hb := hb.ext E1
 refine wnew #[.int .u64 0, .int .u64 0] Try.zeroValue43 rfl ?_
 intro g2 w2 B2 E2 hg_
 have q_b_g2 := Nat.ne_of_lt (Nat.lt_of_lt_of_le hb.lt hg_)
 have q_g1_g2 := Nat.ne_of_lt (Nat.lt_of_lt_of_le B1.lt hg_)
 have lo_g2 := Nat.le_trans (H1).size hg_
 refine wput #[.int .u64 0, .int .u64 0] row_impl_Cells B2 (by rfl) (by rfl) (by kernel_rfl) ?_
 intro w3 B2_ X1
 clear B2; have B2 := B2_; clear B2_
 refine wpList_nil (then_normal ?_)
 refine wp_seq ?_
 refine wsr ?_
 refine wv (.int .i64 0) ?_
 refine wpList_nil (then_normal ?_)
 refine wp_block ?_
 replace hb := X1.blk (hb.ext E2) q_b_g2
 replace B1 := X1.blk (B1.ext E2) q_g1_g2
 have H2 := X1.ext w lo_g2 (H1.trans E2)
 refine wp_loop_k (fun m1 a wl1 => ∃ (i : Nat), m1 = 100 - i ∧ i ≤ 100 ∧ Ext w wl1 ∧ Blk wl1 b t F.cells ∧ Blk wl1 g1 43 #[.int .u64 0, .int .u64 0] ∧ Blk wl1 g2 43 #[.int .u64 0, .int .u64 0] ∧ (∃ J1 : Nat → Value, a = ⟨#[.pointer (some ⟨b, 0, none⟩), .int .i64 p, .int .i64 w0, .int .i64 l, undef, undef, undef, undef, .pointer (some ⟨g1, 0, none⟩), .pointer (some ⟨g2, 0, none⟩), .int .i64 (i : Int), .agg #[.int .u64 0, .int .u64 0], J1 12, J1 13, J1 14, J1 15, J1 16, J1 17, J1 18, J1 19, J1 20, J1 21, J1 22, J1 23, undef], []⟩)) (100) ?_ ?_
 · refine ⟨0, rfl, ?_, H2, hb, B1, B2, exJ (by kernel_rfl)⟩
   · omega
 intro m1 a wl1 hI
 obtain ⟨i, rfl, hi_, HL1, hb, B1, B2, J1, rfl⟩ := hI
 refine wp_seq ?_
 refine wsr ?_
 refine wv (.int .i64 (i : Int)) ?_
 refine wv (.bool (decide ((i : Int) < 100))) ?_
 refine wpList_nil (then_normal ?_)
 refine wsplit (decide ((i : Int) < 100)) (fun h1 => ?_) (fun h1 => ?_)
 · skip
   have h1d := dT h1
   refine wp_skip ?_
   refine then_normal ?_
   refine wp_seq ?_
   refine wp_block ?_
   refine wsr ?_
   refine wv (.pointer (some ⟨b, 0, none⟩)) ?_
   refine wv (.int .i64 p) ?_
   refine wv (.int .i64 (i : Int)) ?_
   refine wv (.int .i64 w0) ?_
   refine wv (.int .i64 l) ?_
   refine wcl (l03Covers_any F hF b _ p (i : Int) w0 l (by omega) (by omega) _ hb) ?_
   intro w4 E3
   refine wpList_nil (then_normal ?_)
   have H3 := HL1.trans E3
   refine wsplit (isB F p && cvR F p (i : Int) w0 l) (fun h2 => ?_) (fun h2 => ?_)
   · skip
     obtain ⟨h2a, h2b⟩ := andT h2
     have h2ad := isB_true.1 h2a
     refine wp_region_lit ?_
     refine wv (.int .i64 (i : Int)) ?_
     replace B2 := B2.ext E3
     refine wcl (l01Put_any 0 0 g2 _ (i : Int) (by omega) _ B2) ?_
     rintro w5 ⟨B2_, X2⟩
     clear B2; have B2 := B2_; clear B2_
     refine wpList_nil (block_normal (then_normal ?_))
     refine wp_region_lit ?_
     refine wv (.int .i64 (i : Int)) ?_
     refine wi64 ((i : Int) + 1) ?_
     refine wv (.int .i64 ((i : Int) + 1)) ?_
     refine wpList_nil (then_normal ?_)
     replace hb := X2.blk (hb.ext E3) q_b_g2
     replace B1 := X2.blk (B1.ext E3) q_g1_g2
     have H4 := X2.ext w lo_g2 H3
     refine ⟨_, ?_, i + 1, rfl, ?_, H4, hb, B1, ?_, exJ (by kernel_rfl)⟩
     · omega
     · omega
     · first | exact B2 | exact absurd (show (isB F p && cvR F p (i : Int) w0 l) = true by assumption) (by rw [cv_out hpl]; decide)
   · skip
     refine wp_skip ?_
     refine block_normal (then_normal ?_)
     refine wp_region_lit ?_
     refine wv (.int .i64 (i : Int)) ?_
     refine wi64 ((i : Int) + 1) ?_
     refine wv (.int .i64 ((i : Int) + 1)) ?_
     refine wpList_nil (then_normal ?_)
     replace hb := hb.ext E3
     replace B1 := B1.ext E3
     replace B2 := B2.ext E3
     refine ⟨_, ?_, i + 1, rfl, ?_, H3, hb, B1, ?_, exJ (by kernel_rfl)⟩
     · omega
     · omega
     · first | exact B2 | exact absurd (show (isB F p && cvR F p (i : Int) w0 l) = true by assumption) (by rw [cv_out hpl]; decide)
 · skip
   have h1d := dF h1
   refine wp_exit ?_
   refine then_exit ?_
   refine then_exit ?_
   refine block_exit ?_
   refine then_normal ?_
   refine wsr ?_
   refine wrow row_impl_Cells B2 (by rfl) ?_
   refine wput #[.int .u64 0, .int .u64 0] row_impl_Cells B1 (by rfl) (by rfl) (by kernel_rfl) ?_
   intro w6 B1_ X3
   clear B1; have B1 := B1_; clear B1_
   refine wpList_nil (then_normal ?_)
   refine wp_ret ?_
   have H5 := X3.ext w lo_g1 HL1
   refine ret1 (.agg #[.int .u64 0, .int .u64 0]) rfl ?_ rfl ?_
   · refine ⟨g1, 43, #[.int .u64 0, .int .u64 0], _, by kernel_rfl, B1, row_impl_Cells, ?_, ?_⟩
     · rfl
     · rfl
   exact ⟨rfl, H5⟩


--# l03Cover_all
-- 26
theorem l03Cover_all (F : Fld) (hF : F.wf) (b : Nat) (t : TypeId) (p w0 l : Int) (hw0 : 0 ≤ w0 ∧ w0 ≤ 1000) (hp : 0 ≤ p ∧ p ≤ 99) (w : World) (hb : Blk w b t F.cells) :
    Calls Try.prog 26 #[.pointer (some ⟨b, 0, none⟩), .int .i64 p, .int .i64 w0, .int .i64 l] w fun e w' => e = .returned (.agg #[.int .u64 ((cvP F w0 l p).1), .int .u64 ((cvP F w0 l p).2)]) ∧ Ext w w' := by
  cases h : plB F p with
  | true => rw [cvP_t h]; exact l03Cover_any F hF b t p w0 l hw0 (plB_a h) (plB_b h) w hb
  | false => rw [cvP_f h]; exact l03Cover_out F hF b t p w0 l hw0 hp h w hb

