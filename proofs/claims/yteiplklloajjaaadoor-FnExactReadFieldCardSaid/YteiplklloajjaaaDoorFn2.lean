/-
  Contracts: conversions, comparisons, codes. No conditions.
-/
import Derived.Test.YteiplklloajjaaaDoorTy
import Derived.Test.YteiplklloajjaaaDoorSl
import Derived.Test.YteiplklloajjaaaDoorMth
import Derived.Test.YteiplklloajjaaaDoorFn1b
namespace Go.Proofs.YteiplklloajjaaaDoor
open Go.RowKit
set_option linter.unusedSimpArgs false
set_option linter.unusedVariables false
set_option maxHeartbeats 4000000
set_option maxRecDepth 100000
attribute [local irreducible] wpList Code.wp
--# toByteA100_any
theorem toByteA100_any (f : Nat → Int) (w : World) :
 Calls Tryd.prog 31 #[.agg (arr 100 .u8 f)] w fun e w' => e = .returned (.agg (arr 100 .u8 f)) ∧ Ext w w' := by
 refine calls_of_wp Tryd.func31 rfl ?_
 refine wp_frame (a' := ⟨#[.agg (arr 100 .u8 f), undef, undef, undef, undef, undef, undef, undef, undef, undef, undef, undef, undef, undef, undef], []⟩) (by kernel_rfl) ?_
 refine wsr ?_
 refine wbox (arr 100 .u8 f) ?_
 intro g1 w1 B1 E1 hg_
 have lo_g1 := Nat.le_trans ((Ext.refl w)).size hg_
 have H1 := (Ext.refl w).trans E1
 refine wnew (arr 100 .u8 (fun _ => 0)) Tryd.zeroValue23 zero__100_uint8 ?_
 intro g2 w2 B2 E2 hg_
 have q_g1_g2 := Nat.ne_of_lt (Nat.lt_of_lt_of_le B1.lt hg_)
 have lo_g2 := Nat.le_trans (H1).size hg_
 refine wpList_nil (then_normal ?_)
 refine wsr ?_
 have H2 := H1.trans E2
 replace B1 := B1.ext E2
 refine wnew (arr 100 .u8 (fun _ => 0)) Tryd.zeroValue23 zero__100_uint8 ?_
 intro g3 w3 B3 E3 hg_
 have q_g1_g3 := Nat.ne_of_lt (Nat.lt_of_lt_of_le B1.lt hg_)
 have q_g2_g3 := Nat.ne_of_lt (Nat.lt_of_lt_of_le B2.lt hg_)
 have lo_g3 := Nat.le_trans (H2).size hg_
 refine wpList_nil (then_normal ?_)
 refine wp_seq ?_
 refine wsr ?_
 refine wv (.int .i64 0) ?_
 refine wpList_nil (then_normal ?_)
 refine wp_block ?_
 replace B1 := B1.ext E3
 replace B2 := B2.ext E3
 have H3 := H2.trans E3
 refine wp_loop_k (fun m1 a wl1 => ∃ (i : Nat), m1 = 100 - i ∧ i ≤ 100 ∧ Ext w wl1 ∧ Blk wl1 g1 23 (arr 100 .u8 f) ∧ Blk wl1 g2 23 (arr 100 .u8 (fun _ => 0)) ∧ Blk wl1 g3 23 (arr 100 .u8 (cpy f i)) ∧ (∃ J1 : Nat → Value, a = ⟨#[.agg (arr 100 .u8 f), .pointer (some ⟨g1, 0, none⟩), .pointer (some ⟨g2, 0, none⟩), .pointer (some ⟨g3, 0, none⟩), .int .i64 (i : Int), J1 5, J1 6, J1 7, J1 8, J1 9, J1 10, J1 11, J1 12, J1 13, undef], []⟩)) (100) ?_ ?_
 · refine ⟨0, rfl, ?_, H3, B1, B2, ?_, exJ (by kernel_rfl)⟩
   · omega
   · rw [cpy_zero]; exact B3
 intro m1 a wl1 hI
 obtain ⟨i, rfl, hi_, HL1, B1, B2, B3, J1, rfl⟩ := hI
 refine wp_seq ?_
 refine wsr ?_
 refine wv (.int .i64 (i : Int)) ?_
 refine wv (.bool (decide ((i : Int) < 100))) ?_
 refine wpList_nil (then_normal ?_)
 refine wsplit (decide ((i : Int) < 100)) (fun h1 => ?_) (fun h1 => ?_)
 · skip
   have h1d := dT h1
   refine wp_skip ?_
   refine then_normal ?_
   refine wp_seq ?_
   refine wp_block ?_
   refine wp_region_lit ?_
   refine wv (.int .i64 (i : Int)) ?_
   refine wv (.int .i64 (i : Int)) ?_
   refine wixn g1 0 i .i64 arrt__100_uint8 ?_
   refine wld g1 (0 + i) scal_uint8 (B1.get (get_arr0 (by omega))) ?_
   refine wixn g3 0 i .i64 arrt__100_uint8 ?_
   refine wst g3 (0 + i) (.int .u8 (f i)) scal_uint8 B3 (set_arr0) (by rw [size_arr]; omega) ?_
   intro w4 B3_ X1
   clear B3; have B3 := B3_; clear B3_
   refine wpList_nil (block_normal (then_normal ?_))
   refine wp_region_lit ?_
   refine wv (.int .i64 (i : Int)) ?_
   refine wi64 ((i : Int) + 1) ?_
   refine wv (.int .i64 ((i : Int) + 1)) ?_
   refine wpList_nil (then_normal ?_)
   replace B1 := X1.blk B1 q_g1_g3
   replace B2 := X1.blk B2 q_g2_g3
   have H4 := X1.ext w lo_g3 HL1
   refine ⟨_, ?_, i + 1, rfl, ?_, H4, B1, B2, ?_, exJ (by kernel_rfl)⟩
   · omega
   · omega
   · rw [← cpy_upd]; exact B3
 · skip
   have h1d := dF h1
   refine wp_exit ?_
   refine then_exit ?_
   refine then_exit ?_
   refine block_exit ?_
   refine then_normal ?_
   refine wsr ?_
   refine wrow row__100_uint8 B3 (by exact size_arr _ _ _) ?_
   refine wput (arr 100 .u8 (cpy f i)) row__100_uint8 B2 (by exact size_arr _ _ _) (by exact size_arr _ _ _) (by exact one_arr _ _ _) ?_
   intro w5 B2_ X2
   clear B2; have B2 := B2_; clear B2_
   refine wpList_nil (then_normal ?_)
   refine wp_ret ?_
   have H5 := X2.ext w lo_g2 HL1
   refine ret1 (.agg (arr 100 .u8 f)) rfl ?_ rfl ?_
   · refine ⟨g2, 23, (arr 100 .u8 (cpy f i)), _, by kernel_rfl, B2, row__100_uint8, ?_, ?_⟩
     · exact size_arr _ _ _
     · show (.agg (arr 100 .u8 f) : Value) = (.agg (arr 100 .u8 (cpy f i)))
       refine congrArg Value.agg ?_
       exact (arr_cpy 100 .u8 f (i := i) (by omega)).symm
   exact ⟨rfl, H5⟩


--# toInt16A100_any
theorem toInt16A100_any (f : Nat → Int) (w : World) :
 Calls Tryd.prog 32 #[.agg (arr 100 .i16 f)] w fun e w' => e = .returned (.agg (arr 100 .i16 f)) ∧ Ext w w' := by
 refine calls_of_wp Tryd.func32 rfl ?_
 refine wp_frame (a' := ⟨#[.agg (arr 100 .i16 f), undef, undef, undef, undef, undef, undef, undef, undef, undef, undef, undef, undef, undef, undef], []⟩) (by kernel_rfl) ?_
 refine wsr ?_
 refine wbox (arr 100 .i16 f) ?_
 intro g1 w1 B1 E1 hg_
 have lo_g1 := Nat.le_trans ((Ext.refl w)).size hg_
 have H1 := (Ext.refl w).trans E1
 refine wnew (arr 100 .i16 (fun _ => 0)) Tryd.zeroValue25 zero__100_int16 ?_
 intro g2 w2 B2 E2 hg_
 have q_g1_g2 := Nat.ne_of_lt (Nat.lt_of_lt_of_le B1.lt hg_)
 have lo_g2 := Nat.le_trans (H1).size hg_
 refine wpList_nil (then_normal ?_)
 refine wsr ?_
 have H2 := H1.trans E2
 replace B1 := B1.ext E2
 refine wnew (arr 100 .i16 (fun _ => 0)) Tryd.zeroValue25 zero__100_int16 ?_
 intro g3 w3 B3 E3 hg_
 have q_g1_g3 := Nat.ne_of_lt (Nat.lt_of_lt_of_le B1.lt hg_)
 have q_g2_g3 := Nat.ne_of_lt (Nat.lt_of_lt_of_le B2.lt hg_)
 have lo_g3 := Nat.le_trans (H2).size hg_
 refine wpList_nil (then_normal ?_)
 refine wp_seq ?_
 refine wsr ?_
 refine wv (.int .i64 0) ?_
 refine wpList_nil (then_normal ?_)
 refine wp_block ?_
 replace B1 := B1.ext E3
 replace B2 := B2.ext E3
 have H3 := H2.trans E3
 refine wp_loop_k (fun m1 a wl1 => ∃ (i : Nat), m1 = 100 - i ∧ i ≤ 100 ∧ Ext w wl1 ∧ Blk wl1 g1 25 (arr 100 .i16 f) ∧ Blk wl1 g2 25 (arr 100 .i16 (fun _ => 0)) ∧ Blk wl1 g3 25 (arr 100 .i16 (cpy f i)) ∧ (∃ J1 : Nat → Value, a = ⟨#[.agg (arr 100 .i16 f), .pointer (some ⟨g1, 0, none⟩), .pointer (some ⟨g2, 0, none⟩), .pointer (some ⟨g3, 0, none⟩), .int .i64 (i : Int), J1 5, J1 6, J1 7, J1 8, J1 9, J1 10, J1 11, J1 12, J1 13, undef], []⟩)) (100) ?_ ?_
 · refine ⟨0, rfl, ?_, H3, B1, B2, ?_, exJ (by kernel_rfl)⟩
   · omega
   · rw [cpy_zero]; exact B3
 intro m1 a wl1 hI
 obtain ⟨i, rfl, hi_, HL1, B1, B2, B3, J1, rfl⟩ := hI
 refine wp_seq ?_
 refine wsr ?_
 refine wv (.int .i64 (i : Int)) ?_
 refine wv (.bool (decide ((i : Int) < 100))) ?_
 refine wpList_nil (then_normal ?_)
 refine wsplit (decide ((i : Int) < 100)) (fun h1 => ?_) (fun h1 => ?_)
 · skip
   have h1d := dT h1
   refine wp_skip ?_
   refine then_normal ?_
   refine wp_seq ?_
   refine wp_block ?_
   refine wp_region_lit ?_
   refine wv (.int .i64 (i : Int)) ?_
   refine wv (.int .i64 (i : Int)) ?_
   refine wixn g1 0 i .i64 arrt__100_int16 ?_
   refine wld g1 (0 + i) scal_int16 (B1.get (get_arr0 (by omega))) ?_
   refine wixn g3 0 i .i64 arrt__100_int16 ?_
   refine wst g3 (0 + i) (.int .i16 (f i)) scal_int16 B3 (set_arr0) (by rw [size_arr]; omega) ?_
   intro w4 B3_ X1
   clear B3; have B3 := B3_; clear B3_
   refine wpList_nil (block_normal (then_normal ?_))
   refine wp_region_lit ?_
   refine wv (.int .i64 (i : Int)) ?_
   refine wi64 ((i : Int) + 1) ?_
   refine wv (.int .i64 ((i : Int) + 1)) ?_
   refine wpList_nil (then_normal ?_)
   replace B1 := X1.blk B1 q_g1_g3
   replace B2 := X1.blk B2 q_g2_g3
   have H4 := X1.ext w lo_g3 HL1
   refine ⟨_, ?_, i + 1, rfl, ?_, H4, B1, B2, ?_, exJ (by kernel_rfl)⟩
   · omega
   · omega
   · rw [← cpy_upd]; exact B3
 · skip
   have h1d := dF h1
   refine wp_exit ?_
   refine then_exit ?_
   refine then_exit ?_
   refine block_exit ?_
   refine then_normal ?_
   refine wsr ?_
   refine wrow row__100_int16 B3 (by exact size_arr _ _ _) ?_
   refine wput (arr 100 .i16 (cpy f i)) row__100_int16 B2 (by exact size_arr _ _ _) (by exact size_arr _ _ _) (by exact one_arr _ _ _) ?_
   intro w5 B2_ X2
   clear B2; have B2 := B2_; clear B2_
   refine wpList_nil (then_normal ?_)
   refine wp_ret ?_
   have H5 := X2.ext w lo_g2 HL1
   refine ret1 (.agg (arr 100 .i16 f)) rfl ?_ rfl ?_
   · refine ⟨g2, 25, (arr 100 .i16 (cpy f i)), _, by kernel_rfl, B2, row__100_int16, ?_, ?_⟩
     · exact size_arr _ _ _
     · show (.agg (arr 100 .i16 f) : Value) = (.agg (arr 100 .i16 (cpy f i)))
       refine congrArg Value.agg ?_
       exact (arr_cpy 100 .i16 f (i := i) (by omega)).symm
   exact ⟨rfl, H5⟩


--# toField_any
theorem toField_any (F : Fld) (hF : F.wf) (w : World) :
 Calls Tryd.prog 9 #[.agg F.cells] w fun e w' => e = .returned (.agg F.cells) ∧ Ext w w' := by
 have w1_ := hF.w1
 have w2_ := hF.w2
 have h1_ := hF.h1
 have h2_ := hF.h2
 refine calls_of_wp Tryd.func9 rfl ?_
 refine wp_frame (a' := ⟨#[.agg F.cells, undef, undef, undef, undef, undef, undef, undef, undef, undef, undef, undef, undef, undef, undef, undef, undef, undef, undef], []⟩) (by kernel_rfl) ?_
 refine wsr ?_
 refine wbox F.cells ?_
 intro g1 w1 B1 E1 hg_
 have lo_g1 := Nat.le_trans ((Ext.refl w)).size hg_
 have H1 := (Ext.refl w).trans E1
 refine wnew (Fld.cells Fld.zero) Tryd.zeroValue29 zero_impl_Field ?_
 intro g2 w2 B2 E2 hg_
 have q_g1_g2 := Nat.ne_of_lt (Nat.lt_of_lt_of_le B1.lt hg_)
 have lo_g2 := Nat.le_trans (H1).size hg_
 refine wpList_nil (then_normal ?_)
 refine wsr ?_
 have H2 := H1.trans E2
 replace B1 := B1.ext E2
 refine wnew (Fld.cells Fld.zero) Tryd.zeroValue29 zero_impl_Field ?_
 intro g3 w3 B3 E3 hg_
 have q_g1_g3 := Nat.ne_of_lt (Nat.lt_of_lt_of_le B1.lt hg_)
 have q_g2_g3 := Nat.ne_of_lt (Nat.lt_of_lt_of_le B2.lt hg_)
 have lo_g3 := Nat.le_trans (H2).size hg_
 refine wpList_nil (then_normal ?_)
 refine wsr ?_
 refine wv (.pointer (some ⟨g1, 0, none⟩)) ?_
 replace B1 := B1.ext E3
 refine wld g1 (0) scal_int8 (B1.get (Fld.get0 _)) ?_
 refine wv (.pointer (some ⟨g3, 0, none⟩)) ?_
 refine wst g3 (0) (.int .i8 F.w) scal_int8 B3 (Fld.setw _ _) (by rw [Fld.size_cells]; omega) ?_
 intro w4 B3_ X1
 clear B3; have B3 := B3_; clear B3_
 refine wpList_nil (then_normal ?_)
 refine wsr ?_
 refine wv (.pointer (some ⟨g1, 1, none⟩)) ?_
 replace B1 := X1.blk B1 q_g1_g3
 refine wld g1 (1) scal_int8 (B1.get (Fld.get1 _)) ?_
 refine wv (.pointer (some ⟨g3, 1, none⟩)) ?_
 refine wst g3 (1) (.int .i8 F.h) scal_int8 B3 (Fld.seth _ _) (by rw [Fld.size_cells]; omega) ?_
 intro w5 B3_ X2
 clear B3; have B3 := B3_; clear B3_
 refine wpList_nil (then_normal ?_)
 refine wsr ?_
 refine wv (.pointer (some ⟨g1, 2, none⟩)) ?_
 replace B1 := X2.blk B1 q_g1_g3
 refine wmid (arr 100 .u8 F.k) g1 2 row__100_uint8 (by exact size_arr _ _ _) (Fld.midk B1) ?_
 refine wcl (toByteA100_any F.k _) ?_
 intro w6 E4
 refine wv (.pointer (some ⟨g3, 2, none⟩)) ?_
 replace B3 := B3.ext E4
 refine wpmid (n := 100) 2 (arr 100 .u8 F.k) row__100_uint8 B3 (by exact size_arr _ _ _) (by rw [Fld.size_cells]; omega) (by exact one_arr _ _ _) Fld.putk ?_
 intro w7 B3_ X3
 clear B3; have B3 := B3_; clear B3_
 refine wpList_nil (then_normal ?_)
 refine wsr ?_
 refine wv (.pointer (some ⟨g1, 102, none⟩)) ?_
 replace B1 := X3.blk (B1.ext E4) q_g1_g3
 refine wmid (arr 100 .i16 F.s) g1 102 row__100_int16 (by exact size_arr _ _ _) (Fld.mids B1) ?_
 refine wcl (toInt16A100_any F.s _) ?_
 intro w8 E5
 refine wv (.pointer (some ⟨g3, 102, none⟩)) ?_
 replace B3 := B3.ext E5
 refine wpmid (n := 100) 102 (arr 100 .i16 F.s) row__100_int16 B3 (by exact size_arr _ _ _) (by rw [Fld.size_cells]; omega) (by exact one_arr _ _ _) Fld.puts ?_
 intro w9 B3_ X4
 clear B3; have B3 := B3_; clear B3_
 refine wpList_nil (then_normal ?_)
 refine wsr ?_
 refine wrow row_impl_Field B3 (by exact Fld.size_cells _) ?_
 replace B2 := X4.blk ((X3.blk ((X2.blk (X1.blk (B2.ext E3) q_g2_g3) q_g2_g3).ext E4) q_g2_g3).ext E5) q_g2_g3
 refine wput (Fld.cells ({ { { { Fld.zero with w := F.w } with h := F.h } with k := F.k } with s := F.s })) row_impl_Field B2 (by exact Fld.size_cells _) (by exact Fld.size_cells _) (by exact Fld.one_cells _) ?_
 intro w10 B2_ X5
 clear B2; have B2 := B2_; clear B2_
 refine wpList_nil (then_normal ?_)
 refine wp_ret ?_
 have H3 := X5.ext w lo_g2 (X4.ext w lo_g3 ((X3.ext w lo_g3 ((X2.ext w lo_g3 (X1.ext w lo_g3 (H2.trans E3))).trans E4)).trans E5))
 refine ret1 (.agg F.cells) rfl ?_ rfl ?_
 · refine ⟨g2, 29, (Fld.cells ({ { { { Fld.zero with w := F.w } with h := F.h } with k := F.k } with s := F.s })), _, by kernel_rfl, B2, row_impl_Field, ?_, ?_⟩
   · exact Fld.size_cells _
   · show (.agg F.cells : Value) = (.agg (Fld.cells ({ { { { Fld.zero with w := F.w } with h := F.h } with k := F.k } with s := F.s })))
     refine congrArg Value.agg ?_
     exact Fld.ext' rfl rfl (fun _ _ => rfl) (fun _ _ => rfl)
 exact ⟨rfl, H3⟩


--# eqByteA100_same
theorem eqByteA100_same (f : Nat → Int) (w : World) :
 Calls Tryd.prog 49 #[.agg (arr 100 .u8 f), .agg (arr 100 .u8 f)] w fun e w' => e = .returned (.bool true) ∧ Ext w w' := by
 refine calls_of_wp Tryd.func49 rfl ?_
 refine wp_frame (a' := ⟨#[.agg (arr 100 .u8 f), .agg (arr 100 .u8 f), undef, undef, undef, undef, undef, undef, undef, undef, undef, undef, undef, undef, undef, undef, undef], []⟩) (by kernel_rfl) ?_
 refine wsr ?_
 refine wbox (arr 100 .u8 f) ?_
 intro g1 w1 B1 E1 _
 refine wbox (arr 100 .u8 f) ?_
 intro g2 w2 B2 E2 _
 refine wv (.bool false) ?_
 refine wpList_nil (then_normal ?_)
 refine wp_seq ?_
 refine wsr ?_
 refine wv (.int .i64 0) ?_
 refine wpList_nil (then_normal ?_)
 refine wp_block ?_
 replace B1 := B1.ext E2
 have H1 := ((Ext.refl w).trans E1).trans E2
 refine wp_loop_k (fun m1 a wl1 => ∃ (i : Nat), m1 = 100 - i ∧ i ≤ 100 ∧ Ext w wl1 ∧ Blk wl1 g1 23 (arr 100 .u8 f) ∧ Blk wl1 g2 23 (arr 100 .u8 f) ∧ (∃ J1 : Nat → Value, a = ⟨#[.agg (arr 100 .u8 f), .agg (arr 100 .u8 f), .pointer (some ⟨g1, 0, none⟩), .pointer (some ⟨g2, 0, none⟩), J1 4, .int .i64 (i : Int), J1 6, J1 7, J1 8, J1 9, J1 10, J1 11, J1 12, J1 13, J1 14, J1 15, J1 16], []⟩)) (100) ?_ ?_
 · refine ⟨0, rfl, ?_, H1, B1, B2, exJ (by kernel_rfl)⟩
   · omega
 intro m1 a wl1 hI
 obtain ⟨i, rfl, hi_, HL1, B1, B2, J1, rfl⟩ := hI
 refine wp_seq ?_
 refine wsr ?_
 refine wv (.int .i64 (i : Int)) ?_
 refine wv (.bool (decide ((i : Int) < 100))) ?_
 refine wpList_nil (then_normal ?_)
 refine wsplit (decide ((i : Int) < 100)) (fun h1 => ?_) (fun h1 => ?_)
 · skip
   have h1d := dT h1
   refine wp_skip ?_
   refine then_normal ?_
   refine wp_seq ?_
   refine wp_block ?_
   refine wp_seq ?_
   refine wp_frame (a' := ⟨#[.agg (arr 100 .u8 f), .agg (arr 100 .u8 f), .pointer (some ⟨g1, 0, none⟩), .pointer (some ⟨g2, 0, none⟩), J1 4, .int .i64 (i : Int), .int .i64 (i : Int), .bool (decide ((i : Int) < 100)), J1 8, J1 9, J1 10, J1 11, J1 12, J1 13, J1 14, J1 15, J1 16], []⟩) (by kernel_rfl) ?_
   refine region_go 7 [10, 11, 12, 13, 14, 15, 16] [[], [0], [1], [], [3], [4], [2, 5]]
    (fun i_ => ([.val (.int .i64 (i : Int)), .val (.pointer (some ⟨g1, 0 + i, none⟩)), .val (.int .u8 (f i)), .val (.int .i64 (i : Int)), .val (.pointer (some ⟨g2, 0 + i, none⟩)), .val (.int .u8 (f i)), .val (.bool false)] : List Fct).getD i_ .any)
    (by kernel_rfl) (by kernel_rfl) (by decide) (by simp) rfl (all_succ (all_succ (all_succ (all_succ (all_succ (all_succ (all_succ all_zero ?_) ?_) ?_) ?_) ?_) ?_) ?_) ?_
   · refine step0 rfl rfl rfl (fun wr hw => ?_)
     exact OpRun.val (.int .i64 (i : Int)) (.int .i64 (i : Int)) (by kernel_rfl) rfl ⟨Ext.refl _, rfl⟩
   · refine step1 rfl rfl rfl rfl (fun u0 wr hw h0 => ?_)
     cases h0
     exact OpRun.ixan (i := i) (k := .i64) (g := g1) (off := 0) arrt__100_uint8 rfl (by kernel_rfl) (by kernel_rfl) (by omega) ⟨Ext.refl _, rfl⟩
   · refine step1 rfl rfl rfl rfl (fun u0 wr hw h0 => ?_)
     cases h0
     exact OpRun.cell (g := g1) (off := 0 + i) (v := .int .u8 (f i)) scal_uint8 rfl (by kernel_rfl) ((B1.ext hw).get (get_arr0 (by omega))) ⟨Ext.refl _, rfl⟩
   · refine step0 rfl rfl rfl (fun wr hw => ?_)
     exact OpRun.val (.int .i64 (i : Int)) (.int .i64 (i : Int)) (by kernel_rfl) rfl ⟨Ext.refl _, rfl⟩
   · refine step1 rfl rfl rfl rfl (fun u0 wr hw h0 => ?_)
     cases h0
     exact OpRun.ixan (i := i) (k := .i64) (g := g2) (off := 0) arrt__100_uint8 rfl (by kernel_rfl) (by kernel_rfl) (by omega) ⟨Ext.refl _, rfl⟩
   · refine step1 rfl rfl rfl rfl (fun u0 wr hw h0 => ?_)
     cases h0
     exact OpRun.cell (g := g2) (off := 0 + i) (v := .int .u8 (f i)) scal_uint8 rfl (by kernel_rfl) ((B2.ext hw).get (get_arr0 (by omega))) ⟨Ext.refl _, rfl⟩
   · refine step2 rfl rfl rfl rfl rfl (fun u0 u1 wr hw h0 h1 => ?_)
     cases h0
     cases h1
     exact OpRun.val (.bool ((f i) != (f i))) (.bool false) (by kernel_rfl) (by simp) ⟨Ext.refl _, rfl⟩
   refine end7 (fun u0 u1 u2 u3 u4 u5 u6 w3 E3 f0 f1 f2 f3 f4 f5 f6 => ?_)
   cases f0
   cases f1
   cases f2
   cases f3
   cases f4
   cases f5
   cases f6
   refine wpList_nil (then_normal ?_)
   refine wcf ?_
   refine wp_skip ?_
   refine block_normal (then_normal ?_)
   refine wp_region_lit ?_
   refine wv (.int .i64 (i : Int)) ?_
   refine wi64 ((i : Int) + 1) ?_
   refine wv (.int .i64 ((i : Int) + 1)) ?_
   refine wpList_nil (then_normal ?_)
   replace B1 := B1.ext E3
   replace B2 := B2.ext E3
   have H2 := HL1.trans E3
   refine ⟨_, ?_, i + 1, rfl, ?_, H2, B1, B2, exJ (by kernel_rfl)⟩
   · omega
   · omega
 · skip
   have h1d := dF h1
   refine wp_exit ?_
   refine then_exit ?_
   refine then_exit ?_
   refine block_exit ?_
   refine then_normal ?_
   refine wsr ?_
   refine wv (.bool true) ?_
   refine wpList_nil (then_normal ?_)
   refine wp_ret ?_
   refine ret1 (.bool true) rfl ?_ rfl ?_
   · exact resT (by kernel_rfl)
   exact ⟨rfl, HL1⟩


--# eqInt16A100_same
theorem eqInt16A100_same (f : Nat → Int) (w : World) :
 Calls Tryd.prog 50 #[.agg (arr 100 .i16 f), .agg (arr 100 .i16 f)] w fun e w' => e = .returned (.bool true) ∧ Ext w w' := by
 refine calls_of_wp Tryd.func50 rfl ?_
 refine wp_frame (a' := ⟨#[.agg (arr 100 .i16 f), .agg (arr 100 .i16 f), undef, undef, undef, undef, undef, undef, undef, undef, undef, undef, undef, undef, undef, undef, undef], []⟩) (by kernel_rfl) ?_
 refine wsr ?_
 refine wbox (arr 100 .i16 f) ?_
 intro g1 w1 B1 E1 _
 refine wbox (arr 100 .i16 f) ?_
 intro g2 w2 B2 E2 _
 refine wv (.bool false) ?_
 refine wpList_nil (then_normal ?_)
 refine wp_seq ?_
 refine wsr ?_
 refine wv (.int .i64 0) ?_
 refine wpList_nil (then_normal ?_)
 refine wp_block ?_
 replace B1 := B1.ext E2
 have H1 := ((Ext.refl w).trans E1).trans E2
 refine wp_loop_k (fun m1 a wl1 => ∃ (i : Nat), m1 = 100 - i ∧ i ≤ 100 ∧ Ext w wl1 ∧ Blk wl1 g1 25 (arr 100 .i16 f) ∧ Blk wl1 g2 25 (arr 100 .i16 f) ∧ (∃ J1 : Nat → Value, a = ⟨#[.agg (arr 100 .i16 f), .agg (arr 100 .i16 f), .pointer (some ⟨g1, 0, none⟩), .pointer (some ⟨g2, 0, none⟩), J1 4, .int .i64 (i : Int), J1 6, J1 7, J1 8, J1 9, J1 10, J1 11, J1 12, J1 13, J1 14, J1 15, J1 16], []⟩)) (100) ?_ ?_
 · refine ⟨0, rfl, ?_, H1, B1, B2, exJ (by kernel_rfl)⟩
   · omega
 intro m1 a wl1 hI
 obtain ⟨i, rfl, hi_, HL1, B1, B2, J1, rfl⟩ := hI
 refine wp_seq ?_
 refine wsr ?_
 refine wv (.int .i64 (i : Int)) ?_
 refine wv (.bool (decide ((i : Int) < 100))) ?_
 refine wpList_nil (then_normal ?_)
 refine wsplit (decide ((i : Int) < 100)) (fun h1 => ?_) (fun h1 => ?_)
 · skip
   have h1d := dT h1
   refine wp_skip ?_
   refine then_normal ?_
   refine wp_seq ?_
   refine wp_block ?_
   refine wp_seq ?_
   refine wp_frame (a' := ⟨#[.agg (arr 100 .i16 f), .agg (arr 100 .i16 f), .pointer (some ⟨g1, 0, none⟩), .pointer (some ⟨g2, 0, none⟩), J1 4, .int .i64 (i : Int), .int .i64 (i : Int), .bool (decide ((i : Int) < 100)), J1 8, J1 9, J1 10, J1 11, J1 12, J1 13, J1 14, J1 15, J1 16], []⟩) (by kernel_rfl) ?_
   refine region_go 7 [10, 11, 12, 13, 14, 15, 16] [[], [0], [1], [], [3], [4], [2, 5]]
    (fun i_ => ([.val (.int .i64 (i : Int)), .val (.pointer (some ⟨g1, 0 + i, none⟩)), .val (.int .i16 (f i)), .val (.int .i64 (i : Int)), .val (.pointer (some ⟨g2, 0 + i, none⟩)), .val (.int .i16 (f i)), .val (.bool false)] : List Fct).getD i_ .any)
    (by kernel_rfl) (by kernel_rfl) (by decide) (by simp) rfl (all_succ (all_succ (all_succ (all_succ (all_succ (all_succ (all_succ all_zero ?_) ?_) ?_) ?_) ?_) ?_) ?_) ?_
   · refine step0 rfl rfl rfl (fun wr hw => ?_)
     exact OpRun.val (.int .i64 (i : Int)) (.int .i64 (i : Int)) (by kernel_rfl) rfl ⟨Ext.refl _, rfl⟩
   · refine step1 rfl rfl rfl rfl (fun u0 wr hw h0 => ?_)
     cases h0
     exact OpRun.ixan (i := i) (k := .i64) (g := g1) (off := 0) arrt__100_int16 rfl (by kernel_rfl) (by kernel_rfl) (by omega) ⟨Ext.refl _, rfl⟩
   · refine step1 rfl rfl rfl rfl (fun u0 wr hw h0 => ?_)
     cases h0
     exact OpRun.cell (g := g1) (off := 0 + i) (v := .int .i16 (f i)) scal_int16 rfl (by kernel_rfl) ((B1.ext hw).get (get_arr0 (by omega))) ⟨Ext.refl _, rfl⟩
   · refine step0 rfl rfl rfl (fun wr hw => ?_)
     exact OpRun.val (.int .i64 (i : Int)) (.int .i64 (i : Int)) (by kernel_rfl) rfl ⟨Ext.refl _, rfl⟩
   · refine step1 rfl rfl rfl rfl (fun u0 wr hw h0 => ?_)
     cases h0
     exact OpRun.ixan (i := i) (k := .i64) (g := g2) (off := 0) arrt__100_int16 rfl (by kernel_rfl) (by kernel_rfl) (by omega) ⟨Ext.refl _, rfl⟩
   · refine step1 rfl rfl rfl rfl (fun u0 wr hw h0 => ?_)
     cases h0
     exact OpRun.cell (g := g2) (off := 0 + i) (v := .int .i16 (f i)) scal_int16 rfl (by kernel_rfl) ((B2.ext hw).get (get_arr0 (by omega))) ⟨Ext.refl _, rfl⟩
   · refine step2 rfl rfl rfl rfl rfl (fun u0 u1 wr hw h0 h1 => ?_)
     cases h0
     cases h1
     exact OpRun.val (.bool ((f i) != (f i))) (.bool false) (by kernel_rfl) (by simp) ⟨Ext.refl _, rfl⟩
   refine end7 (fun u0 u1 u2 u3 u4 u5 u6 w3 E3 f0 f1 f2 f3 f4 f5 f6 => ?_)
   cases f0
   cases f1
   cases f2
   cases f3
   cases f4
   cases f5
   cases f6
   refine wpList_nil (then_normal ?_)
   refine wcf ?_
   refine wp_skip ?_
   refine block_normal (then_normal ?_)
   refine wp_region_lit ?_
   refine wv (.int .i64 (i : Int)) ?_
   refine wi64 ((i : Int) + 1) ?_
   refine wv (.int .i64 ((i : Int) + 1)) ?_
   refine wpList_nil (then_normal ?_)
   replace B1 := B1.ext E3
   replace B2 := B2.ext E3
   have H2 := HL1.trans E3
   refine ⟨_, ?_, i + 1, rfl, ?_, H2, B1, B2, exJ (by kernel_rfl)⟩
   · omega
   · omega
 · skip
   have h1d := dF h1
   refine wp_exit ?_
   refine then_exit ?_
   refine then_exit ?_
   refine block_exit ?_
   refine then_normal ?_
   refine wsr ?_
   refine wv (.bool true) ?_
   refine wpList_nil (then_normal ?_)
   refine wp_ret ?_
   refine ret1 (.bool true) rfl ?_ rfl ?_
   · exact resT (by kernel_rfl)
   exact ⟨rfl, HL1⟩


--# eqField_same
theorem eqField_same (F : Fld) (w : World) :
 Calls Tryd.prog 28 #[.agg F.cells, .agg F.cells] w fun e w' => e = .returned (.bool true) ∧ Ext w w' := by
 refine calls_of_wp Tryd.func28 rfl ?_
 refine wp_frame (a' := ⟨#[.agg F.cells, .agg F.cells, undef, undef, undef, undef, undef, undef, undef, undef, undef, undef, undef, undef, undef, undef, undef, undef, undef, undef, undef, undef, undef, undef, undef, undef, undef], []⟩) (by kernel_rfl) ?_
 refine wsr ?_
 refine wbox F.cells ?_
 intro g1 w1 B1 E1 _
 refine wbox F.cells ?_
 intro g2 w2 B2 E2 _
 refine wv (.bool false) ?_
 refine wpList_nil (then_normal ?_)
 refine wp_seq ?_
 refine wsr ?_
 refine wv (.pointer (some ⟨g1, 0, none⟩)) ?_
 replace B1 := B1.ext E2
 refine wld g1 (0) scal_int8 (B1.get (Fld.get0 _)) ?_
 refine wv (.pointer (some ⟨g2, 0, none⟩)) ?_
 refine wld g2 (0) scal_int8 (B2.get (Fld.get0 _)) ?_
 refine wvv (.bool (F.w != F.w)) (.bool false) (by simp) ?_
 refine wpList_nil (then_normal ?_)
 refine wcf ?_
 refine wp_skip ?_
 refine then_normal ?_
 refine wp_seq ?_
 refine wsr ?_
 refine wv (.pointer (some ⟨g1, 1, none⟩)) ?_
 refine wld g1 (1) scal_int8 (B1.get (Fld.get1 _)) ?_
 refine wv (.pointer (some ⟨g2, 1, none⟩)) ?_
 refine wld g2 (1) scal_int8 (B2.get (Fld.get1 _)) ?_
 refine wvv (.bool (F.h != F.h)) (.bool false) (by simp) ?_
 refine wpList_nil (then_normal ?_)
 refine wcf ?_
 refine wp_skip ?_
 refine then_normal ?_
 refine wp_seq ?_
 refine wsr ?_
 refine wv (.pointer (some ⟨g1, 2, none⟩)) ?_
 refine wmid (arr 100 .u8 F.k) g1 2 row__100_uint8 (by exact size_arr _ _ _) (Fld.midk B1) ?_
 refine wv (.pointer (some ⟨g2, 2, none⟩)) ?_
 refine wmid (arr 100 .u8 F.k) g2 2 row__100_uint8 (by exact size_arr _ _ _) (Fld.midk B2) ?_
 refine wcl (eqByteA100_same F.k _) ?_
 intro w3 E3
 refine wv (.bool false) ?_
 refine wpList_nil (then_normal ?_)
 refine wcf ?_
 refine wp_skip ?_
 refine then_normal ?_
 refine wp_seq ?_
 refine wsr ?_
 refine wv (.pointer (some ⟨g1, 102, none⟩)) ?_
 replace B1 := B1.ext E3
 refine wmid (arr 100 .i16 F.s) g1 102 row__100_int16 (by exact size_arr _ _ _) (Fld.mids B1) ?_
 refine wv (.pointer (some ⟨g2, 102, none⟩)) ?_
 replace B2 := B2.ext E3
 refine wmid (arr 100 .i16 F.s) g2 102 row__100_int16 (by exact size_arr _ _ _) (Fld.mids B2) ?_
 refine wcl (eqInt16A100_same F.s _) ?_
 intro w4 E4
 refine wv (.bool false) ?_
 refine wpList_nil (then_normal ?_)
 refine wcf ?_
 refine wp_skip ?_
 refine then_normal ?_
 refine wsr ?_
 refine wv (.bool true) ?_
 refine wpList_nil (then_normal ?_)
 refine wp_ret ?_
 have H1 := ((((Ext.refl w).trans E1).trans E2).trans E3).trans E4
 refine ret1 (.bool true) rfl ?_ rfl ?_
 · exact resT (by kernel_rfl)
 exact ⟨rfl, H1⟩


