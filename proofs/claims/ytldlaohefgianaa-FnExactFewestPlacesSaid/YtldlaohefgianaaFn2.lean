/-
  Contracts: conversions, comparisons, codes. No conditions.
-/
import Derived.Test.YtldlaohefgianaaTy
import Derived.Test.YtldlaohefgianaaSl
import Derived.Test.YtldlaohefgianaaMth
import Derived.Test.YtldlaohefgianaaFn1b
namespace Go.Proofs.Ytldlaohefgianaa
open Go.RowKit
set_option linter.unusedSimpArgs false
set_option linter.unusedVariables false
set_option maxHeartbeats 4000000
set_option maxRecDepth 100000
attribute [local irreducible] wpList Code.wp
--# toByteA100_any
theorem toByteA100_any (f : Nat → Int) (w : World) :
 Calls Try.prog 19 #[.agg (arr 100 .u8 f)] w fun e w' => e = .returned (.agg (arr 100 .u8 f)) ∧ Ext w w' := by
 refine calls_of_wp Try.func19 rfl ?_
 refine wp_frame (a' := ⟨#[.agg (arr 100 .u8 f), undef, undef, undef, undef, undef, undef, undef, undef, undef, undef, undef, undef, undef, undef], []⟩) (by kernel_rfl) ?_
 refine wsr ?_
 refine wbox (arr 100 .u8 f) ?_
 intro g1 w1 B1 E1 hg_
 have lo_g1 := Nat.le_trans ((Ext.refl w)).size hg_
 have H1 := (Ext.refl w).trans E1
 refine wnew (arr 100 .u8 (fun _ => 0)) Try.zeroValue23 zero__100_uint8 ?_
 intro g2 w2 B2 E2 hg_
 have q_g1_g2 := Nat.ne_of_lt (Nat.lt_of_lt_of_le B1.lt hg_)
 have lo_g2 := Nat.le_trans (H1).size hg_
 refine wpList_nil (then_normal ?_)
 refine wsr ?_
 have H2 := H1.trans E2
 replace B1 := B1.ext E2
 refine wnew (arr 100 .u8 (fun _ => 0)) Try.zeroValue23 zero__100_uint8 ?_
 intro g3 w3 B3 E3 hg_
 have q_g1_g3 := Nat.ne_of_lt (Nat.lt_of_lt_of_le B1.lt hg_)
 have q_g2_g3 := Nat.ne_of_lt (Nat.lt_of_lt_of_le B2.lt hg_)
 have lo_g3 := Nat.le_trans (H2).size hg_
 refine wpList_nil (then_normal ?_)
 refine wp_seq ?_
 refine wsr ?_
 refine wv (.int .i64 0) ?_
 refine wpList_nil (then_normal ?_)
 refine wp_block ?_
 replace B1 := B1.ext E3
 replace B2 := B2.ext E3
 have H3 := H2.trans E3
 refine wp_loop_k (fun m1 a wl1 => ∃ (i : Nat), m1 = 100 - i ∧ i ≤ 100 ∧ Ext w wl1 ∧ Blk wl1 g1 23 (arr 100 .u8 f) ∧ Blk wl1 g2 23 (arr 100 .u8 (fun _ => 0)) ∧ Blk wl1 g3 23 (arr 100 .u8 (cpy f i)) ∧ (∃ J1 : Nat → Value, a = ⟨#[.agg (arr 100 .u8 f), .pointer (some ⟨g1, 0, none⟩), .pointer (some ⟨g2, 0, none⟩), .pointer (some ⟨g3, 0, none⟩), .int .i64 (i : Int), J1 5, J1 6, J1 7, J1 8, J1 9, J1 10, J1 11, J1 12, J1 13, undef], []⟩)) (100) ?_ ?_
 · refine ⟨0, rfl, ?_, H3, B1, B2, ?_, exJ (by kernel_rfl)⟩
   · omega
   · rw [cpy_zero]; exact B3
 intro m1 a wl1 hI
 obtain ⟨i, rfl, hi_, HL1, B1, B2, B3, J1, rfl⟩ := hI
 refine wp_seq ?_
 refine wsr ?_
 refine wv (.int .i64 (i : Int)) ?_
 refine wv (.bool (decide ((i : Int) < 100))) ?_
 refine wpList_nil (then_normal ?_)
 refine wsplit (decide ((i : Int) < 100)) (fun h1 => ?_) (fun h1 => ?_)
 · skip
   have h1d := dT h1
   refine wp_skip ?_
   refine then_normal ?_
   refine wp_seq ?_
   refine wp_block ?_
   refine wp_region_lit ?_
   refine wv (.int .i64 (i : Int)) ?_
   refine wv (.int .i64 (i : Int)) ?_
   refine wixn g1 0 i .i64 arrt__100_uint8 ?_
   refine wld g1 (0 + i) scal_uint8 (B1.get (get_arr0 (by omega))) ?_
   refine wixn g3 0 i .i64 arrt__100_uint8 ?_
   refine wst g3 (0 + i) (.int .u8 (f i)) scal_uint8 B3 (set_arr0) (by rw [size_arr]; omega) ?_
   intro w4 B3_ X1
   clear B3; have B3 := B3_; clear B3_
   refine wpList_nil (block_normal (then_normal ?_))
   refine wp_region_lit ?_
   refine wv (.int .i64 (i : Int)) ?_
   refine wi64 ((i : Int) + 1) ?_
   refine wv (.int .i64 ((i : Int) + 1)) ?_
   refine wpList_nil (then_normal ?_)
   replace B1 := X1.blk B1 q_g1_g3
   replace B2 := X1.blk B2 q_g2_g3
   have H4 := X1.ext w lo_g3 HL1
   refine ⟨_, ?_, i + 1, rfl, ?_, H4, B1, B2, ?_, exJ (by kernel_rfl)⟩
   · omega
   · omega
   · rw [← cpy_upd]; exact B3
 · skip
   have h1d := dF h1
   refine wp_exit ?_
   refine then_exit ?_
   refine then_exit ?_
   refine block_exit ?_
   refine then_normal ?_
   refine wsr ?_
   refine wrow row__100_uint8 B3 (by exact size_arr _ _ _) ?_
   refine wput (arr 100 .u8 (cpy f i)) row__100_uint8 B2 (by exact size_arr _ _ _) (by exact size_arr _ _ _) (by exact one_arr _ _ _) ?_
   intro w5 B2_ X2
   clear B2; have B2 := B2_; clear B2_
   refine wpList_nil (then_normal ?_)
   refine wp_ret ?_
   have H5 := X2.ext w lo_g2 HL1
   refine ret1 (.agg (arr 100 .u8 f)) rfl ?_ rfl ?_
   · refine ⟨g2, 23, (arr 100 .u8 (cpy f i)), _, by kernel_rfl, B2, row__100_uint8, ?_, ?_⟩
     · exact size_arr _ _ _
     · show (.agg (arr 100 .u8 f) : Value) = (.agg (arr 100 .u8 (cpy f i)))
       refine congrArg Value.agg ?_
       exact (arr_cpy 100 .u8 f (i := i) (by omega)).symm
   exact ⟨rfl, H5⟩


--# toInt16A100_any
theorem toInt16A100_any (f : Nat → Int) (w : World) :
 Calls Try.prog 20 #[.agg (arr 100 .i16 f)] w fun e w' => e = .returned (.agg (arr 100 .i16 f)) ∧ Ext w w' := by
 refine calls_of_wp Try.func20 rfl ?_
 refine wp_frame (a' := ⟨#[.agg (arr 100 .i16 f), undef, undef, undef, undef, undef, undef, undef, undef, undef, undef, undef, undef, undef, undef], []⟩) (by kernel_rfl) ?_
 refine wsr ?_
 refine wbox (arr 100 .i16 f) ?_
 intro g1 w1 B1 E1 hg_
 have lo_g1 := Nat.le_trans ((Ext.refl w)).size hg_
 have H1 := (Ext.refl w).trans E1
 refine wnew (arr 100 .i16 (fun _ => 0)) Try.zeroValue25 zero__100_int16 ?_
 intro g2 w2 B2 E2 hg_
 have q_g1_g2 := Nat.ne_of_lt (Nat.lt_of_lt_of_le B1.lt hg_)
 have lo_g2 := Nat.le_trans (H1).size hg_
 refine wpList_nil (then_normal ?_)
 refine wsr ?_
 have H2 := H1.trans E2
 replace B1 := B1.ext E2
 refine wnew (arr 100 .i16 (fun _ => 0)) Try.zeroValue25 zero__100_int16 ?_
 intro g3 w3 B3 E3 hg_
 have q_g1_g3 := Nat.ne_of_lt (Nat.lt_of_lt_of_le B1.lt hg_)
 have q_g2_g3 := Nat.ne_of_lt (Nat.lt_of_lt_of_le B2.lt hg_)
 have lo_g3 := Nat.le_trans (H2).size hg_
 refine wpList_nil (then_normal ?_)
 refine wp_seq ?_
 refine wsr ?_
 refine wv (.int .i64 0) ?_
 refine wpList_nil (then_normal ?_)
 refine wp_block ?_
 replace B1 := B1.ext E3
 replace B2 := B2.ext E3
 have H3 := H2.trans E3
 refine wp_loop_k (fun m1 a wl1 => ∃ (i : Nat), m1 = 100 - i ∧ i ≤ 100 ∧ Ext w wl1 ∧ Blk wl1 g1 25 (arr 100 .i16 f) ∧ Blk wl1 g2 25 (arr 100 .i16 (fun _ => 0)) ∧ Blk wl1 g3 25 (arr 100 .i16 (cpy f i)) ∧ (∃ J1 : Nat → Value, a = ⟨#[.agg (arr 100 .i16 f), .pointer (some ⟨g1, 0, none⟩), .pointer (some ⟨g2, 0, none⟩), .pointer (some ⟨g3, 0, none⟩), .int .i64 (i : Int), J1 5, J1 6, J1 7, J1 8, J1 9, J1 10, J1 11, J1 12, J1 13, undef], []⟩)) (100) ?_ ?_
 · refine ⟨0, rfl, ?_, H3, B1, B2, ?_, exJ (by kernel_rfl)⟩
   · omega
   · rw [cpy_zero]; exact B3
 intro m1 a wl1 hI
 obtain ⟨i, rfl, hi_, HL1, B1, B2, B3, J1, rfl⟩ := hI
 refine wp_seq ?_
 refine wsr ?_
 refine wv (.int .i64 (i : Int)) ?_
 refine wv (.bool (decide ((i : Int) < 100))) ?_
 refine wpList_nil (then_normal ?_)
 refine wsplit (decide ((i : Int) < 100)) (fun h1 => ?_) (fun h1 => ?_)
 · skip
   have h1d := dT h1
   refine wp_skip ?_
   refine then_normal ?_
   refine wp_seq ?_
   refine wp_block ?_
   refine wp_region_lit ?_
   refine wv (.int .i64 (i : Int)) ?_
   refine wv (.int .i64 (i : Int)) ?_
   refine wixn g1 0 i .i64 arrt__100_int16 ?_
   refine wld g1 (0 + i) scal_int16 (B1.get (get_arr0 (by omega))) ?_
   refine wixn g3 0 i .i64 arrt__100_int16 ?_
   refine wst g3 (0 + i) (.int .i16 (f i)) scal_int16 B3 (set_arr0) (by rw [size_arr]; omega) ?_
   intro w4 B3_ X1
   clear B3; have B3 := B3_; clear B3_
   refine wpList_nil (block_normal (then_normal ?_))
   refine wp_region_lit ?_
   refine wv (.int .i64 (i : Int)) ?_
   refine wi64 ((i : Int) + 1) ?_
   refine wv (.int .i64 ((i : Int) + 1)) ?_
   refine wpList_nil (then_normal ?_)
   replace B1 := X1.blk B1 q_g1_g3
   replace B2 := X1.blk B2 q_g2_g3
   have H4 := X1.ext w lo_g3 HL1
   refine ⟨_, ?_, i + 1, rfl, ?_, H4, B1, B2, ?_, exJ (by kernel_rfl)⟩
   · omega
   · omega
   · rw [← cpy_upd]; exact B3
 · skip
   have h1d := dF h1
   refine wp_exit ?_
   refine then_exit ?_
   refine then_exit ?_
   refine block_exit ?_
   refine then_normal ?_
   refine wsr ?_
   refine wrow row__100_int16 B3 (by exact size_arr _ _ _) ?_
   refine wput (arr 100 .i16 (cpy f i)) row__100_int16 B2 (by exact size_arr _ _ _) (by exact size_arr _ _ _) (by exact one_arr _ _ _) ?_
   intro w5 B2_ X2
   clear B2; have B2 := B2_; clear B2_
   refine wpList_nil (then_normal ?_)
   refine wp_ret ?_
   have H5 := X2.ext w lo_g2 HL1
   refine ret1 (.agg (arr 100 .i16 f)) rfl ?_ rfl ?_
   · refine ⟨g2, 25, (arr 100 .i16 (cpy f i)), _, by kernel_rfl, B2, row__100_int16, ?_, ?_⟩
     · exact size_arr _ _ _
     · show (.agg (arr 100 .i16 f) : Value) = (.agg (arr 100 .i16 (cpy f i)))
       refine congrArg Value.agg ?_
       exact (arr_cpy 100 .i16 f (i := i) (by omega)).symm
   exact ⟨rfl, H5⟩


--# toField_any
theorem toField_any (F : Fld) (hF : F.wf) (w : World) :
 Calls Try.prog 6 #[.agg F.cells] w fun e w' => e = .returned (.agg F.cells) ∧ Ext w w' := by
 have w1_ := hF.w1
 have w2_ := hF.w2
 have h1_ := hF.h1
 have h2_ := hF.h2
 refine calls_of_wp Try.func6 rfl ?_
 refine wp_frame (a' := ⟨#[.agg F.cells, undef, undef, undef, undef, undef, undef, undef, undef, undef, undef, undef, undef, undef, undef, undef, undef, undef, undef], []⟩) (by kernel_rfl) ?_
 refine wsr ?_
 refine wbox F.cells ?_
 intro g1 w1 B1 E1 hg_
 have lo_g1 := Nat.le_trans ((Ext.refl w)).size hg_
 have H1 := (Ext.refl w).trans E1
 refine wnew (Fld.cells Fld.zero) Try.zeroValue32 zero_impl_Field ?_
 intro g2 w2 B2 E2 hg_
 have q_g1_g2 := Nat.ne_of_lt (Nat.lt_of_lt_of_le B1.lt hg_)
 have lo_g2 := Nat.le_trans (H1).size hg_
 refine wpList_nil (then_normal ?_)
 refine wsr ?_
 have H2 := H1.trans E2
 replace B1 := B1.ext E2
 refine wnew (Fld.cells Fld.zero) Try.zeroValue32 zero_impl_Field ?_
 intro g3 w3 B3 E3 hg_
 have q_g1_g3 := Nat.ne_of_lt (Nat.lt_of_lt_of_le B1.lt hg_)
 have q_g2_g3 := Nat.ne_of_lt (Nat.lt_of_lt_of_le B2.lt hg_)
 have lo_g3 := Nat.le_trans (H2).size hg_
 refine wpList_nil (then_normal ?_)
 refine wsr ?_
 refine wv (.pointer (some ⟨g1, 0, none⟩)) ?_
 replace B1 := B1.ext E3
 refine wld g1 (0) scal_int8 (B1.get (Fld.get0 _)) ?_
 refine wv (.pointer (some ⟨g3, 0, none⟩)) ?_
 refine wst g3 (0) (.int .i8 F.w) scal_int8 B3 (Fld.setw _ _) (by rw [Fld.size_cells]; omega) ?_
 intro w4 B3_ X1
 clear B3; have B3 := B3_; clear B3_
 refine wpList_nil (then_normal ?_)
 refine wsr ?_
 refine wv (.pointer (some ⟨g1, 1, none⟩)) ?_
 replace B1 := X1.blk B1 q_g1_g3
 refine wld g1 (1) scal_int8 (B1.get (Fld.get1 _)) ?_
 refine wv (.pointer (some ⟨g3, 1, none⟩)) ?_
 refine wst g3 (1) (.int .i8 F.h) scal_int8 B3 (Fld.seth _ _) (by rw [Fld.size_cells]; omega) ?_
 intro w5 B3_ X2
 clear B3; have B3 := B3_; clear B3_
 refine wpList_nil (then_normal ?_)
 refine wsr ?_
 refine wv (.pointer (some ⟨g1, 2, none⟩)) ?_
 replace B1 := X2.blk B1 q_g1_g3
 refine wmid (arr 100 .u8 F.k) g1 2 row__100_uint8 (by exact size_arr _ _ _) (Fld.midk B1) ?_
 refine wcl (toByteA100_any F.k _) ?_
 intro w6 E4
 refine wv (.pointer (some ⟨g3, 2, none⟩)) ?_
 replace B3 := B3.ext E4
 refine wpmid (n := 100) 2 (arr 100 .u8 F.k) row__100_uint8 B3 (by exact size_arr _ _ _) (by rw [Fld.size_cells]; omega) (by exact one_arr _ _ _) Fld.putk ?_
 intro w7 B3_ X3
 clear B3; have B3 := B3_; clear B3_
 refine wpList_nil (then_normal ?_)
 refine wsr ?_
 refine wv (.pointer (some ⟨g1, 102, none⟩)) ?_
 replace B1 := X3.blk (B1.ext E4) q_g1_g3
 refine wmid (arr 100 .i16 F.s) g1 102 row__100_int16 (by exact size_arr _ _ _) (Fld.mids B1) ?_
 refine wcl (toInt16A100_any F.s _) ?_
 intro w8 E5
 refine wv (.pointer (some ⟨g3, 102, none⟩)) ?_
 replace B3 := B3.ext E5
 refine wpmid (n := 100) 102 (arr 100 .i16 F.s) row__100_int16 B3 (by exact size_arr _ _ _) (by rw [Fld.size_cells]; omega) (by exact one_arr _ _ _) Fld.puts ?_
 intro w9 B3_ X4
 clear B3; have B3 := B3_; clear B3_
 refine wpList_nil (then_normal ?_)
 refine wsr ?_
 refine wrow row_impl_Field B3 (by exact Fld.size_cells _) ?_
 replace B2 := X4.blk ((X3.blk ((X2.blk (X1.blk (B2.ext E3) q_g2_g3) q_g2_g3).ext E4) q_g2_g3).ext E5) q_g2_g3
 refine wput (Fld.cells ({ { { { Fld.zero with w := F.w } with h := F.h } with k := F.k } with s := F.s })) row_impl_Field B2 (by exact Fld.size_cells _) (by exact Fld.size_cells _) (by exact Fld.one_cells _) ?_
 intro w10 B2_ X5
 clear B2; have B2 := B2_; clear B2_
 refine wpList_nil (then_normal ?_)
 refine wp_ret ?_
 have H3 := X5.ext w lo_g2 (X4.ext w lo_g3 ((X3.ext w lo_g3 ((X2.ext w lo_g3 (X1.ext w lo_g3 (H2.trans E3))).trans E4)).trans E5))
 refine ret1 (.agg F.cells) rfl ?_ rfl ?_
 · refine ⟨g2, 32, (Fld.cells ({ { { { Fld.zero with w := F.w } with h := F.h } with k := F.k } with s := F.s })), _, by kernel_rfl, B2, row_impl_Field, ?_, ?_⟩
   · exact Fld.size_cells _
   · show (.agg F.cells : Value) = (.agg (Fld.cells ({ { { { Fld.zero with w := F.w } with h := F.h } with k := F.k } with s := F.s })))
     refine congrArg Value.agg ?_
     exact Fld.ext' rfl rfl (fun _ _ => rfl) (fun _ _ => rfl)
 exact ⟨rfl, H3⟩


--# fieldCode_any
theorem fieldCode_any (F : Fld) (hF : F.wf) (b : Nat) (t : TypeId) (V : Value) (fn : FuncId) (full : Array Value) (hV : Clo Try.prog V #[] fn full) (B : Bool) (w : World) (hb : Blk w b t F.cells) (hc : ∀ w', Ext w w' → Calls Try.prog fn full w' fun e w'' => e = .returned (.bool B) ∧ Ext w' w'') :
 Calls Try.prog 30 #[.pointer (some ⟨b, 0, none⟩), V] w fun e w' => e = .returned (.int .i64 (code F B)) ∧ Ext w w' := by
 refine calls_of_wp Try.func30 rfl ?_
 refine wp_frame (a' := ⟨#[.pointer (some ⟨b, 0, none⟩), V, undef, undef, undef, undef, undef, undef, undef, undef, undef, undef, undef, undef, undef], []⟩) (by kernel_rfl) ?_
 refine wsr ?_
 refine wv (.int .i64 0) ?_
 refine wpList_nil (then_normal ?_)
 refine wp_seq ?_
 refine wp_block ?_
 refine wsr ?_
 refine wv (.pointer (some ⟨b, 0, none⟩)) ?_
 refine wv (.pointer (some ⟨b, 0, none⟩)) ?_
 refine wrow row_impl_Field hb (by exact Fld.size_cells _) ?_
 refine wcl (iValidField_any F hF _) ?_
 intro w1 E1
 refine wv (.bool (!(okB F))) ?_
 refine wv (.bool (!(okB F))) ?_
 refine wpList_nil (then_normal ?_)
 refine wsplit (!(okB F)) (fun h1 => ?_) (fun h1 => ?_)
 · skip
   replace h1 := nbT h1
   refine wsr ?_
   refine wv (.int .i64 1) ?_
   refine wpList_nil (then_normal ?_)
   refine wp_ret ?_
   refine block_ret (then_ret ?_)
   have H1 := (Ext.refl w).trans E1
   refine ret1 (.int .i64 (code F B)) rfl ?_ rfl ?_
   · refine (resT (v := .int .i64 1) (by kernel_rfl)).trans ?_
     refine congrArg (Value.int _) ?_
     first | exact (code_1 (by assumption)).symm | exact (code_2 (by assumption) (by assumption)).symm | exact (code_0 (by assumption) (by assumption)).symm
   exact ⟨rfl, H1⟩
 · skip
   replace h1 := nbF h1
   refine wsr ?_
   refine wv V ?_
   have H2 := (Ext.refl w).trans E1
   refine wcl (he := (Eq.trans (b := (callV V #[]).run Try.prog _) (by kernel_rfl) (hV _))) (hc _ H2) ?_
   intro w2 E2
   refine wv (.bool (!B)) ?_
   refine wv (.bool (!B)) ?_
   refine wpList_nil (then_normal ?_)
   refine wsplit (!B) (fun h2 => ?_) (fun h2 => ?_)
   · skip
     replace h2 := nbT h2
     refine wsr ?_
     refine wv (.int .i64 2) ?_
     refine wpList_nil (then_normal ?_)
     refine wp_ret ?_
     refine block_ret (then_ret ?_)
     have H3 := H2.trans E2
     refine ret1 (.int .i64 (code F B)) rfl ?_ rfl ?_
     · refine (resT (v := .int .i64 2) (by kernel_rfl)).trans ?_
       refine congrArg (Value.int _) ?_
       first | exact (code_1 (by assumption)).symm | exact (code_2 (by assumption) (by assumption)).symm | exact (code_0 (by assumption) (by assumption)).symm
     exact ⟨rfl, H3⟩
   · skip
     replace h2 := nbF h2
     refine wp_skip ?_
     refine block_normal (then_normal ?_)
     refine wsr ?_
     refine wv (.int .i64 0) ?_
     refine wpList_nil (then_normal ?_)
     refine wp_ret ?_
     have H4 := H2.trans E2
     refine ret1 (.int .i64 (code F B)) rfl ?_ rfl ?_
     · refine (resT (v := .int .i64 0) (by kernel_rfl)).trans ?_
       refine congrArg (Value.int _) ?_
       first | exact (code_1 (by assumption)).symm | exact (code_2 (by assumption) (by assumption)).symm | exact (code_0 (by assumption) (by assumption)).symm
     exact ⟨rfl, H4⟩


