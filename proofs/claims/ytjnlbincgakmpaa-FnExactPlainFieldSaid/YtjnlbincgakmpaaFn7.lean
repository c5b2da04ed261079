/-
  Contracts: more functions. No conditions.
-/
import Derived.Test.YtjnlbincgakmpaaTy
import Derived.Test.YtjnlbincgakmpaaSl
import Derived.Test.YtjnlbincgakmpaaMth
import Derived.Test.YtjnlbincgakmpaaFn5
import Derived.Test.YtjnlbincgakmpaaMth2
namespace Go.Proofs.Ytjnlbincgakmpaa
open Go.RowKit
set_option linter.unusedSimpArgs false
set_option linter.unusedVariables false
set_option maxHeartbeats 4000000
set_option maxRecDepth 100000
attribute [local irreducible] wpList Code.wp
--# sCellsOfKind_any
theorem sCellsOfKind_any (F : Fld) (hF : F.wf) (k : Int) (w : World) :
 Calls Try.prog 39 #[.agg F.cells, .int .i64 k] w fun e w' => e = .returned (.tuple #[.agg #[.int .u64 ((kindS F k).1), .int .u64 ((kindS F k).2)], .int .i64 (code F (inB k 0 3))]) ∧ Ext w w' := by
 refine calls_of_wp Try.func39 rfl ?_
 refine wp_frame (a' := ⟨#[.agg F.cells, .int .i64 k, undef, undef, undef, undef, undef, undef, undef, undef, undef, undef, undef, undef, undef, undef, undef, undef, undef, undef, undef, undef, undef, undef, undef, undef, undef, undef, undef, undef, undef, undef, undef, undef], []⟩) (by kernel_rfl) ?_
 refine wsr ?_
 refine wbox F.cells ?_
 intro g1 w1 B1 E1 hg_
 have lo_g1 := Nat.le_trans ((Ext.refl w)).size hg_
 have H1 := (Ext.refl w).trans E1
 refine wnew #[.int .u64 0, .int .u64 0] Try.zeroValue25 rfl ?_
 intro g2 w2 B2 E2 hg_
 have q_g1_g2 := Nat.ne_of_lt (Nat.lt_of_lt_of_le B1.lt hg_)
 have lo_g2 := Nat.le_trans (H1).size hg_
 refine wv (.int .i64 0) ?_
 refine wpList_nil (then_normal ?_)
 refine wsr ?_
 refine wv (.agg #[.int .u64 0, .int .u64 0]) ?_
 have H2 := H1.trans E2
 replace B1 := B1.ext E2
 refine wnew #[.int .u64 0, .int .u64 0] Try.zeroValue25 rfl ?_
 intro g3 w3 B3 E3 hg_
 have q_g1_g3 := Nat.ne_of_lt (Nat.lt_of_lt_of_le B1.lt hg_)
 have q_g2_g3 := Nat.ne_of_lt (Nat.lt_of_lt_of_le B2.lt hg_)
 have lo_g3 := Nat.le_trans (H2).size hg_
 refine wput #[.int .u64 0, .int .u64 0] row_impl_Cells B3 (by rfl) (by rfl) (by kernel_rfl) ?_
 intro w4 B3_ X1
 clear B3; have B3 := B3_; clear B3_
 refine wpList_nil (then_normal ?_)
 refine wp_seq ?_
 refine wsr ?_
 replace B1 := X1.blk (B1.ext E3) q_g1_g3
 refine wcl (l01Ok_any F hF g1 _ _ B1) ?_
 intro w5 E4
 refine wv (.bool (!(okB F))) ?_
 refine wpList_nil (then_normal ?_)
 have H3 := (X1.ext w lo_g3 (H2.trans E3)).trans E4
 refine wsplit (!(okB F)) (fun h1 => ?_) (fun h1 => ?_)
 · skip
   replace h1 := nbT h1
   refine wsr ?_
   replace B3 := B3.ext E4
   refine wrow row_impl_Cells B3 (by rfl) ?_
   replace B2 := (X1.blk (B2.ext E3) q_g2_g3).ext E4
   refine wput #[.int .u64 0, .int .u64 0] row_impl_Cells B2 (by rfl) (by rfl) (by kernel_rfl) ?_
   intro w6 B2_ X2
   clear B2; have B2 := B2_; clear B2_
   refine wv (.int .i64 1) ?_
   refine wpList_nil (then_normal ?_)
   refine wp_ret ?_
   refine then_ret ?_
   have H4 := X2.ext w lo_g2 H3
   refine ret2 (.agg #[.int .u64 ((kindS F k).1), .int .u64 ((kindS F k).2)]) (.int .i64 (code F (inB k 0 3))) rfl ?_ ?_ rfl ?_
   · refine ⟨g2, 25, #[.int .u64 0, .int .u64 0], _, by kernel_rfl, B2, row_impl_Cells, ?_, ?_⟩
     · rfl
     · show (.agg #[.int .u64 ((kindS F k).1), .int .u64 ((kindS F k).2)] : Value) = (.agg #[.int .u64 0, .int .u64 0])
       refine congrArg Value.agg ?_
       first | (rw [kindS_f (by rw [code_1 (by assumption)]; decide)]; done) | (rw [kindS_f (by rw [code_2 (by assumption) (by assumption)]; decide)]; done) | (rw [kindS_t (code_0 (by assumption) (by assumption)), show i = 100 by omega])
   · refine (resT (v := .int .i64 1) (by kernel_rfl)).trans ?_
     refine congrArg (Value.int _) ?_
     first | exact (code_1 (by assumption)).symm | exact (code_2 (by assumption) (by assumption)).symm | exact (code_0 (by assumption) (by assumption)).symm
   exact ⟨rfl, H4⟩
 · skip
   replace h1 := nbF h1
   refine wp_skip ?_
   refine then_normal ?_
   refine wp_seq ?_
   refine wsr ?_
   refine wv (.int .i64 k) ?_
   refine wcl (l01Kind_any k _) ?_
   intro w7 E5
   refine wv (.bool (!(inB k 0 3))) ?_
   refine wpList_nil (then_normal ?_)
   have H5 := H3.trans E5
   refine wsplit (!(inB k 0 3)) (fun h2 => ?_) (fun h2 => ?_)
   · skip
     replace h2 := nbT h2
     have h2d := inF h2
     refine wsr ?_
     replace B3 := (B3.ext E4).ext E5
     refine wrow row_impl_Cells B3 (by rfl) ?_
     replace B2 := ((X1.blk (B2.ext E3) q_g2_g3).ext E4).ext E5
     refine wput #[.int .u64 0, .int .u64 0] row_impl_Cells B2 (by rfl) (by rfl) (by kernel_rfl) ?_
     intro w8 B2_ X3
     clear B2; have B2 := B2_; clear B2_
     refine wv (.int .i64 2) ?_
     refine wpList_nil (then_normal ?_)
     refine wp_ret ?_
     refine then_ret ?_
     have H6 := X3.ext w lo_g2 H5
     refine ret2 (.agg #[.int .u64 ((kindS F k).1), .int .u64 ((kindS F k).2)]) (.int .i64 (code F (inB k 0 3))) rfl ?_ ?_ rfl ?_
     · refine ⟨g2, 25, #[.int .u64 0, .int .u64 0], _, by kernel_rfl, B2, row_impl_Cells, ?_, ?_⟩
       · rfl
       · show (.agg #[.int .u64 ((kindS F k).1), .int .u64 ((kindS F k).2)] : Value) = (.agg #[.int .u64 0, .int .u64 0])
         refine congrArg Value.agg ?_
         first | (rw [kindS_f (by rw [code_1 (by assumption)]; decide)]; done) | (rw [kindS_f (by rw [code_2 (by assumption) (by assumption)]; decide)]; done) | (rw [kindS_t (code_0 (by assumption) (by assumption)), show i = 100 by omega])
     · refine (resT (v := .int .i64 2) (by kernel_rfl)).trans ?_
       refine congrArg (Value.int _) ?_
       first | exact (code_1 (by assumption)).symm | exact (code_2 (by assumption) (by assumption)).symm | exact (code_0 (by assumption) (by assumption)).symm
     exact ⟨rfl, H6⟩
   · skip
     replace h2 := nbF h2
     have h2d := inT h2
     refine wp_skip ?_
     refine then_normal ?_
     refine wp_seq ?_
     refine wsr ?_
     refine wv (.int .i64 0) ?_
     refine wpList_nil (then_normal ?_)
     refine wp_block ?_
     replace B1 := (B1.ext E4).ext E5
     replace B2 := ((X1.blk (B2.ext E3) q_g2_g3).ext E4).ext E5
     replace B3 := (B3.ext E4).ext E5
     refine wp_loop_k (fun m1 a wl1 => ∃ (i : Nat), m1 = 100 - i ∧ i ≤ 100 ∧ Ext w wl1 ∧ Blk wl1 g1 39 F.cells ∧ Blk wl1 g2 25 #[.int .u64 0, .int .u64 0] ∧ Blk wl1 g3 25 #[.int .u64 ((setC F (fun c_ => F.k c_.toNat == k) i).1), .int .u64 ((setC F (fun c_ => F.k c_.toNat == k) i).2)] ∧ (∃ J1 : Nat → Value, a = ⟨#[.agg F.cells, .int .i64 k, .pointer (some ⟨g1, 0, none⟩), undef, .pointer (some ⟨g2, 0, none⟩), .int .i64 0, .pointer (some ⟨g3, 0, none⟩), .int .i64 (i : Int), .agg #[.int .u64 0, .int .u64 0], .bool (okB F), .bool (!(okB F)), undef, .int .i64 k, .bool (inB k 0 3), .bool (!(inB k 0 3)), undef, J1 16, J1 17, J1 18, J1 19, J1 20, J1 21, J1 22, J1 23, J1 24, J1 25, J1 26, J1 27, J1 28, J1 29, J1 30, J1 31, J1 32, undef], []⟩)) (100) ?_ ?_
     · refine ⟨0, rfl, ?_, H5, B1, B2, ?_, exJ (by kernel_rfl)⟩
       · omega
       · unfold setC; rw [foldC_0]; exact B3
     intro m1 a wl1 hI
     obtain ⟨i, rfl, hi_, HL1, B1, B2, B3, J1, rfl⟩ := hI
     refine wp_seq ?_
     refine wsr ?_
     refine wv (.int .i64 (i : Int)) ?_
     refine wv (.bool (decide ((i : Int) < 100))) ?_
     refine wpList_nil (then_normal ?_)
     refine wsplit (decide ((i : Int) < 100)) (fun h3 => ?_) (fun h3 => ?_)
     · skip
       have h3d := dT h3
       refine wp_skip ?_
       refine then_normal ?_
       refine wp_seq ?_
       refine wp_block ?_
       refine wsr ?_
       refine wv (.int .i64 (i : Int)) ?_
       refine wcl (l01Is_any F hF g1 _ (i : Int) _ B1) ?_
       intro w9 E6
       refine wv (.bool (isB F (i : Int))) ?_
       have H7 := HL1.trans E6
       refine split_bool (isB F (i : Int)) (fun h4 => ?_) (fun h4 => ?_)
       · skip
         refine wbl 22 true h4 ?_
         have h4d := isB_true.1 h4
         refine wv (.int .i64 (i : Int)) ?_
         refine wv (.pointer (some ⟨g1, 2, none⟩)) ?_
         refine wixn g1 2 i .i64 arrt__100_uint8 ?_
         replace B1 := B1.ext E6
         have ce1 := hF.k1 i (by omega)
         have ce2 := ok_cell h1 i (by omega)
         refine wld g1 (2 + i) scal_uint8 (B1.get (Fld.getk _ _ (by omega))) ?_
         refine wi64 (F.k i) ?_
         refine wv (.int .i64 k) ?_
         refine wv (.bool ((F.k i) == k)) ?_
         refine wv (.bool ((F.k i) == k)) ?_
         refine wpList_nil (then_normal ?_)
         refine wsplit ((F.k i) == k) (fun h5 => ?_) (fun h5 => ?_)
         · skip
           have h5d := eT h5
           refine wp_region_lit ?_
           refine wv (.int .i64 (i : Int)) ?_
           replace B3 := B3.ext E6
           refine wcl (l01Put_any ((setC F (fun c_ => F.k c_.toNat == k) i).1) ((setC F (fun c_ => F.k c_.toNat == k) i).2) g3 _ (i : Int) (by omega) _ B3) ?_
           rintro w10 ⟨B3_, X4⟩
           clear B3; have B3 := B3_; clear B3_
           refine wpList_nil (block_normal (then_normal ?_))
           refine wp_region_lit ?_
           refine wv (.int .i64 (i : Int)) ?_
           refine wi64 ((i : Int) + 1) ?_
           refine wv (.int .i64 ((i : Int) + 1)) ?_
           refine wpList_nil (then_normal ?_)
           replace B1 := X4.blk B1 q_g1_g3
           replace B2 := X4.blk (B2.ext E6) q_g2_g3
           have H8 := X4.ext w lo_g3 H7
           refine ⟨_, ?_, i + 1, rfl, ?_, H8, B1, B2, ?_, exJ (by kernel_rfl)⟩
           · omega
           · omega
           · first | (rw [setC_2 (by assumption)]; exact B3) | (rw [setC_3 (by assumption) (by assumption)]; exact B3) | (rw [setC_1 (by assumption) (by assumption)]; exact B3) | (rw [setC_4 (by assumption)]; exact B3) | (rw [setC_5 (by assumption)]; exact B3)
         · skip
           have h5d := eF h5
           refine wp_skip ?_
           refine block_normal (then_normal ?_)
           refine wp_region_lit ?_
           refine wv (.int .i64 (i : Int)) ?_
           refine wi64 ((i : Int) + 1) ?_
           refine wv (.int .i64 ((i : Int) + 1)) ?_
           refine wpList_nil (then_normal ?_)
           replace B2 := B2.ext E6
           replace B3 := B3.ext E6
           refine ⟨_, ?_, i + 1, rfl, ?_, H7, B1, B2, ?_, exJ (by kernel_rfl)⟩
           · omega
           · omega
           · first | (rw [setC_2 (by assumption)]; exact B3) | (rw [setC_3 (by assumption) (by assumption)]; exact B3) | (rw [setC_1 (by assumption) (by assumption)]; exact B3) | (rw [setC_4 (by assumption)]; exact B3) | (rw [setC_5 (by assumption)]; exact B3)
       · skip
         refine wbl 22 false h4 ?_
         refine wsk ?_
         refine wsk ?_
         refine wsk ?_
         refine wsk ?_
         refine wsk ?_
         refine wsk ?_
         refine wsk ?_
         refine wv (.bool false) ?_
         refine wpList_nil (then_normal ?_)
         refine wcf ?_
         refine wp_skip ?_
         refine block_normal (then_normal ?_)
         refine wp_region_lit ?_
         refine wv (.int .i64 (i : Int)) ?_
         refine wi64 ((i : Int) + 1) ?_
         refine wv (.int .i64 ((i : Int) + 1)) ?_
         refine wpList_nil (then_normal ?_)
         replace B1 := B1.ext E6
         replace B2 := B2.ext E6
         replace B3 := B3.ext E6
         refine ⟨_, ?_, i + 1, rfl, ?_, H7, B1, B2, ?_, exJ (by kernel_rfl)⟩
         · omega
         · omega
         · first | (rw [setC_2 (by assumption)]; exact B3) | (rw [setC_3 (by assumption) (by assumption)]; exact B3) | (rw [setC_1 (by assumption) (by assumption)]; exact B3) | (rw [setC_4 (by assumption)]; exact B3) | (rw [setC_5 (by assumption)]; exact B3)
     · skip
       have h3d := dF h3
       refine wp_exit ?_
       refine then_exit ?_
       refine then_exit ?_
       refine block_exit ?_
       refine then_normal ?_
       refine wsr ?_
       refine wrow row_impl_Cells B3 (by rfl) ?_
       refine wput #[.int .u64 ((setC F (fun c_ => F.k c_.toNat == k) i).1), .int .u64 ((setC F (fun c_ => F.k c_.toNat == k) i).2)] row_impl_Cells B2 (by rfl) (by rfl) (by kernel_rfl) ?_
       intro w11 B2_ X5
       clear B2; have B2 := B2_; clear B2_
       refine wv (.int .i64 0) ?_
       refine wpList_nil (then_normal ?_)
       refine wp_ret ?_
       have H9 := X5.ext w lo_g2 HL1
       refine ret2 (.agg #[.int .u64 ((kindS F k).1), .int .u64 ((kindS F k).2)]) (.int .i64 (code F (inB k 0 3))) rfl ?_ ?_ rfl ?_
       · refine ⟨g2, 25, #[.int .u64 ((setC F (fun c_ => F.k c_.toNat == k) i).1), .int .u64 ((setC F (fun c_ => F.k c_.toNat == k) i).2)], _, by kernel_rfl, B2, row_impl_Cells, ?_, ?_⟩
         · rfl
         · show (.agg #[.int .u64 ((kindS F k).1), .int .u64 ((kindS F k).2)] : Value) = (.agg #[.int .u64 ((setC F (fun c_ => F.k c_.toNat == k) i).1), .int .u64 ((setC F (fun c_ => F.k c_.toNat == k) i).2)])
           refine congrArg Value.agg ?_
           first | (rw [kindS_f (by rw [code_1 (by assumption)]; decide)]; done) | (rw [kindS_f (by rw [code_2 (by assumption) (by assumption)]; decide)]; done) | (rw [kindS_t (code_0 (by assumption) (by assumption)), show i = 100 by omega])
       · refine (resT (v := .int .i64 0) (by kernel_rfl)).trans ?_
         refine congrArg (Value.int _) ?_
         first | exact (code_1 (by assumption)).symm | exact (code_2 (by assumption) (by assumption)).symm | exact (code_0 (by assumption) (by assumption)).symm
       exact ⟨rfl, H9⟩


--# iCellsOfKind_any
theorem iCellsOfKind_any (F : Fld) (hF : F.wf) (k : Int) (w : World) :
 Calls Try.prog 40 #[.agg F.cells, .int .i64 k] w fun e w' => e = .returned (.tuple #[.agg #[.int .u64 ((kindS F k).1), .int .u64 ((kindS F k).2)], .int .i64 (code F (inB k 0 3))]) ∧ Ext w w' := by
 refine calls_of_wp Try.func40 rfl ?_
 refine wp_frame (a' := ⟨#[.agg F.cells, .int .i64 k, undef, undef, undef, undef, undef, undef, undef, undef, undef, undef, undef, undef, undef], []⟩) (by kernel_rfl) ?_
 refine wsr ?_
 refine wbox F.cells ?_
 intro g1 w1 B1 E1 hg_
 have lo_g1 := Nat.le_trans ((Ext.refl w)).size hg_
 have H1 := (Ext.refl w).trans E1
 refine wboxv (.int .i64 k) ?_
 intro g2 w2 B2 E2 hg_
 have q_g1_g2 := Nat.ne_of_lt (Nat.lt_of_lt_of_le B1.lt hg_)
 have lo_g2 := Nat.le_trans (H1).size hg_
 have H2 := H1.trans E2
 replace B1 := B1.ext E2
 refine wnew #[.int .u64 0, .int .u64 0] Try.zeroValue25 rfl ?_
 intro g3 w3 B3 E3 hg_
 have q_g1_g3 := Nat.ne_of_lt (Nat.lt_of_lt_of_le B1.lt hg_)
 have q_g2_g3 := Nat.ne_of_lt (Nat.lt_of_lt_of_le B2.lt hg_)
 have lo_g3 := Nat.le_trans (H2).size hg_
 refine wv (.int .i64 0) ?_
 refine wpList_nil (then_normal ?_)
 refine wp_seq ?_
 refine wsr ?_
 refine wv (.func (.func 75) #[] #[.pointer (some ⟨g2, 0, none⟩)]) ?_
 replace B1 := B1.ext E3
 replace B2 := B2.ext E3
 refine wcl (fieldCode_any F hF g1 _ (.func (.func 75) #[] #[.pointer (some ⟨g2, 0, none⟩)]) 75 #[.pointer (some ⟨g2, 0, none⟩)] (fun _ => by kernel_rfl) (inB k 0 3) _ B1 (fun _ E_ => CellsOfKind1_any k g2 _ _ (B2.ext E_))) ?_
 intro w4 E4
 refine wv (.int .i64 (code F (inB k 0 3))) ?_
 refine wpList_nil (then_normal ?_)
 refine wsr ?_
 refine wv (.int .i64 (code F (inB k 0 3))) ?_
 refine wv (.bool ((code F (inB k 0 3)) != 0)) ?_
 refine wpList_nil (then_normal ?_)
 have H3 := (H2.trans E3).trans E4
 refine wsplit ((code F (inB k 0 3)) != 0) (fun h1 => ?_) (fun h1 => ?_)
 · skip
   have h1d := nT h1
   refine wsr ?_
   refine wv (.agg #[.int .u64 0, .int .u64 0]) ?_
   refine wv (.int .i64 (code F (inB k 0 3))) ?_
   replace B3 := B3.ext E4
   refine wput #[.int .u64 0, .int .u64 0] row_impl_Cells B3 (by rfl) (by rfl) (by kernel_rfl) ?_
   intro w5 B3_ X1
   clear B3; have B3 := B3_; clear B3_
   refine wv (.int .i64 (code F (inB k 0 3))) ?_
   refine wpList_nil (then_normal ?_)
   refine wp_ret ?_
   refine then_ret ?_
   have H4 := X1.ext w lo_g3 H3
   refine ret2 (.agg #[.int .u64 ((kindS F k).1), .int .u64 ((kindS F k).2)]) (.int .i64 (code F (inB k 0 3))) rfl ?_ ?_ rfl ?_
   · refine ⟨g3, 25, #[.int .u64 0, .int .u64 0], _, by kernel_rfl, B3, row_impl_Cells, ?_, ?_⟩
     · rfl
     · show (.agg #[.int .u64 ((kindS F k).1), .int .u64 ((kindS F k).2)] : Value) = (.agg #[.int .u64 0, .int .u64 0])
       refine congrArg Value.agg ?_
       first | rw [kindS_f (by assumption)] | rw [kindS_t (by assumption)]
   · exact resT (by kernel_rfl)
   exact ⟨rfl, H4⟩
 · skip
   have h1d := nF h1
   have h1o := (code_zero h1d).1
   have h1z := (code_zero h1d).2
   have h1zd := inT h1z
   refine wp_skip ?_
   refine then_normal ?_
   refine wsr ?_
   replace B2 := B2.ext E4
   refine wld (v := .int .i64 k) g2 (0) scal_int64 (B2.get (rfl)) ?_
   replace B1 := B1.ext E4
   refine wcl (ofKind_any F hF g1 _ k _ B1) ?_
   intro w6 E5
   replace B3 := (B3.ext E4).ext E5
   refine wput #[.int .u64 ((setC F (fun c_ => F.k c_.toNat == k) 100).1), .int .u64 ((setC F (fun c_ => F.k c_.toNat == k) 100).2)] row_impl_Cells B3 (by rfl) (by rfl) (by kernel_rfl) ?_
   intro w7 B3_ X2
   clear B3; have B3 := B3_; clear B3_
   refine wv (.int .i64 0) ?_
   refine wpList_nil (then_normal ?_)
   refine wp_ret ?_
   have H5 := X2.ext w lo_g3 (H3.trans E5)
   refine ret2 (.agg #[.int .u64 ((kindS F k).1), .int .u64 ((kindS F k).2)]) (.int .i64 (code F (inB k 0 3))) rfl ?_ ?_ rfl ?_
   · refine ⟨g3, 25, #[.int .u64 ((setC F (fun c_ => F.k c_.toNat == k) 100).1), .int .u64 ((setC F (fun c_ => F.k c_.toNat == k) 100).2)], _, by kernel_rfl, B3, row_impl_Cells, ?_, ?_⟩
     · rfl
     · show (.agg #[.int .u64 ((kindS F k).1), .int .u64 ((kindS F k).2)] : Value) = (.agg #[.int .u64 ((setC F (fun c_ => F.k c_.toNat == k) 100).1), .int .u64 ((setC F (fun c_ => F.k c_.toNat == k) 100).2)])
       refine congrArg Value.agg ?_
       first | rw [kindS_f (by assumption)] | rw [kindS_t (by assumption)]
   · refine (resT (v := .int .i64 0) (by kernel_rfl)).trans ?_
     refine congrArg (Value.int _) ?_
     first | (rw [if_pos (by assumption)]; done) | (rw [if_neg (by assumption)]; done) | rfl | assumption | (symm; assumption)
   exact ⟨rfl, H5⟩


--# pin
theorem pin_1 {a b v : Int} (h : inB a 1 10 = false) : pin a b v = false := by unfold pin; rw [h]; rfl
theorem pin_2 {a b v : Int} (h : inB b 1 10 = false) : pin a b v = false := by unfold pin; rw [h, Bool.and_false]; rfl
theorem pin_3 {a b v : Int} (h : inB v 0 1000 = false) : pin a b v = false := by unfold pin; rw [h, Bool.and_false]
theorem pin_t {a b v : Int} (h : inB a 1 10 = true) (h2 : inB b 1 10 = true) (h3 : inB v 0 1000 = true) : pin a b v = true := by unfold pin; rw [h, h2, h3]; rfl


--# sPlainField_any
theorem sPlainField_any (x : Int) (y : Int) (n : Int) (w : World) :
 Calls Try.prog 26 #[.int .i64 x, .int .i64 y, .int .i64 n] w fun e w' => e = .returned (.tuple #[.agg (Fld.cells (plnF x y n)), .int .i64 (plnC x y n)]) ∧ Ext w w' := by
 refine calls_of_wp Try.func26 rfl ?_
 refine wp_frame (a' := ⟨#[.int .i64 x, .int .i64 y, .int .i64 n, undef, undef, undef, undef, undef, undef, undef, undef, undef, undef, undef, undef, undef, undef, undef, undef, undef, undef, undef, undef, undef, undef, undef, undef, undef, undef, undef, undef, undef, undef, undef, undef, undef, undef, undef, undef, undef, undef], []⟩) (by kernel_rfl) ?_
 refine wsr ?_
 refine wnew (Fld.cells Fld.zero) Try.zeroValue39 zero_impl_Field ?_
 intro g1 w1 B1 E1 hg_
 have lo_g1 := Nat.le_trans ((Ext.refl w)).size hg_
 refine wv (.int .i64 0) ?_
 refine wpList_nil (then_normal ?_)
 refine wp_seq ?_
 refine wsr ?_
 refine wv (.int .i64 x) ?_
 refine wcl (l00In_any x 1 10 _) ?_
 intro w2 E2
 refine wv (.bool (!(inB x 1 10))) ?_
 refine wv (.bool (!(inB x 1 10))) ?_
 have H1 := ((Ext.refl w).trans E1).trans E2
 refine split_bool (inB x 1 10) (fun h1 => ?_) (fun h1 => ?_)
 · skip
   refine wbl 13 false (bnT h1) ?_
   have h1d := inT h1
   refine wv (.int .i64 y) ?_
   refine wcl (l00In_any y 1 10 _) ?_
   intro w3 E3
   refine wv (.bool (!(inB y 1 10))) ?_
   refine wv (.bool (!(inB y 1 10))) ?_
   refine wv (.bool (!(inB y 1 10))) ?_
   have H2 := H1.trans E3
   refine split_bool (inB y 1 10) (fun h2 => ?_) (fun h2 => ?_)
   · skip
     refine wbl 18 false (bnT h2) ?_
     have h2d := inT h2
     refine wv (.int .i64 n) ?_
     refine wcl (l01Seeds_any n _) ?_
     intro w4 E4
     refine wv (.bool (!(inB n 0 1000))) ?_
     refine wv (.bool (!(inB n 0 1000))) ?_
     refine wpList_nil (then_normal ?_)
     have H3 := H2.trans E4
     refine wsplit (!(inB n 0 1000)) (fun h3 => ?_) (fun h3 => ?_)
     · skip
       replace h3 := nbT h3
       have h3d := inF h3
       refine wsr ?_
       refine wvv (.agg Try.zeroCells39) (.agg (Fld.cells Fld.zero)) (congrArg Value.agg zero_impl_Field) ?_
       replace B1 := ((B1.ext E2).ext E3).ext E4
       refine wput (Fld.cells Fld.zero) row_impl_Field B1 (by exact Fld.size_cells _) (by exact Fld.size_cells _) (by exact Fld.one_cells _) ?_
       intro w5 B1_ X1
       clear B1; have B1 := B1_; clear B1_
       refine wv (.int .i64 2) ?_
       refine wpList_nil (then_normal ?_)
       refine wp_ret ?_
       refine then_ret ?_
       have H4 := X1.ext w lo_g1 H3
       refine ret2 (.agg (Fld.cells (plnF x y n))) (.int .i64 (plnC x y n)) rfl ?_ ?_ rfl ?_
       · refine ⟨g1, 39, (Fld.cells Fld.zero), _, by kernel_rfl, B1, row_impl_Field, ?_, ?_⟩
         · exact Fld.size_cells _
         · show (.agg (Fld.cells (plnF x y n)) : Value) = (.agg (Fld.cells Fld.zero))
           refine congrArg Value.agg ?_
           first | rw [plnF_f (pin_1 (by assumption))] | rw [plnF_f (pin_2 (by assumption))] | rw [plnF_f (pin_3 (by assumption))] | rw [plnF_t (pin_t (by assumption) (by assumption) (by assumption)), show i = 100 by omega]
       · refine (resT (v := .int .i64 2) (by kernel_rfl)).trans ?_
         refine congrArg (Value.int _) ?_
         first | exact (plnC_f (pin_1 (by assumption))).symm | exact (plnC_f (pin_2 (by assumption))).symm | exact (plnC_f (pin_3 (by assumption))).symm | exact (plnC_t (pin_t (by assumption) (by assumption) (by assumption))).symm
       exact ⟨rfl, H4⟩
     · skip
       replace h3 := nbF h3
       have h3d := inT h3
       refine wp_skip ?_
       refine then_normal ?_
       refine wsr ?_
       refine wv (.int .i64 x) ?_
       refine wi8 x ?_
       refine wv (.int .i64 y) ?_
       refine wi8 y ?_
       refine wvv (.agg ((Try.zeroCells39.setIfInBounds 0 (.int .i8 x)).setIfInBounds 1 (.int .i8 y))) (.agg (Fld.cells (fldWH x y))) (build_wh _ _) ?_
       replace B1 := ((B1.ext E2).ext E3).ext E4
       refine wnew (Fld.cells Fld.zero) Try.zeroValue39 zero_impl_Field ?_
       intro g2 w6 B2 E5 hg_
       have q_g1_g2 := Nat.ne_of_lt (Nat.lt_of_lt_of_le B1.lt hg_)
       have lo_g2 := Nat.le_trans (H3).size hg_
       refine wput (Fld.cells (fldWH x y)) row_impl_Field B2 (by exact Fld.size_cells _) (by exact Fld.size_cells _) (by exact Fld.one_cells _) ?_
       intro w7 B2_ X2
       clear B2; have B2 := B2_; clear B2_
       refine wpList_nil (then_normal ?_)
       refine wp_seq ?_
       refine wsr ?_
       refine wv (.int .i64 0) ?_
       refine wpList_nil (then_normal ?_)
       refine wp_block ?_
       replace B1 := X2.blk (B1.ext E5) q_g1_g2
       have H5 := X2.ext w lo_g2 (H3.trans E5)
       refine wp_loop_k (fun m1 a wl1 => ∃ (i : Nat), m1 = 100 - i ∧ i ≤ 100 ∧ Ext w wl1 ∧ Blk wl1 g1 39 (Fld.cells Fld.zero) ∧ Blk wl1 g2 39 (Fld.cells (plC x y n i)) ∧ (∃ J1 : Nat → Value, a = ⟨#[.int .i64 x, .int .i64 y, .int .i64 n, undef, undef, undef, .pointer (some ⟨g1, 0, none⟩), .int .i64 0, .pointer (some ⟨g2, 0, none⟩), .int .i64 (i : Int), .int .i64 x, .bool (inB x 1 10), .bool (!(inB x 1 10)), .bool false, .int .i64 y, .bool (inB y 1 10), .bool (!(inB y 1 10)), .bool (!(inB y 1 10)), .bool false, .int .i64 n, .bool (inB n 0 1000), .bool (!(inB n 0 1000)), .bool (!(inB n 0 1000)), undef, .int .i64 x, .int .i8 x, .int .i64 y, .int .i8 y, .agg (Fld.cells (fldWH x y)), J1 29, J1 30, J1 31, J1 32, J1 33, J1 34, J1 35, J1 36, J1 37, J1 38, J1 39, undef], []⟩)) (100) ?_ ?_
       · refine ⟨0, rfl, ?_, H5, B1, ?_, exJ (by kernel_rfl)⟩
         · omega
         · rw [plC_0]; exact B2
       intro m1 a wl1 hI
       obtain ⟨i, rfl, hi_, HL1, B1, B2, J1, rfl⟩ := hI
       refine wp_seq ?_
       refine wsr ?_
       refine wv (.int .i64 (i : Int)) ?_
       refine wv (.bool (decide ((i : Int) < 100))) ?_
       refine wpList_nil (then_normal ?_)
       refine wsplit (decide ((i : Int) < 100)) (fun h4 => ?_) (fun h4 => ?_)
       · skip
         have h4d := dT h4
         refine wp_skip ?_
         refine then_normal ?_
         refine wp_seq ?_
         refine wp_block ?_
         refine wsr ?_
         refine wv (.int .i64 (i : Int)) ?_
         refine wcl (l01Is_any (plC x y n i) (plC_wf (by omega) (by omega) (by omega)) g2 _ (i : Int) _ B2) ?_
         intro w8 E6
         refine wpList_nil (then_normal ?_)
         have H6 := HL1.trans E6
         refine wsplit (isB (plC x y n i) (i : Int)) (fun h5 => ?_) (fun h5 => ?_)
         · skip
           have h5d := isB_true.1 h5
           refine wp_region_lit ?_
           refine wv (.int .i64 (i : Int)) ?_
           refine wv (.int .i64 n) ?_
           refine wi16 n ?_
           refine wv (.pointer (some ⟨g2, 102, none⟩)) ?_
           refine wixn g2 102 i .i64 arrt__100_int16 ?_
           replace B2 := B2.ext E6
           refine wst g2 (102 + i) (.int .i16 n) scal_int16 B2 (Fld.sets _ _ (by omega) _) (by rw [Fld.size_cells]; omega) ?_
           intro w9 B2_ X3
           clear B2; have B2 := B2_; clear B2_
           refine wpList_nil (block_normal (then_normal ?_))
           refine wp_region_lit ?_
           refine wv (.int .i64 (i : Int)) ?_
           refine wi64 ((i : Int) + 1) ?_
           refine wv (.int .i64 ((i : Int) + 1)) ?_
           refine wpList_nil (then_normal ?_)
           replace B1 := X3.blk (B1.ext E6) q_g1_g2
           have H7 := X3.ext w lo_g2 H6
           refine ⟨_, ?_, i + 1, rfl, ?_, H7, B1, ?_, exJ (by kernel_rfl)⟩
           · omega
           · omega
           · first | (rw [plC_1 (by omega) (by assumption)]; exact B2) | (rw [plC_2 (by omega) (by assumption)]; exact B2)
         · skip
           refine wp_skip ?_
           refine block_normal (then_normal ?_)
           refine wp_region_lit ?_
           refine wv (.int .i64 (i : Int)) ?_
           refine wi64 ((i : Int) + 1) ?_
           refine wv (.int .i64 ((i : Int) + 1)) ?_
           refine wpList_nil (then_normal ?_)
           replace B1 := B1.ext E6
           replace B2 := B2.ext E6
           refine ⟨_, ?_, i + 1, rfl, ?_, H6, B1, ?_, exJ (by kernel_rfl)⟩
           · omega
           · omega
           · first | (rw [plC_1 (by omega) (by assumption)]; exact B2) | (rw [plC_2 (by omega) (by assumption)]; exact B2)
       · skip
         have h4d := dF h4
         refine wp_exit ?_
         refine then_exit ?_
         refine then_exit ?_
         refine block_exit ?_
         refine then_normal ?_
         refine wsr ?_
         refine wrow row_impl_Field B2 (by exact Fld.size_cells _) ?_
         refine wput (Fld.cells (plC x y n i)) row_impl_Field B1 (by exact Fld.size_cells _) (by exact Fld.size_cells _) (by exact Fld.one_cells _) ?_
         intro w10 B1_ X4
         clear B1; have B1 := B1_; clear B1_
         refine wv (.int .i64 0) ?_
         refine wpList_nil (then_normal ?_)
         refine wp_ret ?_
         have H8 := X4.ext w lo_g1 HL1
         refine ret2 (.agg (Fld.cells (plnF x y n))) (.int .i64 (plnC x y n)) rfl ?_ ?_ rfl ?_
         · refine ⟨g1, 39, (Fld.cells (plC x y n i)), _, by kernel_rfl, B1, row_impl_Field, ?_, ?_⟩
           · exact Fld.size_cells _
           · show (.agg (Fld.cells (plnF x y n)) : Value) = (.agg (Fld.cells (plC x y n i)))
             refine congrArg Value.agg ?_
             first | rw [plnF_f (pin_1 (by assumption))] | rw [plnF_f (pin_2 (by assumption))] | rw [plnF_f (pin_3 (by assumption))] | rw [plnF_t (pin_t (by assumption) (by assumption) (by assumption)), show i = 100 by omega]
         · refine (resT (v := .int .i64 0) (by kernel_rfl)).trans ?_
           refine congrArg (Value.int _) ?_
           first | exact (plnC_f (pin_1 (by assumption))).symm | exact (plnC_f (pin_2 (by assumption))).symm | exact (plnC_f (pin_3 (by assumption))).symm | exact (plnC_t (pin_t (by assumption) (by assumption) (by assumption))).symm
         exact ⟨rfl, H8⟩
   · skip
     refine wbl 18 true (bnF h2) ?_
     have h2d := inF h2
     refine wsk ?_
     refine wsk ?_
     refine wsk ?_
     refine wv (.bool true) ?_
     refine wpList_nil (then_normal ?_)
     refine wct ?_
     refine wsr ?_
     refine wvv (.agg Try.zeroCells39) (.agg (Fld.cells Fld.zero)) (congrArg Value.agg zero_impl_Field) ?_
     replace B1 := (B1.ext E2).ext E3
     refine wput (Fld.cells Fld.zero) row_impl_Field B1 (by exact Fld.size_cells _) (by exact Fld.size_cells _) (by exact Fld.one_cells _) ?_
     intro w11 B1_ X5
     clear B1; have B1 := B1_; clear B1_
     refine wv (.int .i64 2) ?_
     refine wpList_nil (then_normal ?_)
     refine wp_ret ?_
     refine then_ret ?_
     have H9 := X5.ext w lo_g1 H2
     refine ret2 (.agg (Fld.cells (plnF x y n))) (.int .i64 (plnC x y n)) rfl ?_ ?_ rfl ?_
     · refine ⟨g1, 39, (Fld.cells Fld.zero), _, by kernel_rfl, B1, row_impl_Field, ?_, ?_⟩
       · exact Fld.size_cells _
       · show (.agg (Fld.cells (plnF x y n)) : Value) = (.agg (Fld.cells Fld.zero))
         refine congrArg Value.agg ?_
         first | rw [plnF_f (pin_1 (by assumption))] | rw [plnF_f (pin_2 (by assumption))] | rw [plnF_f (pin_3 (by assumption))] | rw [plnF_t (pin_t (by assumption) (by assumption) (by assumption)), show i = 100 by omega]
     · refine (resT (v := .int .i64 2) (by kernel_rfl)).trans ?_
       refine congrArg (Value.int _) ?_
       first | exact (plnC_f (pin_1 (by assumption))).symm | exact (plnC_f (pin_2 (by assumption))).symm | exact (plnC_f (pin_3 (by assumption))).symm | exact (plnC_t (pin_t (by assumption) (by assumption) (by assumption))).symm
     exact ⟨rfl, H9⟩
 · skip
   refine wbl 13 true (bnF h1) ?_
   have h1d := inF h1
   refine wsk ?_
   refine wsk ?_
   refine wsk ?_
   refine wv (.bool true) ?_
   refine wv (.bool true) ?_
   refine wsk ?_
   refine wsk ?_
   refine wsk ?_
   refine wv (.bool true) ?_
   refine wpList_nil (then_normal ?_)
   refine wct ?_
   refine wsr ?_
   refine wvv (.agg Try.zeroCells39) (.agg (Fld.cells Fld.zero)) (congrArg Value.agg zero_impl_Field) ?_
   replace B1 := B1.ext E2
   refine wput (Fld.cells Fld.zero) row_impl_Field B1 (by exact Fld.size_cells _) (by exact Fld.size_cells _) (by exact Fld.one_cells _) ?_
   intro w12 B1_ X6
   clear B1; have B1 := B1_; clear B1_
   refine wv (.int .i64 2) ?_
   refine wpList_nil (then_normal ?_)
   refine wp_ret ?_
   refine then_ret ?_
   have H10 := X6.ext w lo_g1 H1
   refine ret2 (.agg (Fld.cells (plnF x y n))) (.int .i64 (plnC x y n)) rfl ?_ ?_ rfl ?_
   · refine ⟨g1, 39, (Fld.cells Fld.zero), _, by kernel_rfl, B1, row_impl_Field, ?_, ?_⟩
     · exact Fld.size_cells _
     · show (.agg (Fld.cells (plnF x y n)) : Value) = (.agg (Fld.cells Fld.zero))
       refine congrArg Value.agg ?_
       first | rw [plnF_f (pin_1 (by assumption))] | rw [plnF_f (pin_2 (by assumption))] | rw [plnF_f (pin_3 (by assumption))] | rw [plnF_t (pin_t (by assumption) (by assumption) (by assumption)), show i = 100 by omega]
   · refine (resT (v := .int .i64 2) (by kernel_rfl)).trans ?_
     refine congrArg (Value.int _) ?_
     first | exact (plnC_f (pin_1 (by assumption))).symm | exact (plnC_f (pin_2 (by assumption))).symm | exact (plnC_f (pin_3 (by assumption))).symm | exact (plnC_t (pin_t (by assumption) (by assumption) (by assumption))).symm
   exact ⟨rfl, H10⟩


--# iPlainField_any
theorem iPlainField_any (x : Int) (y : Int) (n : Int) (w : World) :
 Calls Try.prog 27 #[.int .i64 x, .int .i64 y, .int .i64 n] w fun e w' => e = .returned (.tuple #[.agg (Fld.cells (plnF x y n)), .int .i64 (plnC x y n)]) ∧ Ext w w' := by
 refine calls_of_wp Try.func27 rfl ?_
 refine wp_frame (a' := ⟨#[.int .i64 x, .int .i64 y, .int .i64 n, undef, undef, undef, undef, undef, undef, undef, undef, undef, undef, undef, undef, undef, undef, undef, undef, undef, undef, undef, undef, undef, undef, undef, undef, undef, undef, undef, undef, undef, undef, undef, undef, undef, undef, undef, undef, undef, undef, undef, undef], []⟩) (by kernel_rfl) ?_
 refine wsr ?_
 refine wnew (Fld.cells Fld.zero) Try.zeroValue39 zero_impl_Field ?_
 intro g1 w1 B1 E1 hg_
 have lo_g1 := Nat.le_trans ((Ext.refl w)).size hg_
 refine wv (.int .i64 0) ?_
 refine wpList_nil (then_normal ?_)
 refine wp_seq ?_
 refine wsr ?_
 refine wv (.int .i64 x) ?_
 refine wcl (within_any x 1 10 _) ?_
 intro w2 E2
 refine wv (.bool (!(inB x 1 10))) ?_
 refine wv (.bool (!(inB x 1 10))) ?_
 have H1 := ((Ext.refl w).trans E1).trans E2
 refine split_bool (inB x 1 10) (fun h1 => ?_) (fun h1 => ?_)
 · skip
   refine wbl 14 false (bnT h1) ?_
   have h1d := inT h1
   refine wv (.int .i64 y) ?_
   refine wcl (within_any y 1 10 _) ?_
   intro w3 E3
   refine wv (.bool (!(inB y 1 10))) ?_
   refine wv (.bool (!(inB y 1 10))) ?_
   refine wv (.bool (!(inB y 1 10))) ?_
   have H2 := H1.trans E3
   refine split_bool (inB y 1 10) (fun h2 => ?_) (fun h2 => ?_)
   · skip
     refine wbl 19 false (bnT h2) ?_
     have h2d := inT h2
     refine wv (.int .i64 n) ?_
     refine wcl (within_any n 0 1000 _) ?_
     intro w4 E4
     refine wv (.bool (!(inB n 0 1000))) ?_
     refine wv (.bool (!(inB n 0 1000))) ?_
     refine wpList_nil (then_normal ?_)
     have H3 := H2.trans E4
     refine wsplit (!(inB n 0 1000)) (fun h3 => ?_) (fun h3 => ?_)
     · skip
       replace h3 := nbT h3
       have h3d := inF h3
       refine wsr ?_
       refine wvv (.agg Try.zeroCells39) (.agg (Fld.cells Fld.zero)) (congrArg Value.agg zero_impl_Field) ?_
       replace B1 := ((B1.ext E2).ext E3).ext E4
       refine wput (Fld.cells Fld.zero) row_impl_Field B1 (by exact Fld.size_cells _) (by exact Fld.size_cells _) (by exact Fld.one_cells _) ?_
       intro w5 B1_ X1
       clear B1; have B1 := B1_; clear B1_
       refine wv (.int .i64 2) ?_
       refine wpList_nil (then_normal ?_)
       refine wp_ret ?_
       refine then_ret ?_
       have H4 := X1.ext w lo_g1 H3
       refine ret2 (.agg (Fld.cells (plnF x y n))) (.int .i64 (plnC x y n)) rfl ?_ ?_ rfl ?_
       · refine ⟨g1, 39, (Fld.cells Fld.zero), _, by kernel_rfl, B1, row_impl_Field, ?_, ?_⟩
         · exact Fld.size_cells _
         · show (.agg (Fld.cells (plnF x y n)) : Value) = (.agg (Fld.cells Fld.zero))
           refine congrArg Value.agg ?_
           first | rw [plnF_f (pin_1 (by assumption))] | rw [plnF_f (pin_2 (by assumption))] | rw [plnF_f (pin_3 (by assumption))] | rw [plnF_t (pin_t (by assumption) (by assumption) (by assumption)), plT_end (by omega)]
       · refine (resT (v := .int .i64 2) (by kernel_rfl)).trans ?_
         refine congrArg (Value.int _) ?_
         first | exact (plnC_f (pin_1 (by assumption))).symm | exact (plnC_f (pin_2 (by assumption))).symm | exact (plnC_f (pin_3 (by assumption))).symm | exact (plnC_t (pin_t (by assumption) (by assumption) (by assumption))).symm
       exact ⟨rfl, H4⟩
     · skip
       replace h3 := nbF h3
       have h3d := inT h3
       refine wp_skip ?_
       refine then_normal ?_
       refine wsr ?_
       refine wv (.int .i64 x) ?_
       refine wi8 x ?_
       refine wv (.int .i64 y) ?_
       refine wi8 y ?_
       refine wvv (.agg ((Try.zeroCells39.setIfInBounds 0 (.int .i8 x)).setIfInBounds 1 (.int .i8 y))) (.agg (Fld.cells (fldWH x y))) (build_wh _ _) ?_
       replace B1 := ((B1.ext E2).ext E3).ext E4
       refine wnew (Fld.cells Fld.zero) Try.zeroValue39 zero_impl_Field ?_
       intro g2 w6 B2 E5 hg_
       have q_g1_g2 := Nat.ne_of_lt (Nat.lt_of_lt_of_le B1.lt hg_)
       have lo_g2 := Nat.le_trans (H3).size hg_
       refine wput (Fld.cells (fldWH x y)) row_impl_Field B2 (by exact Fld.size_cells _) (by exact Fld.size_cells _) (by exact Fld.one_cells _) ?_
       intro w7 B2_ X2
       clear B2; have B2 := B2_; clear B2_
       refine wpList_nil (then_normal ?_)
       refine wp_seq ?_
       refine wsr ?_
       replace B1 := X2.blk (B1.ext E5) q_g1_g2
       have H5 := X2.ext w lo_g2 (H3.trans E5)
       refine wcli (cells_any (fldWH x y) (wh_wf (by omega) (by omega)) g2 _ _ B2) ?_
       intro g3 cap1 cs1 w8 B3 S1 E6 hg_
       have q_g1_g3 := Nat.ne_of_lt (Nat.lt_of_lt_of_le B1.lt hg_)
       have q_g2_g3 := Nat.ne_of_lt (Nat.lt_of_lt_of_le B2.lt hg_)
       have lo_g3 := Nat.le_trans (H5).size hg_
       have cl1 := cellsL_length (fldWH x y)
       refine wv (.int .i64 ((cellsL (fldWH x y)).length : Int)) ?_
       refine wv (.int .i64 0) ?_
       refine wpList_nil (then_normal ?_)
       refine wp_block ?_
       replace B1 := B1.ext E6
       replace B2 := B2.ext E6
       have H6 := H5.trans E6
       refine wp_loop_k (fun m1 a wl1 => ∃ (j : Nat), m1 = (cellsL (fldWH x y)).length - j ∧ j ≤ (cellsL (fldWH x y)).length ∧ Ext w wl1 ∧ Blk wl1 g1 39 (Fld.cells Fld.zero) ∧ Blk wl1 g2 39 (Fld.cells (plT x y n j)) ∧ Blk wl1 g3 2 cs1 ∧ (∃ J1 : Nat → Value, a = ⟨#[.int .i64 x, .int .i64 y, .int .i64 n, undef, undef, undef, .pointer (some ⟨g1, 0, none⟩), .int .i64 0, .pointer (some ⟨g2, 0, none⟩), undef, J1 10, .int .i64 x, .bool (inB x 1 10), .bool (!(inB x 1 10)), .bool false, .int .i64 y, .bool (inB y 1 10), .bool (!(inB y 1 10)), .bool (!(inB y 1 10)), .bool false, .int .i64 n, .bool (inB n 0 1000), .bool (!(inB n 0 1000)), .bool (!(inB n 0 1000)), undef, .int .i64 x, .int .i8 x, .int .i64 y, .int .i8 y, .agg (Fld.cells (fldWH x y)), .slice (some ⟨g3, 0, none⟩) ((cellsL (fldWH x y)).length) cap1, .int .i64 ((cellsL (fldWH x y)).length : Int), .int .i64 (j : Int), J1 33, J1 34, J1 35, J1 36, J1 37, J1 38, J1 39, J1 40, J1 41, undef], []⟩)) ((cellsL (fldWH x y)).length) ?_ ?_
       · refine ⟨0, rfl, ?_, H6, B1, ?_, B3, exJ (by kernel_rfl)⟩
         · omega
         · rw [plT_0]; exact B2
       intro m1 a wl1 hI
       obtain ⟨j, rfl, hi_, HL1, B1, B2, B3, J1, rfl⟩ := hI
       refine wsr ?_
       refine wv (.bool (decide ((j : Int) < ((cellsL (fldWH x y)).length : Int)))) ?_
       refine wpList_nil (then_normal ?_)
       refine wp_seq ?_
       refine wsplit (decide ((j : Int) < ((cellsL (fldWH x y)).length : Int))) (fun h4 => ?_) (fun h4 => ?_)
       · skip
         have h4d := dT h4
         refine wp_skip ?_
         refine then_normal ?_
         refine wp_seq ?_
         refine wp_block ?_
         refine wsr ?_
         refine wsix1 g3 0 ((cellsL (fldWH x y)).length) cap1 j .i64 slit__int64 ?_
         have ce1 := cellsL_in (F := (fldWH x y)) (j := j) (by omega)
         have ci1 := cellsL_is (F := (fldWH x y)) (j := j) (by omega)
         refine wld g3 (0 + j) scal_int64 (B3.get (SlI.get S1 (by omega))) ?_
         refine wv (.int .i64 (atI (cellsL (fldWH x y)) j)) ?_
         refine wpList_nil (then_normal ?_)
         refine wp_region_lit ?_
         refine wv (.int .i64 (atI (cellsL (fldWH x y)) j)) ?_
         refine wv (.int .i64 n) ?_
         refine wi16 n ?_
         refine wv (.pointer (some ⟨g2, 102, none⟩)) ?_
         refine wix g2 102 (atI (cellsL (fldWH x y)) j) .i64 arrt__100_int16 ?_
         refine wst g2 (102 + (atI (cellsL (fldWH x y)) j).toNat) (.int .i16 n) scal_int16 B2 (Fld.sets _ _ (by omega) _) (by rw [Fld.size_cells]; omega) ?_
         intro w9 B2_ X3
         clear B2; have B2 := B2_; clear B2_
         refine wpList_nil (block_normal (then_normal ?_))
         refine wp_region_lit ?_
         refine wi64 ((j : Int) + 1) ?_
         refine wv (.int .i64 ((j : Int) + 1)) ?_
         refine wpList_nil (then_normal ?_)
         replace B1 := X3.blk B1 q_g1_g2
         replace B3 := X3.blk B3 (Ne.symm q_g2_g3)
         have H7 := X3.ext w lo_g2 HL1
         refine ⟨_, ?_, j + 1, rfl, ?_, H7, B1, ?_, B3, exJ (by kernel_rfl)⟩
         · omega
         · omega
         · rw [plT_1 (by omega)]; exact B2
       · skip
         have h4d := dF h4
         refine wp_exit ?_
         refine then_exit ?_
         refine then_exit ?_
         refine block_exit ?_
         refine then_normal ?_
         refine wsr ?_
         refine wrow row_impl_Field B2 (by exact Fld.size_cells _) ?_
         refine wput (Fld.cells (plT x y n j)) row_impl_Field B1 (by exact Fld.size_cells _) (by exact Fld.size_cells _) (by exact Fld.one_cells _) ?_
         intro w10 B1_ X4
         clear B1; have B1 := B1_; clear B1_
         refine wv (.int .i64 0) ?_
         refine wpList_nil (then_normal ?_)
         refine wp_ret ?_
         have H8 := X4.ext w lo_g1 HL1
         refine ret2 (.agg (Fld.cells (plnF x y n))) (.int .i64 (plnC x y n)) rfl ?_ ?_ rfl ?_
         · refine ⟨g1, 39, (Fld.cells (plT x y n j)), _, by kernel_rfl, B1, row_impl_Field, ?_, ?_⟩
           · exact Fld.size_cells _
           · show (.agg (Fld.cells (plnF x y n)) : Value) = (.agg (Fld.cells (plT x y n j)))
             refine congrArg Value.agg ?_
             first | rw [plnF_f (pin_1 (by assumption))] | rw [plnF_f (pin_2 (by assumption))] | rw [plnF_f (pin_3 (by assumption))] | rw [plnF_t (pin_t (by assumption) (by assumption) (by assumption)), plT_end (by omega)]
         · refine (resT (v := .int .i64 0) (by kernel_rfl)).trans ?_
           refine congrArg (Value.int _) ?_
           first | exact (plnC_f (pin_1 (by assumption))).symm | exact (plnC_f (pin_2 (by assumption))).symm | exact (plnC_f (pin_3 (by assumption))).symm | exact (plnC_t (pin_t (by assumption) (by assumption) (by assumption))).symm
         exact ⟨rfl, H8⟩
   · skip
     refine wbl 19 true (bnF h2) ?_
     have h2d := inF h2
     refine wsk ?_
     refine wsk ?_
     refine wsk ?_
     refine wv (.bool true) ?_
     refine wpList_nil (then_normal ?_)
     refine wct ?_
     refine wsr ?_
     refine wvv (.agg Try.zeroCells39) (.agg (Fld.cells Fld.zero)) (congrArg Value.agg zero_impl_Field) ?_
     replace B1 := (B1.ext E2).ext E3
     refine wput (Fld.cells Fld.zero) row_impl_Field B1 (by exact Fld.size_cells _) (by exact Fld.size_cells _) (by exact Fld.one_cells _) ?_
     intro w11 B1_ X5
     clear B1; have B1 := B1_; clear B1_
     refine wv (.int .i64 2) ?_
     refine wpList_nil (then_normal ?_)
     refine wp_ret ?_
     refine then_ret ?_
     have H9 := X5.ext w lo_g1 H2
     refine ret2 (.agg (Fld.cells (plnF x y n))) (.int .i64 (plnC x y n)) rfl ?_ ?_ rfl ?_
     · refine ⟨g1, 39, (Fld.cells Fld.zero), _, by kernel_rfl, B1, row_impl_Field, ?_, ?_⟩
       · exact Fld.size_cells _
       · show (.agg (Fld.cells (plnF x y n)) : Value) = (.agg (Fld.cells Fld.zero))
         refine congrArg Value.agg ?_
         first | rw [plnF_f (pin_1 (by assumption))] | rw [plnF_f (pin_2 (by assumption))] | rw [plnF_f (pin_3 (by assumption))] | rw [plnF_t (pin_t (by assumption) (by assumption) (by assumption)), plT_end (by omega)]
     · refine (resT (v := .int .i64 2) (by kernel_rfl)).trans ?_
       refine congrArg (Value.int _) ?_
       first | exact (plnC_f (pin_1 (by assumption))).symm | exact (plnC_f (pin_2 (by assumption))).symm | exact (plnC_f (pin_3 (by assumption))).symm | exact (plnC_t (pin_t (by assumption) (by assumption) (by assumption))).symm
     exact ⟨rfl, H9⟩
 · skip
   refine wbl 14 true (bnF h1) ?_
   have h1d := inF h1
   refine wsk ?_
   refine wsk ?_
   refine wsk ?_
   refine wv (.bool true) ?_
   refine wv (.bool true) ?_
   refine wsk ?_
   refine wsk ?_
   refine wsk ?_
   refine wv (.bool true) ?_
   refine wpList_nil (then_normal ?_)
   refine wct ?_
   refine wsr ?_
   refine wvv (.agg Try.zeroCells39) (.agg (Fld.cells Fld.zero)) (congrArg Value.agg zero_impl_Field) ?_
   replace B1 := B1.ext E2
   refine wput (Fld.cells Fld.zero) row_impl_Field B1 (by exact Fld.size_cells _) (by exact Fld.size_cells _) (by exact Fld.one_cells _) ?_
   intro w12 B1_ X6
   clear B1; have B1 := B1_; clear B1_
   refine wv (.int .i64 2) ?_
   refine wpList_nil (then_normal ?_)
   refine wp_ret ?_
   refine then_ret ?_
   have H10 := X6.ext w lo_g1 H1
   refine ret2 (.agg (Fld.cells (plnF x y n))) (.int .i64 (plnC x y n)) rfl ?_ ?_ rfl ?_
   · refine ⟨g1, 39, (Fld.cells Fld.zero), _, by kernel_rfl, B1, row_impl_Field, ?_, ?_⟩
     · exact Fld.size_cells _
     · show (.agg (Fld.cells (plnF x y n)) : Value) = (.agg (Fld.cells Fld.zero))
       refine congrArg Value.agg ?_
       first | rw [plnF_f (pin_1 (by assumption))] | rw [plnF_f (pin_2 (by assumption))] | rw [plnF_f (pin_3 (by assumption))] | rw [plnF_t (pin_t (by assumption) (by assumption) (by assumption)), plT_end (by omega)]
   · refine (resT (v := .int .i64 2) (by kernel_rfl)).trans ?_
     refine congrArg (Value.int _) ?_
     first | exact (plnC_f (pin_1 (by assumption))).symm | exact (plnC_f (pin_2 (by assumption))).symm | exact (plnC_f (pin_3 (by assumption))).symm | exact (plnC_t (pin_t (by assumption) (by assumption) (by assumption))).symm
   exact ⟨rfl, H10⟩


--# eqInt64S_nil
theorem eqInt64S_nil (b cap : Nat) (w : World) :
 Calls Try.prog 20 #[.slice none 0 0, .slice (some ⟨b, 0, none⟩) 0 cap] w fun e w' => e = .returned (.bool true) ∧ Ext w w' := by
 refine calls_of_wp Try.func20 rfl ?_
 refine wp_frame (a' := ⟨#[.slice none 0 0, .slice (some ⟨b, 0, none⟩) 0 cap, undef, undef, undef, undef, undef, undef, undef, undef, undef, undef, undef, undef, undef, undef, undef, undef, undef, undef, undef, undef, undef, undef, undef, undef], []⟩) (by kernel_rfl) ?_
 refine wsr ?_
 refine wv (.bool false) ?_
 refine wpList_nil (then_normal ?_)
 refine wp_seq ?_
 refine wsr ?_
 refine wv (.slice none 0 0) ?_
 refine wv (.int .i64 0) ?_
 refine wv (.slice (some ⟨b, 0, none⟩) 0 cap) ?_
 refine wv (.int .i64 0) ?_
 refine wvv (.bool (0 != 0)) (.bool false) (by simp) ?_
 refine wpList_nil (then_normal ?_)
 refine wcf ?_
 refine wp_skip ?_
 refine then_normal ?_
 refine wp_seq ?_
 refine wsr ?_
 refine wv (.int .i64 0) ?_
 refine wpList_nil (then_normal ?_)
 refine wp_block ?_
 refine wp_loop_rounds 1 ?_
 refine rounds_s ?_
 refine wp_seq ?_
 refine wsr ?_
 refine wv (.int .i64 0) ?_
 refine wv (.slice none 0 0) ?_
 refine wv (.int .i64 0) ?_
 refine wv (.bool false) ?_
 refine wpList_nil (then_normal ?_)
 refine wcf ?_
 refine wp_exit ?_
 refine then_exit ?_
 refine then_exit ?_
 refine block_exit ?_
 refine then_normal ?_
 refine wsr ?_
 refine wv (.bool true) ?_
 refine wpList_nil (then_normal ?_)
 refine wp_ret ?_
 refine ret1 (.bool true) rfl ?_ rfl ?_
 · exact resT (by kernel_rfl)
 exact ⟨rfl, (Ext.refl w)⟩


--# markInt64S_nil
theorem markInt64S_nil (k : Int) (w : World) :
 Calls Try.prog 21 #[.slice none 0 0, .int .i64 k] w fun e w' => e = .returned (.int .i64 k) ∧ Ext w w' := by
 refine calls_of_wp Try.func21 rfl ?_
 refine wp_frame (a' := ⟨#[.slice none 0 0, .int .i64 k, undef, undef, undef, undef, undef, undef, undef, undef, undef, undef, undef, undef, undef, undef, undef, undef, undef], []⟩) (by kernel_rfl) ?_
 refine wsr ?_
 refine wv (.int .i64 0) ?_
 refine wpList_nil (then_normal ?_)
 refine wp_seq ?_
 refine wsr ?_
 refine wv (.int .i64 0) ?_
 refine wpList_nil (then_normal ?_)
 refine wp_block ?_
 refine wp_loop_rounds 1 ?_
 refine rounds_s ?_
 refine wp_seq ?_
 refine wsr ?_
 refine wv (.int .i64 0) ?_
 refine wv (.slice none 0 0) ?_
 refine wv (.int .i64 0) ?_
 refine wv (.bool false) ?_
 refine wpList_nil (then_normal ?_)
 refine wcf ?_
 refine wp_exit ?_
 refine then_exit ?_
 refine then_exit ?_
 refine block_exit ?_
 refine then_normal ?_
 refine wsr ?_
 refine wv (.int .i64 k) ?_
 refine wv (.int .i64 k) ?_
 refine wpList_nil (then_normal ?_)
 refine wp_ret ?_
 refine ret1 (.int .i64 k) rfl ?_ rfl ?_
 · exact resT (by kernel_rfl)
 exact ⟨rfl, (Ext.refl w)⟩


--# heldInt64S_nil
theorem heldInt64S_nil (k : Int) (w : World) :
 Calls Try.prog 22 #[.slice none 0 0, .int .i64 k] w fun e w' => e = .returned (.int .i64 k) ∧ Ext w w' := by
 refine calls_of_wp Try.func22 rfl ?_
 refine wp_frame (a' := ⟨#[.slice none 0 0, .int .i64 k, undef, undef, undef, undef, undef, undef, undef, undef, undef, undef, undef, undef, undef, undef, undef, undef, undef, undef, undef], []⟩) (by kernel_rfl) ?_
 refine wsr ?_
 refine wv (.int .i64 0) ?_
 refine wpList_nil (then_normal ?_)
 refine wp_seq ?_
 refine wsr ?_
 refine wv (.int .i64 0) ?_
 refine wpList_nil (then_normal ?_)
 refine wp_block ?_
 refine wp_loop_rounds 1 ?_
 refine rounds_s ?_
 refine wp_seq ?_
 refine wsr ?_
 refine wv (.int .i64 0) ?_
 refine wv (.slice none 0 0) ?_
 refine wv (.int .i64 0) ?_
 refine wv (.bool false) ?_
 refine wpList_nil (then_normal ?_)
 refine wcf ?_
 refine wp_exit ?_
 refine then_exit ?_
 refine then_exit ?_
 refine block_exit ?_
 refine then_normal ?_
 refine wsr ?_
 refine wv (.int .i64 k) ?_
 refine wv (.int .i64 k) ?_
 refine wpList_nil (then_normal ?_)
 refine wp_ret ?_
 refine ret1 (.int .i64 k) rfl ?_ rfl ?_
 · exact resT (by kernel_rfl)
 exact ⟨rfl, (Ext.refl w)⟩


