/-
  Contracts: more functions. No conditions.
-/
import Derived.Test.YteiplklloajjaaaGreatDoorTy
import Derived.Test.YteiplklloajjaaaGreatDoorSl
import Derived.Test.YteiplklloajjaaaGreatDoorMth
import Derived.Test.YteiplklloajjaaaGreatDoorFn5
import Derived.Test.YteiplklloajjaaaGreatDoorMth2
namespace Go.Proofs.YteiplklloajjaaaGreatDoor
open Go.RowKit
set_option linter.unusedSimpArgs false
set_option linter.unusedVariables false
set_option maxHeartbeats 4000000
set_option maxRecDepth 100000
attribute [local irreducible] wpList Code.wp
--# pin
theorem pin_1 {a b v : Int} (h : inB a 1 10 = false) : pin a b v = false := by unfold pin; rw [h]; rfl
theorem pin_2 {a b v : Int} (h : inB b 1 10 = false) : pin a b v = false := by unfold pin; rw [h, Bool.and_false]; rfl
theorem pin_3 {a b v : Int} (h : inB v 0 1000 = false) : pin a b v = false := by unfold pin; rw [h, Bool.and_false]
theorem pin_t {a b v : Int} (h : inB a 1 10 = true) (h2 : inB b 1 10 = true) (h3 : inB v 0 1000 = true) : pin a b v = true := by unfold pin; rw [h, h2, h3]; rfl


--# iPlainField_any
theorem iPlainField_any (x : Int) (y : Int) (n : Int) (w : World) :
 Calls Tryz.prog 25 #[.int .i64 x, .int .i64 y, .int .i64 n] w fun e w' => e = .returned (.tuple #[.agg (Fld.cells (plnF x y n)), .int .i64 (plnC x y n)]) ∧ Ext w w' := by
 refine calls_of_wp Tryz.func25 rfl ?_
 refine wp_frame (a' := ⟨#[.int .i64 x, .int .i64 y, .int .i64 n, undef, undef, undef, undef, undef, undef, undef, undef, undef, undef, undef, undef, undef, undef, undef, undef, undef, undef, undef, undef, undef, undef, undef, undef, undef, undef, undef, undef, undef, undef, undef, undef, undef, undef, undef, undef, undef, undef, undef, undef], []⟩) (by kernel_rfl) ?_
 refine wsr ?_
 refine wnew (Fld.cells Fld.zero) Tryz.zeroValue29 zero_impl_Field ?_
 intro g1 w1 B1 E1 hg_
 have lo_g1 := Nat.le_trans ((Ext.refl w)).size hg_
 refine wv (.int .i64 0) ?_
 refine wpList_nil (then_normal ?_)
 refine wp_seq ?_
 refine wsr ?_
 refine wv (.int .i64 x) ?_
 refine wcl (within_any x 1 10 _) ?_
 intro w2 E2
 refine wv (.bool (!(inB x 1 10))) ?_
 refine wv (.bool (!(inB x 1 10))) ?_
 have H1 := ((Ext.refl w).trans E1).trans E2
 refine split_bool (inB x 1 10) (fun h1 => ?_) (fun h1 => ?_)
 · skip
   refine wbl 14 false (bnT h1) ?_
   have h1d := inT h1
   refine wv (.int .i64 y) ?_
   refine wcl (within_any y 1 10 _) ?_
   intro w3 E3
   refine wv (.bool (!(inB y 1 10))) ?_
   refine wv (.bool (!(inB y 1 10))) ?_
   refine wv (.bool (!(inB y 1 10))) ?_
   have H2 := H1.trans E3
   refine split_bool (inB y 1 10) (fun h2 => ?_) (fun h2 => ?_)
   · skip
     refine wbl 19 false (bnT h2) ?_
     have h2d := inT h2
     refine wv (.int .i64 n) ?_
     refine wcl (within_any n 0 1000 _) ?_
     intro w4 E4
     refine wv (.bool (!(inB n 0 1000))) ?_
     refine wv (.bool (!(inB n 0 1000))) ?_
     refine wpList_nil (then_normal ?_)
     have H3 := H2.trans E4
     refine wsplit (!(inB n 0 1000)) (fun h3 => ?_) (fun h3 => ?_)
     · skip
       replace h3 := nbT h3
       have h3d := inF h3
       refine wsr ?_
       refine wvv (.agg Tryz.zeroCells29) (.agg (Fld.cells Fld.zero)) (congrArg Value.agg zero_impl_Field) ?_
       replace B1 := ((B1.ext E2).ext E3).ext E4
       refine wput (Fld.cells Fld.zero) row_impl_Field B1 (by exact Fld.size_cells _) (by exact Fld.size_cells _) (by exact Fld.one_cells _) ?_
       intro w5 B1_ X1
       clear B1; have B1 := B1_; clear B1_
       refine wv (.int .i64 2) ?_
       refine wpList_nil (then_normal ?_)
       refine wp_ret ?_
       refine then_ret ?_
       have H4 := X1.ext w lo_g1 H3
       refine ret2 (.agg (Fld.cells (plnF x y n))) (.int .i64 (plnC x y n)) rfl ?_ ?_ rfl ?_
       · refine ⟨g1, 29, (Fld.cells Fld.zero), _, by kernel_rfl, B1, row_impl_Field, ?_, ?_⟩
         · exact Fld.size_cells _
         · show (.agg (Fld.cells (plnF x y n)) : Value) = (.agg (Fld.cells Fld.zero))
           refine congrArg Value.agg ?_
           first | rw [plnF_f (pin_1 (by assumption))] | rw [plnF_f (pin_2 (by assumption))] | rw [plnF_f (pin_3 (by assumption))] | rw [plnF_t (pin_t (by assumption) (by assumption) (by assumption)), plT_end (by omega)]
       · refine (resT (v := .int .i64 2) (by kernel_rfl)).trans ?_
         refine congrArg (Value.int _) ?_
         first | exact (plnC_f (pin_1 (by assumption))).symm | exact (plnC_f (pin_2 (by assumption))).symm | exact (plnC_f (pin_3 (by assumption))).symm | exact (plnC_t (pin_t (by assumption) (by assumption) (by assumption))).symm
       exact ⟨rfl, H4⟩
     · skip
       replace h3 := nbF h3
       have h3d := inT h3
       refine wp_skip ?_
       refine then_normal ?_
       refine wsr ?_
       refine wv (.int .i64 x) ?_
       refine wi8 x ?_
       refine wv (.int .i64 y) ?_
       refine wi8 y ?_
       refine wvv (.agg ((Tryz.zeroCells29.setIfInBounds 0 (.int .i8 x)).setIfInBounds 1 (.int .i8 y))) (.agg (Fld.cells (fldWH x y))) (build_wh _ _) ?_
       replace B1 := ((B1.ext E2).ext E3).ext E4
       refine wnew (Fld.cells Fld.zero) Tryz.zeroValue29 zero_impl_Field ?_
       intro g2 w6 B2 E5 hg_
       have q_g1_g2 := Nat.ne_of_lt (Nat.lt_of_lt_of_le B1.lt hg_)
       have lo_g2 := Nat.le_trans (H3).size hg_
       refine wput (Fld.cells (fldWH x y)) row_impl_Field B2 (by exact Fld.size_cells _) (by exact Fld.size_cells _) (by exact Fld.one_cells _) ?_
       intro w7 B2_ X2
       clear B2; have B2 := B2_; clear B2_
       refine wpList_nil (then_normal ?_)
       refine wp_seq ?_
       refine wsr ?_
       replace B1 := X2.blk (B1.ext E5) q_g1_g2
       have H5 := X2.ext w lo_g2 (H3.trans E5)
       refine wcli (cells_any (fldWH x y) (wh_wf (by omega) (by omega)) g2 _ _ B2) ?_
       intro g3 cap1 cs1 w8 B3 S1 E6 hg_
       have q_g1_g3 := Nat.ne_of_lt (Nat.lt_of_lt_of_le B1.lt hg_)
       have q_g2_g3 := Nat.ne_of_lt (Nat.lt_of_lt_of_le B2.lt hg_)
       have lo_g3 := Nat.le_trans (H5).size hg_
       have cl1 := cellsL_length (fldWH x y)
       refine wv (.int .i64 ((cellsL (fldWH x y)).length : Int)) ?_
       refine wv (.int .i64 0) ?_
       refine wpList_nil (then_normal ?_)
       refine wp_block ?_
       replace B1 := B1.ext E6
       replace B2 := B2.ext E6
       have H6 := H5.trans E6
       refine wp_loop_k (fun m1 a wl1 => ∃ (j : Nat), m1 = (cellsL (fldWH x y)).length - j ∧ j ≤ (cellsL (fldWH x y)).length ∧ Ext w wl1 ∧ Blk wl1 g1 29 (Fld.cells Fld.zero) ∧ Blk wl1 g2 29 (Fld.cells (plT x y n j)) ∧ Blk wl1 g3 2 cs1 ∧ (∃ J1 : Nat → Value, a = ⟨#[.int .i64 x, .int .i64 y, .int .i64 n, undef, undef, undef, .pointer (some ⟨g1, 0, none⟩), .int .i64 0, .pointer (some ⟨g2, 0, none⟩), undef, J1 10, .int .i64 x, .bool (inB x 1 10), .bool (!(inB x 1 10)), .bool false, .int .i64 y, .bool (inB y 1 10), .bool (!(inB y 1 10)), .bool (!(inB y 1 10)), .bool false, .int .i64 n, .bool (inB n 0 1000), .bool (!(inB n 0 1000)), .bool (!(inB n 0 1000)), undef, .int .i64 x, .int .i8 x, .int .i64 y, .int .i8 y, .agg (Fld.cells (fldWH x y)), .slice (some ⟨g3, 0, none⟩) ((cellsL (fldWH x y)).length) cap1, .int .i64 ((cellsL (fldWH x y)).length : Int), .int .i64 (j : Int), J1 33, J1 34, J1 35, J1 36, J1 37, J1 38, J1 39, J1 40, J1 41, undef], []⟩)) ((cellsL (fldWH x y)).length) ?_ ?_
       · refine ⟨0, rfl, ?_, H6, B1, ?_, B3, exJ (by kernel_rfl)⟩
         · omega
         · rw [plT_0]; exact B2
       intro m1 a wl1 hI
       obtain ⟨j, rfl, hi_, HL1, B1, B2, B3, J1, rfl⟩ := hI
       refine wsr ?_
       refine wv (.bool (decide ((j : Int) < ((cellsL (fldWH x y)).length : Int)))) ?_
       refine wpList_nil (then_normal ?_)
       refine wp_seq ?_
       refine wsplit (decide ((j : Int) < ((cellsL (fldWH x y)).length : Int))) (fun h4 => ?_) (fun h4 => ?_)
       · skip
         have h4d := dT h4
         refine wp_skip ?_
         refine then_normal ?_
         refine wp_seq ?_
         refine wp_block ?_
         refine wsr ?_
         refine wsix1 g3 0 ((cellsL (fldWH x y)).length) cap1 j .i64 slit__int64 ?_
         have ce1 := cellsL_in (F := (fldWH x y)) (j := j) (by omega)
         have ci1 := cellsL_is (F := (fldWH x y)) (j := j) (by omega)
         refine wld g3 (0 + j) scal_int64 (B3.get (SlI.get S1 (by omega))) ?_
         refine wv (.int .i64 (atI (cellsL (fldWH x y)) j)) ?_
         refine wpList_nil (then_normal ?_)
         refine wp_region_lit ?_
         refine wv (.int .i64 (atI (cellsL (fldWH x y)) j)) ?_
         refine wv (.int .i64 n) ?_
         refine wi16 n ?_
         refine wv (.pointer (some ⟨g2, 102, none⟩)) ?_
         refine wix g2 102 (atI (cellsL (fldWH x y)) j) .i64 arrt__100_int16 ?_
         refine wst g2 (102 + (atI (cellsL (fldWH x y)) j).toNat) (.int .i16 n) scal_int16 B2 (Fld.sets _ _ (by omega) _) (by rw [Fld.size_cells]; omega) ?_
         intro w9 B2_ X3
         clear B2; have B2 := B2_; clear B2_
         refine wpList_nil (block_normal (then_normal ?_))
         refine wp_region_lit ?_
         refine wi64 ((j : Int) + 1) ?_
         refine wv (.int .i64 ((j : Int) + 1)) ?_
         refine wpList_nil (then_normal ?_)
         replace B1 := X3.blk B1 q_g1_g2
         replace B3 := X3.blk B3 (Ne.symm q_g2_g3)
         have H7 := X3.ext w lo_g2 HL1
         refine ⟨_, ?_, j + 1, rfl, ?_, H7, B1, ?_, B3, exJ (by kernel_rfl)⟩
         · omega
         · omega
         · rw [plT_1 (by omega)]; exact B2
       · skip
         have h4d := dF h4
         refine wp_exit ?_
         refine then_exit ?_
         refine then_exit ?_
         refine block_exit ?_
         refine then_normal ?_
         refine wsr ?_
         refine wrow row_impl_Field B2 (by exact Fld.size_cells _) ?_
         refine wput (Fld.cells (plT x y n j)) row_impl_Field B1 (by exact Fld.size_cells _) (by exact Fld.size_cells _) (by exact Fld.one_cells _) ?_
         intro w10 B1_ X4
         clear B1; have B1 := B1_; clear B1_
         refine wv (.int .i64 0) ?_
         refine wpList_nil (then_normal ?_)
         refine wp_ret ?_
         have H8 := X4.ext w lo_g1 HL1
         refine ret2 (.agg (Fld.cells (plnF x y n))) (.int .i64 (plnC x y n)) rfl ?_ ?_ rfl ?_
         · refine ⟨g1, 29, (Fld.cells (plT x y n j)), _, by kernel_rfl, B1, row_impl_Field, ?_, ?_⟩
           · exact Fld.size_cells _
           · show (.agg (Fld.cells (plnF x y n)) : Value) = (.agg (Fld.cells (plT x y n j)))
             refine congrArg Value.agg ?_
             first | rw [plnF_f (pin_1 (by assumption))] | rw [plnF_f (pin_2 (by assumption))] | rw [plnF_f (pin_3 (by assumption))] | rw [plnF_t (pin_t (by assumption) (by assumption) (by assumption)), plT_end (by omega)]
         · refine (resT (v := .int .i64 0) (by kernel_rfl)).trans ?_
           refine congrArg (Value.int _) ?_
           first | exact (plnC_f (pin_1 (by assumption))).symm | exact (plnC_f (pin_2 (by assumption))).symm | exact (plnC_f (pin_3 (by assumption))).symm | exact (plnC_t (pin_t (by assumption) (by assumption) (by assumption))).symm
         exact ⟨rfl, H8⟩
   · skip
     refine wbl 19 true (bnF h2) ?_
     have h2d := inF h2
     refine wsk ?_
     refine wsk ?_
     refine wsk ?_
     refine wv (.bool true) ?_
     refine wpList_nil (then_normal ?_)
     refine wct ?_
     refine wsr ?_
     refine wvv (.agg Tryz.zeroCells29) (.agg (Fld.cells Fld.zero)) (congrArg Value.agg zero_impl_Field) ?_
     replace B1 := (B1.ext E2).ext E3
     refine wput (Fld.cells Fld.zero) row_impl_Field B1 (by exact Fld.size_cells _) (by exact Fld.size_cells _) (by exact Fld.one_cells _) ?_
     intro w11 B1_ X5
     clear B1; have B1 := B1_; clear B1_
     refine wv (.int .i64 2) ?_
     refine wpList_nil (then_normal ?_)
     refine wp_ret ?_
     refine then_ret ?_
     have H9 := X5.ext w lo_g1 H2
     refine ret2 (.agg (Fld.cells (plnF x y n))) (.int .i64 (plnC x y n)) rfl ?_ ?_ rfl ?_
     · refine ⟨g1, 29, (Fld.cells Fld.zero), _, by kernel_rfl, B1, row_impl_Field, ?_, ?_⟩
       · exact Fld.size_cells _
       · show (.agg (Fld.cells (plnF x y n)) : Value) = (.agg (Fld.cells Fld.zero))
         refine congrArg Value.agg ?_
         first | rw [plnF_f (pin_1 (by assumption))] | rw [plnF_f (pin_2 (by assumption))] | rw [plnF_f (pin_3 (by assumption))] | rw [plnF_t (pin_t (by assumption) (by assumption) (by assumption)), plT_end (by omega)]
     · refine (resT (v := .int .i64 2) (by kernel_rfl)).trans ?_
       refine congrArg (Value.int _) ?_
       first | exact (plnC_f (pin_1 (by assumption))).symm | exact (plnC_f (pin_2 (by assumption))).symm | exact (plnC_f (pin_3 (by assumption))).symm | exact (plnC_t (pin_t (by assumption) (by assumption) (by assumption))).symm
     exact ⟨rfl, H9⟩
 · skip
   refine wbl 14 true (bnF h1) ?_
   have h1d := inF h1
   refine wsk ?_
   refine wsk ?_
   refine wsk ?_
   refine wv (.bool true) ?_
   refine wv (.bool true) ?_
   refine wsk ?_
   refine wsk ?_
   refine wsk ?_
   refine wv (.bool true) ?_
   refine wpList_nil (then_normal ?_)
   refine wct ?_
   refine wsr ?_
   refine wvv (.agg Tryz.zeroCells29) (.agg (Fld.cells Fld.zero)) (congrArg Value.agg zero_impl_Field) ?_
   replace B1 := B1.ext E2
   refine wput (Fld.cells Fld.zero) row_impl_Field B1 (by exact Fld.size_cells _) (by exact Fld.size_cells _) (by exact Fld.one_cells _) ?_
   intro w12 B1_ X6
   clear B1; have B1 := B1_; clear B1_
   refine wv (.int .i64 2) ?_
   refine wpList_nil (then_normal ?_)
   refine wp_ret ?_
   refine then_ret ?_
   have H10 := X6.ext w lo_g1 H1
   refine ret2 (.agg (Fld.cells (plnF x y n))) (.int .i64 (plnC x y n)) rfl ?_ ?_ rfl ?_
   · refine ⟨g1, 29, (Fld.cells Fld.zero), _, by kernel_rfl, B1, row_impl_Field, ?_, ?_⟩
     · exact Fld.size_cells _
     · show (.agg (Fld.cells (plnF x y n)) : Value) = (.agg (Fld.cells Fld.zero))
       refine congrArg Value.agg ?_
       first | rw [plnF_f (pin_1 (by assumption))] | rw [plnF_f (pin_2 (by assumption))] | rw [plnF_f (pin_3 (by assumption))] | rw [plnF_t (pin_t (by assumption) (by assumption) (by assumption)), plT_end (by omega)]
   · refine (resT (v := .int .i64 2) (by kernel_rfl)).trans ?_
     refine congrArg (Value.int _) ?_
     first | exact (plnC_f (pin_1 (by assumption))).symm | exact (plnC_f (pin_2 (by assumption))).symm | exact (plnC_f (pin_3 (by assumption))).symm | exact (plnC_t (pin_t (by assumption) (by assumption) (by assumption))).symm
   exact ⟨rfl, H10⟩


