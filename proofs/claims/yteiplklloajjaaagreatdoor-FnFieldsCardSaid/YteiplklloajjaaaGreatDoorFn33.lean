/-
  Contracts: texts as fields. Conditions: what the variables hold (TW).
-/
import Derived.Test.YteiplklloajjaaaGreatDoorTy
import Derived.Test.YteiplklloajjaaaGreatDoorSl
import Derived.Test.YteiplklloajjaaaGreatDoorMth
import Derived.Test.YteiplklloajjaaaGreatDoorFn29
import Derived.Test.YteiplklloajjaaaGreatDoorFn32
import Derived.Test.YteiplklloajjaaaGreatDoorRe
import Derived.Test.YteiplklloajjaaaGreatDoorHd
namespace Go.Proofs.YteiplklloajjaaaGreatDoor
open Go.RowKit
set_option linter.unusedSimpArgs false
set_option linter.unusedVariables false
set_option maxHeartbeats 4000000
set_option maxRecDepth 100000
attribute [local irreducible] wpList Code.wp
--# iReadField_any
theorem iReadField_any (l : List UInt8) (hl : l.length ≤ 1048576) (hh : Nat) (hH : (cutL 10 l).length = hh + 1) (w : World) (hT : TW w) :
 Calls Tryz.prog 7 #[.string (bs l)] w fun e w' => e = .returned (.tuple #[.agg (Fld.cells (rsF (iO l hh) l hh)), .int .i64 (rsC (iO l hh))]) ∧ Ext w w' := by
 have cl_ := cutL_len 10 l
 refine calls_of_wp Tryz.func7 rfl ?_
 refine wp_frame (a' := ⟨#[.string (bs l), undef, undef, undef, undef, undef, undef, undef, undef, undef, undef, undef, undef, undef, undef, undef, undef, undef, undef, undef, undef, undef, undef, undef, undef, undef, undef, undef, undef, undef, undef, undef, undef, undef, undef, undef, undef, undef, undef, undef, undef, undef, undef, undef, undef, undef, undef, undef, undef, undef, undef, undef, undef, undef, undef, undef, undef, undef, undef, undef, undef, undef, undef, undef, undef, undef, undef, undef, undef, undef, undef, undef, undef, undef, undef, undef, undef, undef, undef, undef, undef, undef, undef, undef, undef, undef, undef, undef, undef, undef, undef, undef, undef, undef, undef, undef, undef, undef, undef, undef, undef, undef, undef], []⟩) (by kernel_rfl) ?_
 refine wsr ?_
 refine wnew (Fld.cells Fld.zero) Tryz.zeroValue29 zero_impl_Field ?_
 intro g1 w1 B1 E1 hg_
 have lo_g1 := Nat.le_trans ((Ext.refl w)).size hg_
 refine wv (.int .i64 0) ?_
 refine wpList_nil (then_normal ?_)
 refine wsr ?_
 refine wv (.string (bs l)) ?_
 have H1 := (Ext.refl w).trans E1
 refine wcls (split_any l 10 (by omega) _ (TW.ext hT H1)) ?_
 intro g2 cap1 cs1 w2 B2 S1 E2 hg_
 have q_g1_g2 := Nat.ne_of_lt (Nat.lt_of_lt_of_le B1.lt hg_)
 have lo_g2 := Nat.le_trans (H1).size hg_
 refine wv (.slice (some ⟨g2, 0, none⟩) ((cutL 10 l).length) cap1) ?_
 refine wpList_nil (then_normal ?_)
 refine wsr ?_
 refine wv (.slice (some ⟨g2, 0, none⟩) ((cutL 10 l).length) cap1) ?_
 refine wv (.int .i64 ((cutL 10 l).length : Int)) ?_
 refine wi64 (((cutL 10 l).length : Int) - 1) ?_
 refine wvv (.int .i64 (((cutL 10 l).length : Int) - 1)) (.int .i64 (hh : Int)) (congrArg (Value.int .i64) (by omega)) ?_
 refine wpList_nil (then_normal ?_)
 refine wp_seq ?_
 refine wsr ?_
 refine wv (.string (bs l)) ?_
 refine wlenS l Tryz.underlying9 ?_
 refine wv (.bool (decide (600 < (l.length : Int)))) ?_
 refine wv (.bool (decide (600 < (l.length : Int)))) ?_
 have H2 := H1.trans E2
 refine split_bool (decide (600 < (l.length : Int))) (fun h1 => ?_) (fun h1 => ?_)
 · skip
   refine wbl 23 true h1 ?_
   have h1d := dT h1
   refine wsk ?_
   refine wsk ?_
   refine wsk ?_
   refine wv (.bool true) ?_
   refine wpList_nil (then_normal ?_)
   refine wct ?_
   refine wsr ?_
   refine wvv (.agg Tryz.zeroCells29) (.agg (Fld.cells Fld.zero)) (congrArg Value.agg zero_impl_Field) ?_
   replace B1 := B1.ext E2
   refine wput (Fld.cells Fld.zero) row_impl_Field B1 (by exact Fld.size_cells _) (by exact Fld.size_cells _) (by exact Fld.one_cells _) ?_
   intro w3 B1_ X1
   clear B1; have B1 := B1_; clear B1_
   refine wv (.int .i64 5) ?_
   refine wpList_nil (then_normal ?_)
   refine wp_ret ?_
   refine then_ret ?_
   have H3 := X1.ext w lo_g1 H2
   refine ret2 (.agg (Fld.cells (rsF (iO l hh) l hh))) (.int .i64 (rsC (iO l hh))) rfl ?_ ?_ rfl ?_
   · refine ⟨g1, 29, (Fld.cells Fld.zero), _, by kernel_rfl, B1, row_impl_Field, ?_, ?_⟩
     · exact Fld.size_cells _
     · show (.agg (Fld.cells (rsF (iO l hh) l hh)) : Value) = (.agg (Fld.cells Fld.zero))
       refine congrArg Value.agg ?_
       first | exact congrArg Fld.cells (rs_f (l := l) (hh := hh) (ok := iO l hh) (by first | exact io_1 (by omega) | exact io_2 (by assumption) | exact io_3 (y := y) (by omega) (ro_1 (by show 10 < ((cutL 32 (atL (cutL 10 l) y)).length : Int); omega)) | exact io_3 (y := y) (by omega) (ro_2 (x := x) (by show x < (cutL 32 (atL (cutL 10 l) y)).length; omega) (wo_f (by assumption) (by assumption) (by assumption) (by assumption))) | exact io_4 hG_ (by assumption) | exact io_5 hG_ (by assumption))).1 | exact (congrArg Fld.cells (rs_f (l := l) (hh := hh) (ok := iO l hh) (by first | exact io_1 (by omega) | exact io_2 (by assumption) | exact io_3 (y := y) (by omega) (ro_1 (by show 10 < ((cutL 32 (atL (cutL 10 l) y)).length : Int); omega)) | exact io_3 (y := y) (by omega) (ro_2 (x := x) (by show x < (cutL 32 (atL (cutL 10 l) y)).length; omega) (wo_f (by assumption) (by assumption) (by assumption) (by assumption))) | exact io_4 hG_ (by assumption) | exact io_5 hG_ (by assumption))).1).symm | exact congrArg Fld.cells (rs_t (l := l) (hh := hh) (ok := iO l hh) (io_t (by omega) (by assumption) (fun j hj => hrow j (by omega)) hG_ (by assumption) (by assumption)) hG_).1 | exact (congrArg Fld.cells (rs_t (l := l) (hh := hh) (ok := iO l hh) (io_t (by omega) (by assumption) (fun j hj => hrow j (by omega)) hG_ (by assumption) (by assumption)) hG_).1).symm
   · refine (resT (v := .int .i64 5) (by kernel_rfl)).trans ?_
     refine congrArg (Value.int _) ?_
     first | exact (rs_f (l := l) (hh := hh) (ok := iO l hh) (by first | exact io_1 (by omega) | exact io_2 (by assumption) | exact io_3 (y := y) (by omega) (ro_1 (by show 10 < ((cutL 32 (atL (cutL 10 l) y)).length : Int); omega)) | exact io_3 (y := y) (by omega) (ro_2 (x := x) (by show x < (cutL 32 (atL (cutL 10 l) y)).length; omega) (wo_f (by assumption) (by assumption) (by assumption) (by assumption))) | exact io_4 hG_ (by assumption) | exact io_5 hG_ (by assumption))).2 | exact (rs_f (l := l) (hh := hh) (ok := iO l hh) (by first | exact io_1 (by omega) | exact io_2 (by assumption) | exact io_3 (y := y) (by omega) (ro_1 (by show 10 < ((cutL 32 (atL (cutL 10 l) y)).length : Int); omega)) | exact io_3 (y := y) (by omega) (ro_2 (x := x) (by show x < (cutL 32 (atL (cutL 10 l) y)).length; omega) (wo_f (by assumption) (by assumption) (by assumption) (by assumption))) | exact io_4 hG_ (by assumption) | exact io_5 hG_ (by assumption))).2.symm | exact (rs_t (l := l) (hh := hh) (ok := iO l hh) (io_t (by omega) (by assumption) (fun j hj => hrow j (by omega)) hG_ (by assumption) (by assumption)) hG_).2 | exact (rs_t (l := l) (hh := hh) (ok := iO l hh) (io_t (by omega) (by assumption) (fun j hj => hrow j (by omega)) hG_ (by assumption) (by assumption)) hG_).2.symm
   exact ⟨rfl, H3⟩
 · skip
   refine wbl 23 false h1 ?_
   have h1d := dF h1
   refine wv (.int .i64 (hh : Int)) ?_
   refine wcl (within_any (hh : Int) 1 10 _) ?_
   intro w4 E3
   refine wv (.bool (!(inB (hh : Int) 1 10))) ?_
   refine wv (.bool (!(inB (hh : Int) 1 10))) ?_
   refine wpList_nil (then_normal ?_)
   have H4 := H2.trans E3
   refine wsplit (!(inB (hh : Int) 1 10)) (fun h2 => ?_) (fun h2 => ?_)
   · skip
     replace h2 := nbT h2
     have h2d := inF h2
     refine wsr ?_
     refine wvv (.agg Tryz.zeroCells29) (.agg (Fld.cells Fld.zero)) (congrArg Value.agg zero_impl_Field) ?_
     replace B1 := (B1.ext E2).ext E3
     refine wput (Fld.cells Fld.zero) row_impl_Field B1 (by exact Fld.size_cells _) (by exact Fld.size_cells _) (by exact Fld.one_cells _) ?_
     intro w5 B1_ X2
     clear B1; have B1 := B1_; clear B1_
     refine wv (.int .i64 5) ?_
     refine wpList_nil (then_normal ?_)
     refine wp_ret ?_
     refine then_ret ?_
     have H5 := X2.ext w lo_g1 H4
     refine ret2 (.agg (Fld.cells (rsF (iO l hh) l hh))) (.int .i64 (rsC (iO l hh))) rfl ?_ ?_ rfl ?_
     · refine ⟨g1, 29, (Fld.cells Fld.zero), _, by kernel_rfl, B1, row_impl_Field, ?_, ?_⟩
       · exact Fld.size_cells _
       · show (.agg (Fld.cells (rsF (iO l hh) l hh)) : Value) = (.agg (Fld.cells Fld.zero))
         refine congrArg Value.agg ?_
         first | exact congrArg Fld.cells (rs_f (l := l) (hh := hh) (ok := iO l hh) (by first | exact io_1 (by omega) | exact io_2 (by assumption) | exact io_3 (y := y) (by omega) (ro_1 (by show 10 < ((cutL 32 (atL (cutL 10 l) y)).length : Int); omega)) | exact io_3 (y := y) (by omega) (ro_2 (x := x) (by show x < (cutL 32 (atL (cutL 10 l) y)).length; omega) (wo_f (by assumption) (by assumption) (by assumption) (by assumption))) | exact io_4 hG_ (by assumption) | exact io_5 hG_ (by assumption))).1 | exact (congrArg Fld.cells (rs_f (l := l) (hh := hh) (ok := iO l hh) (by first | exact io_1 (by omega) | exact io_2 (by assumption) | exact io_3 (y := y) (by omega) (ro_1 (by show 10 < ((cutL 32 (atL (cutL 10 l) y)).length : Int); omega)) | exact io_3 (y := y) (by omega) (ro_2 (x := x) (by show x < (cutL 32 (atL (cutL 10 l) y)).length; omega) (wo_f (by assumption) (by assumption) (by assumption) (by assumption))) | exact io_4 hG_ (by assumption) | exact io_5 hG_ (by assumption))).1).symm | exact congrArg Fld.cells (rs_t (l := l) (hh := hh) (ok := iO l hh) (io_t (by omega) (by assumption) (fun j hj => hrow j (by omega)) hG_ (by assumption) (by assumption)) hG_).1 | exact (congrArg Fld.cells (rs_t (l := l) (hh := hh) (ok := iO l hh) (io_t (by omega) (by assumption) (fun j hj => hrow j (by omega)) hG_ (by assumption) (by assumption)) hG_).1).symm
     · refine (resT (v := .int .i64 5) (by kernel_rfl)).trans ?_
       refine congrArg (Value.int _) ?_
       first | exact (rs_f (l := l) (hh := hh) (ok := iO l hh) (by first | exact io_1 (by omega) | exact io_2 (by assumption) | exact io_3 (y := y) (by omega) (ro_1 (by show 10 < ((cutL 32 (atL (cutL 10 l) y)).length : Int); omega)) | exact io_3 (y := y) (by omega) (ro_2 (x := x) (by show x < (cutL 32 (atL (cutL 10 l) y)).length; omega) (wo_f (by assumption) (by assumption) (by assumption) (by assumption))) | exact io_4 hG_ (by assumption) | exact io_5 hG_ (by assumption))).2 | exact (rs_f (l := l) (hh := hh) (ok := iO l hh) (by first | exact io_1 (by omega) | exact io_2 (by assumption) | exact io_3 (y := y) (by omega) (ro_1 (by show 10 < ((cutL 32 (atL (cutL 10 l) y)).length : Int); omega)) | exact io_3 (y := y) (by omega) (ro_2 (x := x) (by show x < (cutL 32 (atL (cutL 10 l) y)).length; omega) (wo_f (by assumption) (by assumption) (by assumption) (by assumption))) | exact io_4 hG_ (by assumption) | exact io_5 hG_ (by assumption))).2.symm | exact (rs_t (l := l) (hh := hh) (ok := iO l hh) (io_t (by omega) (by assumption) (fun j hj => hrow j (by omega)) hG_ (by assumption) (by assumption)) hG_).2 | exact (rs_t (l := l) (hh := hh) (ok := iO l hh) (io_t (by omega) (by assumption) (fun j hj => hrow j (by omega)) hG_ (by assumption) (by assumption)) hG_).2.symm
     exact ⟨rfl, H5⟩
   · skip
     replace h2 := nbF h2
     have h2d := inT h2
     refine wp_skip ?_
     refine then_normal ?_
     refine wsr ?_
     refine wv (.int .i64 (hh : Int)) ?_
     refine wi8 (hh : Int) ?_
     refine wvv (.agg (Tryz.zeroCells29.setIfInBounds 1 (.int .i8 (hh : Int)))) (.agg (Fld.cells (fldWH 0 (hh : Int)))) (build_h _) ?_
     replace B1 := (B1.ext E2).ext E3
     replace B2 := B2.ext E3
     refine wnew (Fld.cells Fld.zero) Tryz.zeroValue29 zero_impl_Field ?_
     intro g3 w6 B3 E4 hg_
     have q_g1_g3 := Nat.ne_of_lt (Nat.lt_of_lt_of_le B1.lt hg_)
     have q_g2_g3 := Nat.ne_of_lt (Nat.lt_of_lt_of_le B2.lt hg_)
     have lo_g3 := Nat.le_trans (H4).size hg_
     refine wput (Fld.cells (fldWH 0 (hh : Int))) row_impl_Field B3 (by exact Fld.size_cells _) (by exact Fld.size_cells _) (by exact Fld.one_cells _) ?_
     intro w7 B3_ X3
     clear B3; have B3 := B3_; clear B3_
     refine wpList_nil (then_normal ?_)
     refine wp_seq ?_
     refine wsr ?_
     refine wv (.slice (some ⟨g2, 0, none⟩) ((cutL 10 l).length) cap1) ?_
     refine wv (.int .i64 (hh : Int)) ?_
     refine wsliceH g2 ((cutL 10 l).length) hh cap1 .i64 slit__string (Nat.le_trans (show hh ≤ (cutL 10 l).length by omega) (SlO.nc S1)) ?_
     refine wv (.int .i64 (hh : Int)) ?_
     refine wv (.int .i64 0) ?_
     refine wpList_nil (then_normal ?_)
     refine wp_block ?_
     replace B1 := X3.blk (B1.ext E4) q_g1_g3
     replace B2 := X3.blk (B2.ext E4) q_g2_g3
     have H6 := X3.ext w lo_g3 (H4.trans E4)
     refine wp_loop_k (fun m1 a wl1 => ∃ (y : Nat) (G : Fld), m1 = hh - y ∧ y ≤ hh ∧ G = rdF l hh y ∧ G.wf ∧ (∀ j, j < y → rowO l j = true) ∧ Ext w wl1 ∧ Blk wl1 g1 29 (Fld.cells Fld.zero) ∧ Blk wl1 g2 9 cs1 ∧ Blk wl1 g3 29 G.cells ∧ (∃ J1 : Nat → Value, a = ⟨#[.string (bs l), undef, .pointer (some ⟨g1, 0, none⟩), J1 3, .slice (some ⟨g2, 0, none⟩) ((cutL 10 l).length) cap1, .int .i64 (hh : Int), .pointer (some ⟨g3, 0, none⟩), J1 7, J1 8, J1 9, J1 10, J1 11, J1 12, J1 13, J1 14, .string (bs l), .slice (some ⟨g2, 0, none⟩) ((cutL 10 l).length) cap1, .slice (some ⟨g2, 0, none⟩) ((cutL 10 l).length) cap1, .int .i64 ((cutL 10 l).length : Int), .int .i64 (((cutL 10 l).length : Int) - 1), .string (bs l), .int .i64 (l.length : Int), .bool (decide (600 < (l.length : Int))), .bool false, .int .i64 (hh : Int), .bool (inB (hh : Int) 1 10), .bool (!(inB (hh : Int) 1 10)), .bool (!(inB (hh : Int) 1 10)), undef, .int .i64 (hh : Int), .int .i8 (hh : Int), .agg (Fld.cells (fldWH 0 (hh : Int))), .slice (some ⟨g2, 0, none⟩) ((cutL 10 l).length) cap1, .int .i64 (hh : Int), .slice (some ⟨g2, 0, none⟩) hh cap1, .int .i64 (hh : Int), .int .i64 (y : Int), J1 37, J1 38, J1 39, J1 40, J1 41, J1 42, J1 43, J1 44, J1 45, J1 46, J1 47, J1 48, J1 49, J1 50, J1 51, J1 52, J1 53, J1 54, J1 55, J1 56, J1 57, J1 58, J1 59, J1 60, J1 61, J1 62, J1 63, J1 64, J1 65, J1 66, J1 67, J1 68, J1 69, J1 70, J1 71, J1 72, J1 73, J1 74, J1 75, J1 76, J1 77, J1 78, J1 79, J1 80, J1 81, J1 82, J1 83, J1 84, J1 85, J1 86, J1 87, J1 88, J1 89, J1 90, J1 91, J1 92, undef, undef, undef, undef, undef, undef, undef, undef, undef, undef], []⟩)) (hh) ?_ ?_
     · refine ⟨0, fldWH 0 (hh : Int), rfl, ?_, ?_, ?_, ?_, H6, B1, B2, B3, exJ (by kernel_rfl)⟩
       · omega
       · rfl
       · exact wf_0 (by omega)
       · intro j h1; omega
     intro m1 a wl1 hI
     obtain ⟨y, G, rfl, hi_, hG, hGw, hrow, HL1, B1, B2, B3, J1, rfl⟩ := hI
     have gw1_ := hGw.w1
     have gw2_ := hGw.w2
     have gh1_ := hGw.h1
     have gh2_ := hGw.h2
     have al_ := atL_le 10 l y
     refine wsr ?_
     refine wv (.bool (decide ((y : Int) < (hh : Int)))) ?_
     refine wpList_nil (then_normal ?_)
     refine wp_seq ?_
     refine wsplit (decide ((y : Int) < (hh : Int))) (fun h3 => ?_) (fun h3 => ?_)
     · skip
       have h3d := dT h3
       refine wp_skip ?_
       refine then_normal ?_
       refine wp_seq ?_
       refine wp_block ?_
       refine wsr ?_
       refine wv (.int .i64 (y : Int)) ?_
       refine wsix1 g2 0 hh cap1 y .i64 slit__string ?_
       refine wld g2 (0 + y) scal_string (B2.get (SlS.get S1 (by omega))) ?_
       refine wv (.int .i64 (y : Int)) ?_
       refine wv (.string (bs (atL (cutL 10 l) y))) ?_
       refine wpList_nil (then_normal ?_)
       refine wsr ?_
       refine wv (.string (bs (atL (cutL 10 l) y))) ?_
       refine wcls (split_any (atL (cutL 10 l) y) 32 (by omega) _ (TW.ext hT HL1)) ?_
       intro g4 cap2 cs2 w8 B4 S2 E5 hg_
       have q_g1_g4 := Nat.ne_of_lt (Nat.lt_of_lt_of_le B1.lt hg_)
       have q_g2_g4 := Nat.ne_of_lt (Nat.lt_of_lt_of_le B2.lt hg_)
       have q_g3_g4 := Nat.ne_of_lt (Nat.lt_of_lt_of_le B3.lt hg_)
       have lo_g4 := Nat.le_trans (HL1).size hg_
       refine wv (.slice (some ⟨g4, 0, none⟩) ((cutL 32 (atL (cutL 10 l) y)).length) cap2) ?_
       refine wpList_nil (then_normal ?_)
       refine wp_seq ?_
       refine wsr ?_
       refine wv (.slice (some ⟨g4, 0, none⟩) ((cutL 32 (atL (cutL 10 l) y)).length) cap2) ?_
       refine wv (.int .i64 ((cutL 32 (atL (cutL 10 l) y)).length : Int)) ?_
       refine wv (.bool (decide (10 < ((cutL 32 (atL (cutL 10 l) y)).length : Int)))) ?_
       refine wpList_nil (then_normal ?_)
       have H7 := HL1.trans E5
       refine wsplit (decide (10 < ((cutL 32 (atL (cutL 10 l) y)).length : Int))) (fun h4 => ?_) (fun h4 => ?_)
       · skip
         have h4d := dT h4
         refine wsr ?_
         refine wvv (.agg Tryz.zeroCells29) (.agg (Fld.cells Fld.zero)) (congrArg Value.agg zero_impl_Field) ?_
         replace B1 := B1.ext E5
         refine wput (Fld.cells Fld.zero) row_impl_Field B1 (by exact Fld.size_cells _) (by exact Fld.size_cells _) (by exact Fld.one_cells _) ?_
         intro w9 B1_ X4
         clear B1; have B1 := B1_; clear B1_
         refine wv (.int .i64 5) ?_
         refine wpList_nil (then_normal ?_)
         refine wp_ret ?_
         refine then_ret (block_ret (then_ret (then_ret (block_ret (then_ret ?_)))))
         have H8 := X4.ext w lo_g1 H7
         refine ret2 (.agg (Fld.cells (rsF (iO l hh) l hh))) (.int .i64 (rsC (iO l hh))) rfl ?_ ?_ rfl ?_
         · refine ⟨g1, 29, (Fld.cells Fld.zero), _, by kernel_rfl, B1, row_impl_Field, ?_, ?_⟩
           · exact Fld.size_cells _
           · show (.agg (Fld.cells (rsF (iO l hh) l hh)) : Value) = (.agg (Fld.cells Fld.zero))
             refine congrArg Value.agg ?_
             first | exact congrArg Fld.cells (rs_f (l := l) (hh := hh) (ok := iO l hh) (by first | exact io_1 (by omega) | exact io_2 (by assumption) | exact io_3 (y := y) (by omega) (ro_1 (by show 10 < ((cutL 32 (atL (cutL 10 l) y)).length : Int); omega)) | exact io_3 (y := y) (by omega) (ro_2 (x := x) (by show x < (cutL 32 (atL (cutL 10 l) y)).length; omega) (wo_f (by assumption) (by assumption) (by assumption) (by assumption))) | exact io_4 hG_ (by assumption) | exact io_5 hG_ (by assumption))).1 | exact (congrArg Fld.cells (rs_f (l := l) (hh := hh) (ok := iO l hh) (by first | exact io_1 (by omega) | exact io_2 (by assumption) | exact io_3 (y := y) (by omega) (ro_1 (by show 10 < ((cutL 32 (atL (cutL 10 l) y)).length : Int); omega)) | exact io_3 (y := y) (by omega) (ro_2 (x := x) (by show x < (cutL 32 (atL (cutL 10 l) y)).length; omega) (wo_f (by assumption) (by assumption) (by assumption) (by assumption))) | exact io_4 hG_ (by assumption) | exact io_5 hG_ (by assumption))).1).symm | exact congrArg Fld.cells (rs_t (l := l) (hh := hh) (ok := iO l hh) (io_t (by omega) (by assumption) (fun j hj => hrow j (by omega)) hG_ (by assumption) (by assumption)) hG_).1 | exact (congrArg Fld.cells (rs_t (l := l) (hh := hh) (ok := iO l hh) (io_t (by omega) (by assumption) (fun j hj => hrow j (by omega)) hG_ (by assumption) (by assumption)) hG_).1).symm
         · refine (resT (v := .int .i64 5) (by kernel_rfl)).trans ?_
           refine congrArg (Value.int _) ?_
           first | exact (rs_f (l := l) (hh := hh) (ok := iO l hh) (by first | exact io_1 (by omega) | exact io_2 (by assumption) | exact io_3 (y := y) (by omega) (ro_1 (by show 10 < ((cutL 32 (atL (cutL 10 l) y)).length : Int); omega)) | exact io_3 (y := y) (by omega) (ro_2 (x := x) (by show x < (cutL 32 (atL (cutL 10 l) y)).length; omega) (wo_f (by assumption) (by assumption) (by assumption) (by assumption))) | exact io_4 hG_ (by assumption) | exact io_5 hG_ (by assumption))).2 | exact (rs_f (l := l) (hh := hh) (ok := iO l hh) (by first | exact io_1 (by omega) | exact io_2 (by assumption) | exact io_3 (y := y) (by omega) (ro_1 (by show 10 < ((cutL 32 (atL (cutL 10 l) y)).length : Int); omega)) | exact io_3 (y := y) (by omega) (ro_2 (x := x) (by show x < (cutL 32 (atL (cutL 10 l) y)).length; omega) (wo_f (by assumption) (by assumption) (by assumption) (by assumption))) | exact io_4 hG_ (by assumption) | exact io_5 hG_ (by assumption))).2.symm | exact (rs_t (l := l) (hh := hh) (ok := iO l hh) (io_t (by omega) (by assumption) (fun j hj => hrow j (by omega)) hG_ (by assumption) (by assumption)) hG_).2 | exact (rs_t (l := l) (hh := hh) (ok := iO l hh) (io_t (by omega) (by assumption) (fun j hj => hrow j (by omega)) hG_ (by assumption) (by assumption)) hG_).2.symm
         exact ⟨rfl, H8⟩
       · skip
         have h4d := dF h4
         refine wp_skip ?_
         refine then_normal ?_
         refine wsr ?_
         refine wv (.slice (some ⟨g4, 0, none⟩) ((cutL 32 (atL (cutL 10 l) y)).length) cap2) ?_
         refine wv (.int .i64 ((cutL 32 (atL (cutL 10 l) y)).length : Int)) ?_
         refine wi8 ((cutL 32 (atL (cutL 10 l) y)).length : Int) ?_
         refine wv (.pointer (some ⟨g3, 0, none⟩)) ?_
         replace B3 := B3.ext E5
         refine wst g3 (0) (.int .i8 ((cutL 32 (atL (cutL 10 l) y)).length : Int)) scal_int8 B3 (Fld.setw _ _) (by rw [Fld.size_cells]; omega) ?_
         intro w10 B3_ X5
         clear B3; have B3 := B3_; clear B3_
         refine wpList_nil (then_normal ?_)
         refine wsr ?_
         refine wv (.slice (some ⟨g4, 0, none⟩) ((cutL 32 (atL (cutL 10 l) y)).length) cap2) ?_
         refine wv (.int .i64 ((cutL 32 (atL (cutL 10 l) y)).length : Int)) ?_
         refine wv (.int .i64 0) ?_
         refine wpList_nil (then_normal ?_)
         refine wp_block ?_
         replace B1 := X5.blk (B1.ext E5) q_g1_g3
         replace B2 := X5.blk (B2.ext E5) q_g2_g3
         replace B4 := X5.blk B4 (Ne.symm q_g3_g4)
         have H9 := X5.ext w lo_g3 H7
         refine wp_loop_k (fun m2 a wl2 => ∃ (x : Nat) (K : Fld), m2 = (cutL 32 (atL (cutL 10 l) y)).length - x ∧ x ≤ (cutL 32 (atL (cutL 10 l) y)).length ∧ K = rowW { G with w := ((cutL 32 (atL (cutL 10 l) y)).length : Int) } y (cutL 32 (atL (cutL 10 l) y)) x ∧ K.wf ∧ (∀ j, j < x → wrdO (atL (cutL 32 (atL (cutL 10 l) y)) j) = true) ∧ Ext w wl2 ∧ Blk wl2 g1 29 (Fld.cells Fld.zero) ∧ Blk wl2 g2 9 cs1 ∧ Blk wl2 g3 29 K.cells ∧ Blk wl2 g4 9 cs2 ∧ (∃ J2 : Nat → Value, a = ⟨#[.string (bs l), undef, .pointer (some ⟨g1, 0, none⟩), J2 3, .slice (some ⟨g2, 0, none⟩) ((cutL 10 l).length) cap1, .int .i64 (hh : Int), .pointer (some ⟨g3, 0, none⟩), .int .i64 (y : Int), .string (bs (atL (cutL 10 l) y)), .slice (some ⟨g4, 0, none⟩) ((cutL 32 (atL (cutL 10 l) y)).length) cap2, J2 10, J2 11, J2 12, J2 13, J2 14, .string (bs l), .slice (some ⟨g2, 0, none⟩) ((cutL 10 l).length) cap1, .slice (some ⟨g2, 0, none⟩) ((cutL 10 l).length) cap1, .int .i64 ((cutL 10 l).length : Int), .int .i64 (((cutL 10 l).length : Int) - 1), .string (bs l), .int .i64 (l.length : Int), .bool (decide (600 < (l.length : Int))), .bool false, .int .i64 (hh : Int), .bool (inB (hh : Int) 1 10), .bool (!(inB (hh : Int) 1 10)), .bool (!(inB (hh : Int) 1 10)), undef, .int .i64 (hh : Int), .int .i8 (hh : Int), .agg (Fld.cells (fldWH 0 (hh : Int))), .slice (some ⟨g2, 0, none⟩) ((cutL 10 l).length) cap1, .int .i64 (hh : Int), .slice (some ⟨g2, 0, none⟩) hh cap1, .int .i64 (hh : Int), .int .i64 (y : Int), .bool (decide ((y : Int) < (hh : Int))), .int .i64 (y : Int), .pointer (some ⟨g2, 0 + y, none⟩), .string (bs (atL (cutL 10 l) y)), .string (bs (atL (cutL 10 l) y)), .slice (some ⟨g4, 0, none⟩) ((cutL 32 (atL (cutL 10 l) y)).length) cap2, .slice (some ⟨g4, 0, none⟩) ((cutL 32 (atL (cutL 10 l) y)).length) cap2, .int .i64 ((cutL 32 (atL (cutL 10 l) y)).length : Int), .bool (decide (10 < ((cutL 32 (atL (cutL 10 l) y)).length : Int))), J1 46, .slice (some ⟨g4, 0, none⟩) ((cutL 32 (atL (cutL 10 l) y)).length) cap2, .int .i64 ((cutL 32 (atL (cutL 10 l) y)).length : Int), .int .i8 ((cutL 32 (atL (cutL 10 l) y)).length : Int), .pointer (some ⟨g3, 0, none⟩), .slice (some ⟨g4, 0, none⟩) ((cutL 32 (atL (cutL 10 l) y)).length) cap2, .int .i64 ((cutL 32 (atL (cutL 10 l) y)).length : Int), .int .i64 (x : Int), J2 54, J2 55, J2 56, J2 57, J2 58, J2 59, J2 60, J2 61, J2 62, J2 63, J2 64, J2 65, J2 66, J2 67, J2 68, J2 69, J2 70, J2 71, J2 72, J2 73, J2 74, J2 75, J2 76, J2 77, J2 78, J2 79, J2 80, J2 81, J2 82, J2 83, J2 84, J2 85, J2 86, J2 87, J2 88, J2 89, J2 90, J2 91, J1 92, undef, undef, undef, undef, undef, undef, undef, undef, undef, undef], []⟩)) ((cutL 32 (atL (cutL 10 l) y)).length) ?_ ?_
         · refine ⟨0, ({ G with w := ((cutL 32 (atL (cutL 10 l) y)).length : Int) }), rfl, ?_, ?_, ?_, ?_, H9, B1, B2, B3, B4, exJ (by kernel_rfl)⟩
           · omega
           · rfl
           · exact wf_w hGw (by omega)
           · intro j h1; omega
         intro m2 a wl2 hI
         obtain ⟨x, K, rfl, hi_, hK, hKw, hwd, HL2, B1, B2, B3, B4, J2, rfl⟩ := hI
         have kw1_ := hKw.w1
         have kw2_ := hKw.w2
         have kh1_ := hKw.h1
         have kh2_ := hKw.h2
         have bl_ := atL_le 32 (atL (cutL 10 l) y) x
         refine wsr ?_
         refine wv (.bool (decide ((x : Int) < ((cutL 32 (atL (cutL 10 l) y)).length : Int)))) ?_
         refine wpList_nil (then_normal ?_)
         refine wp_seq ?_
         refine wsplit (decide ((x : Int) < ((cutL 32 (atL (cutL 10 l) y)).length : Int))) (fun h5 => ?_) (fun h5 => ?_)
         · skip
           have h5d := dT h5
           refine wp_skip ?_
           refine then_normal ?_
           refine wp_seq ?_
           refine wp_block ?_
           refine wsr ?_
           refine wv (.int .i64 (x : Int)) ?_
           refine wsix1 g4 0 ((cutL 32 (atL (cutL 10 l) y)).length) cap2 x .i64 slit__string ?_
           refine wld g4 (0 + x) scal_string (B4.get (SlS.get S2 (by omega))) ?_
           refine wv (.int .i64 (x : Int)) ?_
           refine wv (.string (bs (atL (cutL 32 (atL (cutL 10 l) y)) x))) ?_
           refine wpList_nil (then_normal ?_)
           refine wsr ?_
           refine wv (.int .i64 (x : Int)) ?_
           refine wv (.int .i64 (y : Int)) ?_
           refine wi64 (10 * (y : Int)) ?_
           refine wi64 ((x : Int) + (10 * (y : Int))) ?_
           refine wv (.int .i64 ((x : Int) + (10 * (y : Int)))) ?_
           refine wpList_nil (then_normal ?_)
           refine wsr ?_
           refine wv (.string (bs (atL (cutL 32 (atL (cutL 10 l) y)) x))) ?_
           refine wpList_nil (then_normal ?_)
           refine wp_block ?_
           refine wsr ?_
           refine wvv (.bool (((bs (atL (cutL 32 (atL (cutL 10 l) y)) x)).toList == (bs ([104])).toList))) (.bool (decide (atL (cutL 32 (atL (cutL 10 l) y)) x = [104]))) (congrArg Value.bool (bs_eqv _ _)) ?_
           refine wv (.bool (decide (atL (cutL 32 (atL (cutL 10 l) y)) x = [104]))) ?_
           refine wpList_nil (then_normal ?_)
           refine wsplit (decide (atL (cutL 32 (atL (cutL 10 l) y)) x = [104])) (fun h6 => ?_) (fun h6 => ?_)
           · skip
             have h6d := dT h6
             refine wp_region_lit ?_
             refine wv (.int .i64 ((x : Int) + (10 * (y : Int)))) ?_
             refine wv (.pointer (some ⟨g3, 2, none⟩)) ?_
             refine wix g3 2 ((x : Int) + (10 * (y : Int))) .i64 arrt__100_uint8 ?_
             refine wst g3 (2 + ((x : Int) + (10 * (y : Int))).toNat) (.int .u8 1) scal_uint8 B3 (Fld.setk _ _ (by omega) _) (by rw [Fld.size_cells]; omega) ?_
             intro w11 B3_ X6
             clear B3; have B3 := B3_; clear B3_
             refine wpList_nil (block_normal (block_normal (then_normal ?_)))
             refine wp_region_lit ?_
             refine wi64 ((x : Int) + 1) ?_
             refine wv (.int .i64 ((x : Int) + 1)) ?_
             refine wpList_nil (then_normal ?_)
             replace B1 := X6.blk B1 q_g1_g3
             replace B2 := X6.blk B2 q_g2_g3
             replace B4 := X6.blk B4 (Ne.symm q_g3_g4)
             have H10 := X6.ext w lo_g3 HL2
             refine ⟨_, ?_, x + 1, ({ K with k := upd K.k (((x : Int) + (10 * (y : Int))).toNat) 1 }), rfl, ?_, ?_, ?_, ?_, H10, B1, B2, B3, B4, exJ (by kernel_rfl)⟩
             · omega
             · omega
             · exact rw_s hK (by first | exact cw_1 (by assumption) | exact cw_2 (by assumption) | exact cw_3 (by assumption) | exact cw_4 (by assumption) (by assumption) (by assumption) (by assumption) | exact cw_4 (by assumption) (by assumption) (by assumption) rfl)
             · first | exact wf_k hKw (by decide) | exact wf_s hKw (by omega)
             · exact ok_step hwd (by first | exact wo_1 (by assumption) | exact wo_2 (by assumption) | exact wo_3 (by assumption) | exact wo_4 (by assumption) | exact wo_5 (by assumption) (by omega))
           · skip
             have h6d := dF h6
             refine wsr ?_
             refine wvv (.bool (((bs (atL (cutL 32 (atL (cutL 10 l) y)) x)).toList == (bs ([112])).toList))) (.bool (decide (atL (cutL 32 (atL (cutL 10 l) y)) x = [112]))) (congrArg Value.bool (bs_eqv _ _)) ?_
             refine wv (.bool (decide (atL (cutL 32 (atL (cutL 10 l) y)) x = [112]))) ?_
             refine wpList_nil (then_normal ?_)
             refine wsplit (decide (atL (cutL 32 (atL (cutL 10 l) y)) x = [112])) (fun h7 => ?_) (fun h7 => ?_)
             · skip
               have h7d := dT h7
               refine wp_region_lit ?_
               refine wv (.int .i64 ((x : Int) + (10 * (y : Int)))) ?_
               refine wv (.pointer (some ⟨g3, 2, none⟩)) ?_
               refine wix g3 2 ((x : Int) + (10 * (y : Int))) .i64 arrt__100_uint8 ?_
               refine wst g3 (2 + ((x : Int) + (10 * (y : Int))).toNat) (.int .u8 2) scal_uint8 B3 (Fld.setk _ _ (by omega) _) (by rw [Fld.size_cells]; omega) ?_
               intro w12 B3_ X7
               clear B3; have B3 := B3_; clear B3_
               refine wpList_nil (block_normal (block_normal (then_normal ?_)))
               refine wp_region_lit ?_
               refine wi64 ((x : Int) + 1) ?_
               refine wv (.int .i64 ((x : Int) + 1)) ?_
               refine wpList_nil (then_normal ?_)
               replace B1 := X7.blk B1 q_g1_g3
               replace B2 := X7.blk B2 q_g2_g3
               replace B4 := X7.blk B4 (Ne.symm q_g3_g4)
               have H11 := X7.ext w lo_g3 HL2
               refine ⟨_, ?_, x + 1, ({ K with k := upd K.k (((x : Int) + (10 * (y : Int))).toNat) 2 }), rfl, ?_, ?_, ?_, ?_, H11, B1, B2, B3, B4, exJ (by kernel_rfl)⟩
               · omega
               · omega
               · exact rw_s hK (by first | exact cw_1 (by assumption) | exact cw_2 (by assumption) | exact cw_3 (by assumption) | exact cw_4 (by assumption) (by assumption) (by assumption) (by assumption) | exact cw_4 (by assumption) (by assumption) (by assumption) rfl)
               · first | exact wf_k hKw (by decide) | exact wf_s hKw (by omega)
               · exact ok_step hwd (by first | exact wo_1 (by assumption) | exact wo_2 (by assumption) | exact wo_3 (by assumption) | exact wo_4 (by assumption) | exact wo_5 (by assumption) (by omega))
             · skip
               have h7d := dF h7
               refine wsr ?_
               refine wvv (.bool (((bs (atL (cutL 32 (atL (cutL 10 l) y)) x)).toList == (bs ([116])).toList))) (.bool (decide (atL (cutL 32 (atL (cutL 10 l) y)) x = [116]))) (congrArg Value.bool (bs_eqv _ _)) ?_
               refine wv (.bool (decide (atL (cutL 32 (atL (cutL 10 l) y)) x = [116]))) ?_
               refine wpList_nil (then_normal ?_)
               refine wsplit (decide (atL (cutL 32 (atL (cutL 10 l) y)) x = [116])) (fun h8 => ?_) (fun h8 => ?_)
               · skip
                 have h8d := dT h8
                 refine wp_region_lit ?_
                 refine wv (.int .i64 ((x : Int) + (10 * (y : Int)))) ?_
                 refine wv (.pointer (some ⟨g3, 2, none⟩)) ?_
                 refine wix g3 2 ((x : Int) + (10 * (y : Int))) .i64 arrt__100_uint8 ?_
                 refine wst g3 (2 + ((x : Int) + (10 * (y : Int))).toNat) (.int .u8 3) scal_uint8 B3 (Fld.setk _ _ (by omega) _) (by rw [Fld.size_cells]; omega) ?_
                 intro w13 B3_ X8
                 clear B3; have B3 := B3_; clear B3_
                 refine wpList_nil (block_normal (block_normal (then_normal ?_)))
                 refine wp_region_lit ?_
                 refine wi64 ((x : Int) + 1) ?_
                 refine wv (.int .i64 ((x : Int) + 1)) ?_
                 refine wpList_nil (then_normal ?_)
                 replace B1 := X8.blk B1 q_g1_g3
                 replace B2 := X8.blk B2 q_g2_g3
                 replace B4 := X8.blk B4 (Ne.symm q_g3_g4)
                 have H12 := X8.ext w lo_g3 HL2
                 refine ⟨_, ?_, x + 1, ({ K with k := upd K.k (((x : Int) + (10 * (y : Int))).toNat) 3 }), rfl, ?_, ?_, ?_, ?_, H12, B1, B2, B3, B4, exJ (by kernel_rfl)⟩
                 · omega
                 · omega
                 · exact rw_s hK (by first | exact cw_1 (by assumption) | exact cw_2 (by assumption) | exact cw_3 (by assumption) | exact cw_4 (by assumption) (by assumption) (by assumption) (by assumption) | exact cw_4 (by assumption) (by assumption) (by assumption) rfl)
                 · first | exact wf_k hKw (by decide) | exact wf_s hKw (by omega)
                 · exact ok_step hwd (by first | exact wo_1 (by assumption) | exact wo_2 (by assumption) | exact wo_3 (by assumption) | exact wo_4 (by assumption) | exact wo_5 (by assumption) (by omega))
               · skip
                 have h8d := dF h8
                 refine wsr ?_
                 refine wv (.string (bs (atL (cutL 32 (atL (cutL 10 l) y)) x))) ?_
                 refine wpar (iparse_any (atL (cutL 32 (atL (cutL 10 l) y)) x) (by omega) 0 1000 (by omega) (by omega) _ (TW.ext hT HL2)) ?_
                 intro n1 w14 hn1 E6
                 refine wv (.tuple #[.int .i64 n1, .bool (parO (atL (cutL 32 (atL (cutL 10 l) y)) x) 0 1000)]) ?_
                 refine wv (.int .i64 n1) ?_
                 refine wv (.bool (parO (atL (cutL 32 (atL (cutL 10 l) y)) x) 0 1000)) ?_
                 refine wv (.int .i64 n1) ?_
                 refine wv (.bool (parO (atL (cutL 32 (atL (cutL 10 l) y)) x) 0 1000)) ?_
                 refine wpList_nil (then_normal ?_)
                 refine wp_seq ?_
                 refine wsr ?_
                 refine wv (.bool (parO (atL (cutL 32 (atL (cutL 10 l) y)) x) 0 1000)) ?_
                 refine wv (.bool (!(parO (atL (cutL 32 (atL (cutL 10 l) y)) x) 0 1000))) ?_
                 refine wpList_nil (then_normal ?_)
                 have H13 := HL2.trans E6
                 refine wsplit (!(parO (atL (cutL 32 (atL (cutL 10 l) y)) x) 0 1000)) (fun h9 => ?_) (fun h9 => ?_)
                 · skip
                   replace h9 := nbT h9
                   refine wsr ?_
                   refine wvv (.agg Tryz.zeroCells29) (.agg (Fld.cells Fld.zero)) (congrArg Value.agg zero_impl_Field) ?_
                   replace B1 := B1.ext E6
                   refine wput (Fld.cells Fld.zero) row_impl_Field B1 (by exact Fld.size_cells _) (by exact Fld.size_cells _) (by exact Fld.one_cells _) ?_
                   intro w15 B1_ X9
                   clear B1; have B1 := B1_; clear B1_
                   refine wv (.int .i64 5) ?_
                   refine wpList_nil (then_normal ?_)
                   refine wp_ret ?_
                   refine then_ret (block_ret (block_ret (then_ret (then_ret (block_ret (block_ret (then_ret (then_ret (block_ret (then_ret ?_))))))))))
                   have H14 := X9.ext w lo_g1 H13
                   refine ret2 (.agg (Fld.cells (rsF (iO l hh) l hh))) (.int .i64 (rsC (iO l hh))) rfl ?_ ?_ rfl ?_
                   · refine ⟨g1, 29, (Fld.cells Fld.zero), _, by kernel_rfl, B1, row_impl_Field, ?_, ?_⟩
                     · exact Fld.size_cells _
                     · show (.agg (Fld.cells (rsF (iO l hh) l hh)) : Value) = (.agg (Fld.cells Fld.zero))
                       refine congrArg Value.agg ?_
                       first | exact congrArg Fld.cells (rs_f (l := l) (hh := hh) (ok := iO l hh) (by first | exact io_1 (by omega) | exact io_2 (by assumption) | exact io_3 (y := y) (by omega) (ro_1 (by show 10 < ((cutL 32 (atL (cutL 10 l) y)).length : Int); omega)) | exact io_3 (y := y) (by omega) (ro_2 (x := x) (by show x < (cutL 32 (atL (cutL 10 l) y)).length; omega) (wo_f (by assumption) (by assumption) (by assumption) (by assumption))) | exact io_4 hG_ (by assumption) | exact io_5 hG_ (by assumption))).1 | exact (congrArg Fld.cells (rs_f (l := l) (hh := hh) (ok := iO l hh) (by first | exact io_1 (by omega) | exact io_2 (by assumption) | exact io_3 (y := y) (by omega) (ro_1 (by show 10 < ((cutL 32 (atL (cutL 10 l) y)).length : Int); omega)) | exact io_3 (y := y) (by omega) (ro_2 (x := x) (by show x < (cutL 32 (atL (cutL 10 l) y)).length; omega) (wo_f (by assumption) (by assumption) (by assumption) (by assumption))) | exact io_4 hG_ (by assumption) | exact io_5 hG_ (by assumption))).1).symm | exact congrArg Fld.cells (rs_t (l := l) (hh := hh) (ok := iO l hh) (io_t (by omega) (by assumption) (fun j hj => hrow j (by omega)) hG_ (by assumption) (by assumption)) hG_).1 | exact (congrArg Fld.cells (rs_t (l := l) (hh := hh) (ok := iO l hh) (io_t (by omega) (by assumption) (fun j hj => hrow j (by omega)) hG_ (by assumption) (by assumption)) hG_).1).symm
                   · refine (resT (v := .int .i64 5) (by kernel_rfl)).trans ?_
                     refine congrArg (Value.int _) ?_
                     first | exact (rs_f (l := l) (hh := hh) (ok := iO l hh) (by first | exact io_1 (by omega) | exact io_2 (by assumption) | exact io_3 (y := y) (by omega) (ro_1 (by show 10 < ((cutL 32 (atL (cutL 10 l) y)).length : Int); omega)) | exact io_3 (y := y) (by omega) (ro_2 (x := x) (by show x < (cutL 32 (atL (cutL 10 l) y)).length; omega) (wo_f (by assumption) (by assumption) (by assumption) (by assumption))) | exact io_4 hG_ (by assumption) | exact io_5 hG_ (by assumption))).2 | exact (rs_f (l := l) (hh := hh) (ok := iO l hh) (by first | exact io_1 (by omega) | exact io_2 (by assumption) | exact io_3 (y := y) (by omega) (ro_1 (by show 10 < ((cutL 32 (atL (cutL 10 l) y)).length : Int); omega)) | exact io_3 (y := y) (by omega) (ro_2 (x := x) (by show x < (cutL 32 (atL (cutL 10 l) y)).length; omega) (wo_f (by assumption) (by assumption) (by assumption) (by assumption))) | exact io_4 hG_ (by assumption) | exact io_5 hG_ (by assumption))).2.symm | exact (rs_t (l := l) (hh := hh) (ok := iO l hh) (io_t (by omega) (by assumption) (fun j hj => hrow j (by omega)) hG_ (by assumption) (by assumption)) hG_).2 | exact (rs_t (l := l) (hh := hh) (ok := iO l hh) (io_t (by omega) (by assumption) (fun j hj => hrow j (by omega)) hG_ (by assumption) (by assumption)) hG_).2.symm
                   exact ⟨rfl, H14⟩
                 · skip
                   replace h9 := nbF h9
                   have pq1 := parO_num h9
                   have pe1 := hn1 h9
                   refine wp_skip ?_
                   refine then_normal ?_
                   refine wp_region_lit ?_
                   refine wv (.int .i64 ((x : Int) + (10 * (y : Int)))) ?_
                   refine wv (.int .i64 n1) ?_
                   refine wi16 n1 ?_
                   refine wv (.pointer (some ⟨g3, 102, none⟩)) ?_
                   refine wix g3 102 ((x : Int) + (10 * (y : Int))) .i64 arrt__100_int16 ?_
                   replace B3 := B3.ext E6
                   refine wst g3 (102 + ((x : Int) + (10 * (y : Int))).toNat) (.int .i16 n1) scal_int16 B3 (Fld.sets _ _ (by omega) _) (by rw [Fld.size_cells]; omega) ?_
                   intro w16 B3_ X10
                   clear B3; have B3 := B3_; clear B3_
                   refine wpList_nil (block_normal (block_normal (then_normal ?_)))
                   refine wp_frame (a' := ⟨#[.string (bs l), undef, .pointer (some ⟨g1, 0, none⟩), J2 3, .slice (some ⟨g2, 0, none⟩) ((cutL 10 l).length) cap1, .int .i64 (hh : Int), .pointer (some ⟨g3, 0, none⟩), .int .i64 (y : Int), .string (bs (atL (cutL 10 l) y)), .slice (some ⟨g4, 0, none⟩) ((cutL 32 (atL (cutL 10 l) y)).length) cap2, .int .i64 (x : Int), .string (bs (atL (cutL 32 (atL (cutL 10 l) y)) x)), .int .i64 ((x : Int) + (10 * (y : Int))), .int .i64 n1, .bool (parO (atL (cutL 32 (atL (cutL 10 l) y)) x) 0 1000), .string (bs l), .slice (some ⟨g2, 0, none⟩) ((cutL 10 l).length) cap1, .slice (some ⟨g2, 0, none⟩) ((cutL 10 l).length) cap1, .int .i64 ((cutL 10 l).length : Int), .int .i64 (((cutL 10 l).length : Int) - 1), .string (bs l), .int .i64 (l.length : Int), .bool (decide (600 < (l.length : Int))), .bool false, .int .i64 (hh : Int), .bool (inB (hh : Int) 1 10), .bool (!(inB (hh : Int) 1 10)), .bool (!(inB (hh : Int) 1 10)), undef, .int .i64 (hh : Int), .int .i8 (hh : Int), .agg (Fld.cells (fldWH 0 (hh : Int))), .slice (some ⟨g2, 0, none⟩) ((cutL 10 l).length) cap1, .int .i64 (hh : Int), .slice (some ⟨g2, 0, none⟩) hh cap1, .int .i64 (hh : Int), .int .i64 (y : Int), .bool (decide ((y : Int) < (hh : Int))), .int .i64 (y : Int), .pointer (some ⟨g2, 0 + y, none⟩), .string (bs (atL (cutL 10 l) y)), .string (bs (atL (cutL 10 l) y)), .slice (some ⟨g4, 0, none⟩) ((cutL 32 (atL (cutL 10 l) y)).length) cap2, .slice (some ⟨g4, 0, none⟩) ((cutL 32 (atL (cutL 10 l) y)).length) cap2, .int .i64 ((cutL 32 (atL (cutL 10 l) y)).length : Int), .bool (decide (10 < ((cutL 32 (atL (cutL 10 l) y)).length : Int))), J1 46, .slice (some ⟨g4, 0, none⟩) ((cutL 32 (atL (cutL 10 l) y)).length) cap2, .int .i64 ((cutL 32 (atL (cutL 10 l) y)).length : Int), .int .i8 ((cutL 32 (atL (cutL 10 l) y)).length : Int), .pointer (some ⟨g3, 0, none⟩), .slice (some ⟨g4, 0, none⟩) ((cutL 32 (atL (cutL 10 l) y)).length) cap2, .int .i64 ((cutL 32 (atL (cutL 10 l) y)).length : Int), .int .i64 (x : Int), .bool (decide ((x : Int) < ((cutL 32 (atL (cutL 10 l) y)).length : Int))), .int .i64 (x : Int), .pointer (some ⟨g4, 0 + x, none⟩), .string (bs (atL (cutL 32 (atL (cutL 10 l) y)) x)), .int .i64 (x : Int), .int .i64 (y : Int), .int .i64 (10 * (y : Int)), .int .i64 ((x : Int) + (10 * (y : Int))), .string (bs (atL (cutL 32 (atL (cutL 10 l) y)) x)), .tuple #[.int .i64 n1, .bool (parO (atL (cutL 32 (atL (cutL 10 l) y)) x) 0 1000)], .string (bs (atL (cutL 32 (atL (cutL 10 l) y)) x)), .tuple #[.int .i64 n1, .bool (parO (atL (cutL 32 (atL (cutL 10 l) y)) x) 0 1000)], .int .i64 n1, .bool (parO (atL (cutL 32 (atL (cutL 10 l) y)) x) 0 1000), .bool (parO (atL (cutL 32 (atL (cutL 10 l) y)) x) 0 1000), .bool (!(parO (atL (cutL 32 (atL (cutL 10 l) y)) x) 0 1000)), J2 70, .int .i64 ((x : Int) + (10 * (y : Int))), .int .i64 n1, .int .i16 n1, .pointer (some ⟨g3, 102, none⟩), .pointer (some ⟨g3, 102 + ((x : Int) + (10 * (y : Int))).toNat, none⟩), .bool (decide (atL (cutL 32 (atL (cutL 10 l) y)) x = [104])), .bool (decide (atL (cutL 32 (atL (cutL 10 l) y)) x = [104])), J2 78, J2 79, J2 80, .bool (decide (atL (cutL 32 (atL (cutL 10 l) y)) x = [112])), .bool (decide (atL (cutL 32 (atL (cutL 10 l) y)) x = [112])), J2 83, J2 84, J2 85, .bool (decide (atL (cutL 32 (atL (cutL 10 l) y)) x = [116])), .bool (decide (atL (cutL 32 (atL (cutL 10 l) y)) x = [116])), J2 88, J2 89, J2 90, J2 91, J1 92, undef, undef, undef, undef, undef, undef, undef, undef, undef, undef], []⟩) (by kernel_rfl) ?_
                   refine wp_region_lit ?_
                   refine wi64 ((x : Int) + 1) ?_
                   refine wv (.int .i64 ((x : Int) + 1)) ?_
                   refine wpList_nil (then_normal ?_)
                   replace B1 := X10.blk (B1.ext E6) q_g1_g3
                   replace B2 := X10.blk (B2.ext E6) q_g2_g3
                   replace B4 := X10.blk (B4.ext E6) (Ne.symm q_g3_g4)
                   have H15 := X10.ext w lo_g3 H13
                   refine ⟨_, ?_, x + 1, ({ K with s := upd K.s (((x : Int) + (10 * (y : Int))).toNat) n1 }), rfl, ?_, ?_, ?_, ?_, H15, B1, B2, B3, B4, exJ (by kernel_rfl)⟩
                   · omega
                   · omega
                   · exact rw_s hK (by first | exact cw_1 (by assumption) | exact cw_2 (by assumption) | exact cw_3 (by assumption) | exact cw_4 (by assumption) (by assumption) (by assumption) (by assumption) | exact cw_4 (by assumption) (by assumption) (by assumption) rfl)
                   · first | exact wf_k hKw (by decide) | exact wf_s hKw (by omega)
                   · exact ok_step hwd (by first | exact wo_1 (by assumption) | exact wo_2 (by assumption) | exact wo_3 (by assumption) | exact wo_4 (by assumption) | exact wo_5 (by assumption) (by omega))
         · skip
           have h5d := dF h5
           refine wp_exit ?_
           refine then_exit ?_
           refine then_exit ?_
           refine block_exit ?_
           refine block_normal (then_normal ?_)
           refine wp_region_lit ?_
           refine wi64 ((y : Int) + 1) ?_
           refine wv (.int .i64 ((y : Int) + 1)) ?_
           refine wpList_nil (then_normal ?_)
           refine ⟨_, ?_, y + 1, K, rfl, ?_, ?_, ?_, ?_, HL2, B1, B2, B3, exJ (by kernel_rfl)⟩
           · omega
           · omega
           · exact rd_s hG hK (by show x = (cutL 32 (atL (cutL 10 l) y)).length; omega)
           · exact hKw
           · exact st_j hrow (ro_t (by show ((cutL 32 (atL (cutL 10 l) y)).length : Int) ≤ 10; omega) (fun j hj => hwd j (by have hj2 : j < (cutL 32 (atL (cutL 10 l) y)).length := hj; omega)))
     · skip
       have h3d := dF h3
       have hy_ : y = hh := by omega
       have hG_ : G = rdF l hh hh := by rw [hG, hy_]
       refine wp_exit ?_
       refine then_exit ?_
       refine then_exit ?_
       refine block_exit ?_
       refine then_normal ?_
       refine wp_seq ?_
       refine wsr ?_
       refine wrow row_impl_Field B3 (by exact Fld.size_cells _) ?_
       refine wcl (iValidField_any G hGw _) ?_
       intro w17 E7
       refine wv (.bool (!(okB G))) ?_
       refine wv (.bool (!(okB G))) ?_
       have H16 := HL1.trans E7
       refine split_bool (okB G) (fun h10 => ?_) (fun h10 => ?_)
       · skip
         refine wbl 96 false (bnT h10) ?_
         replace B3 := B3.ext E7
         refine wcl (ifieldText_any G hGw g3 29 h10 _ B3 (TW.t (TW.ext hT H16))) ?_
         intro w18 E8
         refine wv (.string (bs l)) ?_
         refine wvv (.bool (!((bs (fieldT G)).toList == (bs l).toList))) (.bool (!(decide (fieldT G = l)))) (congrArg Value.bool (congrArg not (bs_eqv _ _))) ?_
         refine wv (.bool (!(decide (fieldT G = l)))) ?_
         refine wpList_nil (then_normal ?_)
         have H17 := H16.trans E8
         refine wsplit (!(decide (fieldT G = l))) (fun h11 => ?_) (fun h11 => ?_)
         · skip
           replace h11 := nbT h11
           have h11d := dF h11
           refine wsr ?_
           refine wvv (.agg Tryz.zeroCells29) (.agg (Fld.cells Fld.zero)) (congrArg Value.agg zero_impl_Field) ?_
           replace B1 := (B1.ext E7).ext E8
           refine wput (Fld.cells Fld.zero) row_impl_Field B1 (by exact Fld.size_cells _) (by exact Fld.size_cells _) (by exact Fld.one_cells _) ?_
           intro w19 B1_ X11
           clear B1; have B1 := B1_; clear B1_
           refine wv (.int .i64 5) ?_
           refine wpList_nil (then_normal ?_)
           refine wp_ret ?_
           refine then_ret ?_
           have H18 := X11.ext w lo_g1 H17
           refine ret2 (.agg (Fld.cells (rsF (iO l hh) l hh))) (.int .i64 (rsC (iO l hh))) rfl ?_ ?_ rfl ?_
           · refine ⟨g1, 29, (Fld.cells Fld.zero), _, by kernel_rfl, B1, row_impl_Field, ?_, ?_⟩
             · exact Fld.size_cells _
             · show (.agg (Fld.cells (rsF (iO l hh) l hh)) : Value) = (.agg (Fld.cells Fld.zero))
               refine congrArg Value.agg ?_
               first | exact congrArg Fld.cells (rs_f (l := l) (hh := hh) (ok := iO l hh) (by first | exact io_1 (by omega) | exact io_2 (by assumption) | exact io_3 (y := y) (by omega) (ro_1 (by show 10 < ((cutL 32 (atL (cutL 10 l) y)).length : Int); omega)) | exact io_3 (y := y) (by omega) (ro_2 (x := x) (by show x < (cutL 32 (atL (cutL 10 l) y)).length; omega) (wo_f (by assumption) (by assumption) (by assumption) (by assumption))) | exact io_4 hG_ (by assumption) | exact io_5 hG_ (by assumption))).1 | exact (congrArg Fld.cells (rs_f (l := l) (hh := hh) (ok := iO l hh) (by first | exact io_1 (by omega) | exact io_2 (by assumption) | exact io_3 (y := y) (by omega) (ro_1 (by show 10 < ((cutL 32 (atL (cutL 10 l) y)).length : Int); omega)) | exact io_3 (y := y) (by omega) (ro_2 (x := x) (by show x < (cutL 32 (atL (cutL 10 l) y)).length; omega) (wo_f (by assumption) (by assumption) (by assumption) (by assumption))) | exact io_4 hG_ (by assumption) | exact io_5 hG_ (by assumption))).1).symm | exact congrArg Fld.cells (rs_t (l := l) (hh := hh) (ok := iO l hh) (io_t (by omega) (by assumption) (fun j hj => hrow j (by omega)) hG_ (by assumption) (by assumption)) hG_).1 | exact (congrArg Fld.cells (rs_t (l := l) (hh := hh) (ok := iO l hh) (io_t (by omega) (by assumption) (fun j hj => hrow j (by omega)) hG_ (by assumption) (by assumption)) hG_).1).symm
           · refine (resT (v := .int .i64 5) (by kernel_rfl)).trans ?_
             refine congrArg (Value.int _) ?_
             first | exact (rs_f (l := l) (hh := hh) (ok := iO l hh) (by first | exact io_1 (by omega) | exact io_2 (by assumption) | exact io_3 (y := y) (by omega) (ro_1 (by show 10 < ((cutL 32 (atL (cutL 10 l) y)).length : Int); omega)) | exact io_3 (y := y) (by omega) (ro_2 (x := x) (by show x < (cutL 32 (atL (cutL 10 l) y)).length; omega) (wo_f (by assumption) (by assumption) (by assumption) (by assumption))) | exact io_4 hG_ (by assumption) | exact io_5 hG_ (by assumption))).2 | exact (rs_f (l := l) (hh := hh) (ok := iO l hh) (by first | exact io_1 (by omega) | exact io_2 (by assumption) | exact io_3 (y := y) (by omega) (ro_1 (by show 10 < ((cutL 32 (atL (cutL 10 l) y)).length : Int); omega)) | exact io_3 (y := y) (by omega) (ro_2 (x := x) (by show x < (cutL 32 (atL (cutL 10 l) y)).length; omega) (wo_f (by assumption) (by assumption) (by assumption) (by assumption))) | exact io_4 hG_ (by assumption) | exact io_5 hG_ (by assumption))).2.symm | exact (rs_t (l := l) (hh := hh) (ok := iO l hh) (io_t (by omega) (by assumption) (fun j hj => hrow j (by omega)) hG_ (by assumption) (by assumption)) hG_).2 | exact (rs_t (l := l) (hh := hh) (ok := iO l hh) (io_t (by omega) (by assumption) (fun j hj => hrow j (by omega)) hG_ (by assumption) (by assumption)) hG_).2.symm
           exact ⟨rfl, H18⟩
         · skip
           replace h11 := nbF h11
           have h11d := dT h11
           refine wp_skip ?_
           refine then_normal ?_
           refine wsr ?_
           replace B3 := B3.ext E8
           refine wrow row_impl_Field B3 (by exact Fld.size_cells _) ?_
           replace B1 := (B1.ext E7).ext E8
           refine wput G.cells row_impl_Field B1 (by exact Fld.size_cells _) (by exact Fld.size_cells _) (by exact Fld.one_cells _) ?_
           intro w20 B1_ X12
           clear B1; have B1 := B1_; clear B1_
           refine wv (.int .i64 0) ?_
           refine wpList_nil (then_normal ?_)
           refine wp_ret ?_
           have H19 := X12.ext w lo_g1 H17
           refine ret2 (.agg (Fld.cells (rsF (iO l hh) l hh))) (.int .i64 (rsC (iO l hh))) rfl ?_ ?_ rfl ?_
           · refine ⟨g1, 29, G.cells, _, by kernel_rfl, B1, row_impl_Field, ?_, ?_⟩
             · exact Fld.size_cells _
             · show (.agg (Fld.cells (rsF (iO l hh) l hh)) : Value) = (.agg G.cells)
               refine congrArg Value.agg ?_
               first | exact congrArg Fld.cells (rs_f (l := l) (hh := hh) (ok := iO l hh) (by first | exact io_1 (by omega) | exact io_2 (by assumption) | exact io_3 (y := y) (by omega) (ro_1 (by show 10 < ((cutL 32 (atL (cutL 10 l) y)).length : Int); omega)) | exact io_3 (y := y) (by omega) (ro_2 (x := x) (by show x < (cutL 32 (atL (cutL 10 l) y)).length; omega) (wo_f (by assumption) (by assumption) (by assumption) (by assumption))) | exact io_4 hG_ (by assumption) | exact io_5 hG_ (by assumption))).1 | exact (congrArg Fld.cells (rs_f (l := l) (hh := hh) (ok := iO l hh) (by first | exact io_1 (by omega) | exact io_2 (by assumption) | exact io_3 (y := y) (by omega) (ro_1 (by show 10 < ((cutL 32 (atL (cutL 10 l) y)).length : Int); omega)) | exact io_3 (y := y) (by omega) (ro_2 (x := x) (by show x < (cutL 32 (atL (cutL 10 l) y)).length; omega) (wo_f (by assumption) (by assumption) (by assumption) (by assumption))) | exact io_4 hG_ (by assumption) | exact io_5 hG_ (by assumption))).1).symm | exact congrArg Fld.cells (rs_t (l := l) (hh := hh) (ok := iO l hh) (io_t (by omega) (by assumption) (fun j hj => hrow j (by omega)) hG_ (by assumption) (by assumption)) hG_).1 | exact (congrArg Fld.cells (rs_t (l := l) (hh := hh) (ok := iO l hh) (io_t (by omega) (by assumption) (fun j hj => hrow j (by omega)) hG_ (by assumption) (by assumption)) hG_).1).symm
           · refine (resT (v := .int .i64 0) (by kernel_rfl)).trans ?_
             refine congrArg (Value.int _) ?_
             first | exact (rs_f (l := l) (hh := hh) (ok := iO l hh) (by first | exact io_1 (by omega) | exact io_2 (by assumption) | exact io_3 (y := y) (by omega) (ro_1 (by show 10 < ((cutL 32 (atL (cutL 10 l) y)).length : Int); omega)) | exact io_3 (y := y) (by omega) (ro_2 (x := x) (by show x < (cutL 32 (atL (cutL 10 l) y)).length; omega) (wo_f (by assumption) (by assumption) (by assumption) (by assumption))) | exact io_4 hG_ (by assumption) | exact io_5 hG_ (by assumption))).2 | exact (rs_f (l := l) (hh := hh) (ok := iO l hh) (by first | exact io_1 (by omega) | exact io_2 (by assumption) | exact io_3 (y := y) (by omega) (ro_1 (by show 10 < ((cutL 32 (atL (cutL 10 l) y)).length : Int); omega)) | exact io_3 (y := y) (by omega) (ro_2 (x := x) (by show x < (cutL 32 (atL (cutL 10 l) y)).length; omega) (wo_f (by assumption) (by assumption) (by assumption) (by assumption))) | exact io_4 hG_ (by assumption) | exact io_5 hG_ (by assumption))).2.symm | exact (rs_t (l := l) (hh := hh) (ok := iO l hh) (io_t (by omega) (by assumption) (fun j hj => hrow j (by omega)) hG_ (by assumption) (by assumption)) hG_).2 | exact (rs_t (l := l) (hh := hh) (ok := iO l hh) (io_t (by omega) (by assumption) (fun j hj => hrow j (by omega)) hG_ (by assumption) (by assumption)) hG_).2.symm
           exact ⟨rfl, H19⟩
       · skip
         refine wbl 96 true (bnF h10) ?_
         refine wsk ?_
         refine wsk ?_
         refine wsk ?_
         refine wv (.bool true) ?_
         refine wpList_nil (then_normal ?_)
         refine wct ?_
         refine wsr ?_
         refine wvv (.agg Tryz.zeroCells29) (.agg (Fld.cells Fld.zero)) (congrArg Value.agg zero_impl_Field) ?_
         replace B1 := B1.ext E7
         refine wput (Fld.cells Fld.zero) row_impl_Field B1 (by exact Fld.size_cells _) (by exact Fld.size_cells _) (by exact Fld.one_cells _) ?_
         intro w21 B1_ X13
         clear B1; have B1 := B1_; clear B1_
         refine wv (.int .i64 5) ?_
         refine wpList_nil (then_normal ?_)
         refine wp_ret ?_
         refine then_ret ?_
         have H20 := X13.ext w lo_g1 H16
         refine ret2 (.agg (Fld.cells (rsF (iO l hh) l hh))) (.int .i64 (rsC (iO l hh))) rfl ?_ ?_ rfl ?_
         · refine ⟨g1, 29, (Fld.cells Fld.zero), _, by kernel_rfl, B1, row_impl_Field, ?_, ?_⟩
           · exact Fld.size_cells _
           · show (.agg (Fld.cells (rsF (iO l hh) l hh)) : Value) = (.agg (Fld.cells Fld.zero))
             refine congrArg Value.agg ?_
             first | exact congrArg Fld.cells (rs_f (l := l) (hh := hh) (ok := iO l hh) (by first | exact io_1 (by omega) | exact io_2 (by assumption) | exact io_3 (y := y) (by omega) (ro_1 (by show 10 < ((cutL 32 (atL (cutL 10 l) y)).length : Int); omega)) | exact io_3 (y := y) (by omega) (ro_2 (x := x) (by show x < (cutL 32 (atL (cutL 10 l) y)).length; omega) (wo_f (by assumption) (by assumption) (by assumption) (by assumption))) | exact io_4 hG_ (by assumption) | exact io_5 hG_ (by assumption))).1 | exact (congrArg Fld.cells (rs_f (l := l) (hh := hh) (ok := iO l hh) (by first | exact io_1 (by omega) | exact io_2 (by assumption) | exact io_3 (y := y) (by omega) (ro_1 (by show 10 < ((cutL 32 (atL (cutL 10 l) y)).length : Int); omega)) | exact io_3 (y := y) (by omega) (ro_2 (x := x) (by show x < (cutL 32 (atL (cutL 10 l) y)).length; omega) (wo_f (by assumption) (by assumption) (by assumption) (by assumption))) | exact io_4 hG_ (by assumption) | exact io_5 hG_ (by assumption))).1).symm | exact congrArg Fld.cells (rs_t (l := l) (hh := hh) (ok := iO l hh) (io_t (by omega) (by assumption) (fun j hj => hrow j (by omega)) hG_ (by assumption) (by assumption)) hG_).1 | exact (congrArg Fld.cells (rs_t (l := l) (hh := hh) (ok := iO l hh) (io_t (by omega) (by assumption) (fun j hj => hrow j (by omega)) hG_ (by assumption) (by assumption)) hG_).1).symm
         · refine (resT (v := .int .i64 5) (by kernel_rfl)).trans ?_
           refine congrArg (Value.int _) ?_
           first | exact (rs_f (l := l) (hh := hh) (ok := iO l hh) (by first | exact io_1 (by omega) | exact io_2 (by assumption) | exact io_3 (y := y) (by omega) (ro_1 (by show 10 < ((cutL 32 (atL (cutL 10 l) y)).length : Int); omega)) | exact io_3 (y := y) (by omega) (ro_2 (x := x) (by show x < (cutL 32 (atL (cutL 10 l) y)).length; omega) (wo_f (by assumption) (by assumption) (by assumption) (by assumption))) | exact io_4 hG_ (by assumption) | exact io_5 hG_ (by assumption))).2 | exact (rs_f (l := l) (hh := hh) (ok := iO l hh) (by first | exact io_1 (by omega) | exact io_2 (by assumption) | exact io_3 (y := y) (by omega) (ro_1 (by show 10 < ((cutL 32 (atL (cutL 10 l) y)).length : Int); omega)) | exact io_3 (y := y) (by omega) (ro_2 (x := x) (by show x < (cutL 32 (atL (cutL 10 l) y)).length; omega) (wo_f (by assumption) (by assumption) (by assumption) (by assumption))) | exact io_4 hG_ (by assumption) | exact io_5 hG_ (by assumption))).2.symm | exact (rs_t (l := l) (hh := hh) (ok := iO l hh) (io_t (by omega) (by assumption) (fun j hj => hrow j (by omega)) hG_ (by assumption) (by assumption)) hG_).2 | exact (rs_t (l := l) (hh := hh) (ok := iO l hh) (io_t (by omega) (by assumption) (fun j hj => hrow j (by omega)) hG_ (by assumption) (by assumption)) hG_).2.symm
         exact ⟨rfl, H20⟩


