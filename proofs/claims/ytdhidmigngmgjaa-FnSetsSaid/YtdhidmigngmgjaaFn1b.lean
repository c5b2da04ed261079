/-
  Contracts: validity, codes. No conditions.
-/
import Derived.Test.YtdhidmigngmgjaaTy
import Derived.Test.YtdhidmigngmgjaaSl
import Derived.Test.YtdhidmigngmgjaaMth
import Derived.Test.YtdhidmigngmgjaaFn1
namespace Go.Proofs.Ytdhidmigngmgjaa
open Go.RowKit
set_option linter.unusedSimpArgs false
set_option linter.unusedVariables false
set_option maxHeartbeats 4000000
set_option maxRecDepth 100000
attribute [local irreducible] wpList Code.wp
--# iValidField_any
theorem iValidField_any (F : Fld) (hF : F.wf) (w : World) :
 Calls Try.prog 50 #[.agg F.cells] w fun e w' => e = .returned (.bool (okB F)) ∧ Ext w w' := by
 have w1_ := hF.w1
 have w2_ := hF.w2
 have h1_ := hF.h1
 have h2_ := hF.h2
 refine calls_of_wp Try.func50 rfl ?_
 refine wp_frame (a' := ⟨#[.agg F.cells, undef, undef, undef, undef, undef, undef, undef, undef, undef, undef, undef, undef, undef, undef, undef, undef, undef, undef, undef, undef, undef, undef, undef, undef, undef, undef, undef, undef, undef, undef, undef, undef, undef, undef, undef, undef, undef, undef, undef, undef, undef, undef, undef, undef, undef, undef, undef, undef, undef, undef, undef, undef, undef, undef, undef, undef, undef, undef, undef, undef, undef, undef, undef, undef, undef, undef], []⟩) (by kernel_rfl) ?_
 refine wsr ?_
 refine wbox F.cells ?_
 intro g1 w1 B1 E1 _
 refine wv (.bool false) ?_
 refine wpList_nil (then_normal ?_)
 refine wp_seq ?_
 refine wsr ?_
 refine wv (.pointer (some ⟨g1, 0, none⟩)) ?_
 refine wld g1 (0) scal_int8 (B1.get (Fld.get0 _)) ?_
 refine wi64 F.w ?_
 refine wcl (within_any F.w 1 10 _) ?_
 intro w2 E2
 refine wv (.bool (!(inB F.w 1 10))) ?_
 refine wv (.bool (!(inB F.w 1 10))) ?_
 have H1 := ((Ext.refl w).trans E1).trans E2
 refine split_bool (inB F.w 1 10) (fun h1 => ?_) (fun h1 => ?_)
 · skip
   refine wbl 11 false (bnT h1) ?_
   have h1d := inT h1
   refine wv (.pointer (some ⟨g1, 1, none⟩)) ?_
   replace B1 := B1.ext E2
   refine wld g1 (1) scal_int8 (B1.get (Fld.get1 _)) ?_
   refine wi64 F.h ?_
   refine wcl (within_any F.h 1 10 _) ?_
   intro w3 E3
   refine wv (.bool (!(inB F.h 1 10))) ?_
   refine wv (.bool (!(inB F.h 1 10))) ?_
   refine wpList_nil (then_normal ?_)
   refine wsplit (!(inB F.h 1 10)) (fun h2 => ?_) (fun h2 => ?_)
   · skip
     replace h2 := nbT h2
     have h2d := inF h2
     refine wsr ?_
     refine wv (.bool false) ?_
     refine wpList_nil (then_normal ?_)
     refine wp_ret ?_
     refine then_ret ?_
     have H2 := H1.trans E3
     refine ret1 (.bool (okB F)) rfl ?_ rfl ?_
     · refine (resT (v := .bool false) (by kernel_rfl)).trans ?_
       refine congrArg Value.bool ?_
       first | exact (okB_w (by omega)).symm | exact (okB_h (by omega)).symm | exact (okB_true.2 ⟨by omega, by omega, by omega, by omega, fun j hj => hall j (by omega)⟩).symm | skip
       all_goals (refine (okB_c i (by omega) ?_).symm)
       all_goals (first | (rw [celB_in (by assumption)]; exact decide_eq_false (by omega)) | (rw [celB_out (by assumption)]; exact decide_eq_false (by omega)) | (cases hq_ : isB F (i : Int) with | false => (rw [celB_out hq_]; exact decide_eq_false (by omega)) | true => (rw [celB_in hq_]; exact decide_eq_false (by omega))))
     exact ⟨rfl, H2⟩
   · skip
     replace h2 := nbF h2
     have h2d := inT h2
     refine wp_skip ?_
     refine then_normal ?_
     refine wp_seq ?_
     refine wsr ?_
     refine wv (.int .i64 0) ?_
     refine wpList_nil (then_normal ?_)
     refine wp_block ?_
     replace B1 := B1.ext E3
     have H3 := H1.trans E3
     refine wp_loop_k (fun m1 a wl1 => ∃ (i : Nat), m1 = 100 - i ∧ i ≤ 100 ∧ (∀ j, j < i → celB F j = true) ∧ Ext w wl1 ∧ Blk wl1 g1 29 F.cells ∧ (∃ J1 : Nat → Value, a = ⟨#[.agg F.cells, .pointer (some ⟨g1, 0, none⟩), J1 2, J1 3, J1 4, J1 5, .pointer (some ⟨g1, 0, none⟩), .int .i8 F.w, .int .i64 F.w, .bool (inB F.w 1 10), .bool (!(inB F.w 1 10)), .bool false, .pointer (some ⟨g1, 1, none⟩), .int .i8 F.h, .int .i64 F.h, .bool (inB F.h 1 10), .bool (!(inB F.h 1 10)), .bool (!(inB F.h 1 10)), .int .i64 (i : Int), J1 19, J1 20, J1 21, J1 22, J1 23, J1 24, J1 25, J1 26, J1 27, J1 28, J1 29, J1 30, J1 31, J1 32, J1 33, J1 34, J1 35, J1 36, J1 37, J1 38, J1 39, J1 40, J1 41, J1 42, J1 43, J1 44, J1 45, J1 46, J1 47, J1 48, J1 49, J1 50, J1 51, J1 52, J1 53, J1 54, J1 55, J1 56, J1 57, J1 58, J1 59, J1 60, J1 61, J1 62, J1 63, J1 64, J1 65, J1 66], []⟩)) (100) ?_ ?_
     · refine ⟨0, rfl, ?_, ?_, H3, B1, exJ (by kernel_rfl)⟩
       · omega
       · intro j hj; omega
     intro m1 a wl1 hI
     obtain ⟨i, rfl, hi_, hall, HL1, B1, J1, rfl⟩ := hI
     have hk_ := hF.k1 i
     have hs_ := hF.s1 i
     refine wsr ?_
     refine wv (.bool (decide ((i : Int) < 100))) ?_
     refine wpList_nil (then_normal ?_)
     refine wp_seq ?_
     refine wsplit (decide ((i : Int) < 100)) (fun h3 => ?_) (fun h3 => ?_)
     · skip
       have h3d := dT h3
       refine wp_skip ?_
       refine then_normal ?_
       refine wp_seq ?_
       refine wp_block ?_
       refine wsr ?_
       refine wv (.int .i64 (i : Int)) ?_
       refine wv (.int .i64 (i : Int)) ?_
       refine wpList_nil (then_normal ?_)
       refine wp_seq ?_
       refine wp_frame (a' := ⟨#[.agg F.cells, .pointer (some ⟨g1, 0, none⟩), J1 2, .int .i64 (i : Int), J1 4, J1 5, .pointer (some ⟨g1, 0, none⟩), .int .i8 F.w, .int .i64 F.w, .bool (inB F.w 1 10), .bool (!(inB F.w 1 10)), .bool false, .pointer (some ⟨g1, 1, none⟩), .int .i8 F.h, .int .i64 F.h, .bool (inB F.h 1 10), .bool (!(inB F.h 1 10)), .bool (!(inB F.h 1 10)), .int .i64 (i : Int), .bool (decide ((i : Int) < 100)), .int .i64 (i : Int), J1 21, J1 22, J1 23, J1 24, J1 25, J1 26, J1 27, J1 28, J1 29, J1 30, J1 31, J1 32, J1 33, J1 34, J1 35, J1 36, J1 37, J1 38, J1 39, J1 40, J1 41, J1 42, J1 43, J1 44, J1 45, J1 46, J1 47, J1 48, J1 49, J1 50, J1 51, J1 52, J1 53, J1 54, J1 55, J1 56, J1 57, J1 58, J1 59, J1 60, J1 61, J1 62, J1 63, J1 64, J1 65, J1 66], []⟩) (by kernel_rfl) ?_
       have ce1 := hF.k1 i (by omega)
       have ce2 := hF.s1 i (by omega)
       refine region_go 11 [21, 22, 23, 24, 25, 26, 27, 28, 29, 4, 5] [[], [], [1, 0], [2], [], [], [5, 4], [6], [7], [3], [8]]
        (fun i_ => ([.val (.int .i64 (i : Int)), .val (.pointer (some ⟨g1, 2, none⟩)), .val (.pointer (some ⟨g1, 2 + i, none⟩)), .val (.int .u8 (F.k i)), .val (.int .i64 (i : Int)), .val (.pointer (some ⟨g1, 102, none⟩)), .val (.pointer (some ⟨g1, 102 + i, none⟩)), .val (.int .i16 (F.s i)), .val (.int .i64 (F.s i)), .val (.int .u8 (F.k i)), .val (.int .i64 (F.s i))] : List Fct).getD i_ .any)
        (by kernel_rfl) (by kernel_rfl) (by decide) (by simp) rfl (all_succ (all_succ (all_succ (all_succ (all_succ (all_succ (all_succ (all_succ (all_succ (all_succ (all_succ all_zero ?_) ?_) ?_) ?_) ?_) ?_) ?_) ?_) ?_) ?_) ?_) ?_
       · refine step0 rfl rfl rfl (fun wr hw => ?_)
         exact OpRun.val (.int .i64 (i : Int)) (.int .i64 (i : Int)) (by kernel_rfl) rfl ⟨Ext.refl _, rfl⟩
       · refine step0 rfl rfl rfl (fun wr hw => ?_)
         exact OpRun.val (.pointer (some ⟨g1, 2, none⟩)) (.pointer (some ⟨g1, 2, none⟩)) (by kernel_rfl) rfl ⟨Ext.refl _, rfl⟩
       · refine step2 rfl rfl rfl rfl rfl (fun u0 u1 wr hw h0 h1 => ?_)
         cases h0
         cases h1
         exact OpRun.ixan (i := i) (k := .i64) (g := g1) (off := 2) arrt__100_uint8 rfl (by kernel_rfl) (by kernel_rfl) (by omega) ⟨Ext.refl _, rfl⟩
       · refine step1 rfl rfl rfl rfl (fun u0 wr hw h0 => ?_)
         cases h0
         exact OpRun.cell (g := g1) (off := 2 + i) (v := .int .u8 (F.k i)) scal_uint8 rfl (by kernel_rfl) ((B1.ext hw).get (Fld.getk _ _ (by omega))) ⟨Ext.refl _, rfl⟩
       · refine step0 rfl rfl rfl (fun wr hw => ?_)
         exact OpRun.val (.int .i64 (i : Int)) (.int .i64 (i : Int)) (by kernel_rfl) rfl ⟨Ext.refl _, rfl⟩
       · refine step0 rfl rfl rfl (fun wr hw => ?_)
         exact OpRun.val (.pointer (some ⟨g1, 102, none⟩)) (.pointer (some ⟨g1, 102, none⟩)) (by kernel_rfl) rfl ⟨Ext.refl _, rfl⟩
       · refine step2 rfl rfl rfl rfl rfl (fun u0 u1 wr hw h0 h1 => ?_)
         cases h0
         cases h1
         exact OpRun.ixan (i := i) (k := .i64) (g := g1) (off := 102) arrt__100_int16 rfl (by kernel_rfl) (by kernel_rfl) (by omega) ⟨Ext.refl _, rfl⟩
       · refine step1 rfl rfl rfl rfl (fun u0 wr hw h0 => ?_)
         cases h0
         exact OpRun.cell (g := g1) (off := 102 + i) (v := .int .i16 (F.s i)) scal_int16 rfl (by kernel_rfl) ((B1.ext hw).get (Fld.gets _ _ (by omega))) ⟨Ext.refl _, rfl⟩
       · refine step1 rfl rfl rfl rfl (fun u0 wr hw h0 => ?_)
         cases h0
         exact OpRun.val (.int .i64 (IntKind.i64.wrap (F.s i))) (.int .i64 (F.s i)) (by kernel_rfl) (by exact congrArg _ (IntWalk.i64_in _ (by omega))) ⟨Ext.refl _, rfl⟩
       · refine step1 rfl rfl rfl rfl (fun u0 wr hw h0 => ?_)
         cases h0
         exact OpRun.val (.int .u8 (F.k i)) (.int .u8 (F.k i)) (by kernel_rfl) rfl ⟨Ext.refl _, rfl⟩
       · refine step1 rfl rfl rfl rfl (fun u0 wr hw h0 => ?_)
         cases h0
         exact OpRun.val (.int .i64 (F.s i)) (.int .i64 (F.s i)) (by kernel_rfl) rfl ⟨Ext.refl _, rfl⟩
       refine end11 (fun u0 u1 u2 u3 u4 u5 u6 u7 u8 u9 u10 w4 E4 f0 f1 f2 f3 f4 f5 f6 f7 f8 f9 f10 => ?_)
       cases f0
       cases f1
       cases f2
       cases f3
       cases f4
       cases f5
       cases f6
       cases f7
       cases f8
       cases f9
       cases f10
       refine wpList_nil (then_normal ?_)
       refine wp_block ?_
       refine wsr ?_
       refine wv (.int .i64 (i : Int)) ?_
       replace B1 := B1.ext E4
       refine wcl (has_any F hF g1 _ (i : Int) _ B1) ?_
       intro w5 E5
       refine wv (.bool (!(isB F (i : Int)))) ?_
       refine wv (.bool (!(isB F (i : Int)))) ?_
       have H4 := (HL1.trans E4).trans E5
       refine split_bool (isB F (i : Int)) (fun h4 => ?_) (fun h4 => ?_)
       · skip
         refine wbl 34 false (bnT h4) ?_
         have h4d := isB_true.1 h4
         refine wsk ?_
         refine wsk ?_
         refine wv (.bool false) ?_
         refine wv (.bool false) ?_
         refine wv (.int .u8 (F.k i)) ?_
         refine wv (.bool (decide (3 < F.k i))) ?_
         refine wv (.bool (decide (3 < F.k i))) ?_
         refine wv (.bool (decide (3 < F.k i))) ?_
         refine wpList_nil (then_normal ?_)
         refine wsplit (decide (3 < F.k i)) (fun h5 => ?_) (fun h5 => ?_)
         · skip
           have h5d := dT h5
           refine wsr ?_
           refine wv (.bool false) ?_
           refine wpList_nil (then_normal ?_)
           refine wp_ret ?_
           refine block_ret (block_ret (then_ret (then_ret (block_ret (then_ret ?_)))))
           refine ret1 (.bool (okB F)) rfl ?_ rfl ?_
           · refine (resT (v := .bool false) (by kernel_rfl)).trans ?_
             refine congrArg Value.bool ?_
             first | exact (okB_w (by omega)).symm | exact (okB_h (by omega)).symm | exact (okB_true.2 ⟨by omega, by omega, by omega, by omega, fun j hj => hall j (by omega)⟩).symm | skip
             all_goals (refine (okB_c i (by omega) ?_).symm)
             all_goals (first | (rw [celB_in (by assumption)]; exact decide_eq_false (by omega)) | (rw [celB_out (by assumption)]; exact decide_eq_false (by omega)) | (cases hq_ : isB F (i : Int) with | false => (rw [celB_out hq_]; exact decide_eq_false (by omega)) | true => (rw [celB_in hq_]; exact decide_eq_false (by omega))))
           exact ⟨rfl, H4⟩
         · skip
           have h5d := dF h5
           refine wsr ?_
           refine wv (.int .i64 (i : Int)) ?_
           replace B1 := B1.ext E5
           refine wcl (has_any F hF g1 _ (i : Int) _ B1) ?_
           intro w6 E6
           refine wbl 44 true h4 ?_
           refine wv (.bool true) ?_
           refine wv (.int .u8 (F.k i)) ?_
           refine wv (.bool ((F.k i) == 0)) ?_
           refine wv (.bool ((F.k i) == 0)) ?_
           refine wv (.bool ((F.k i) == 0)) ?_
           refine split_bool ((F.k i) == 0) (fun h6 => ?_) (fun h6 => ?_)
           · skip
             refine wbl 49 true h6 ?_
             have h6d := eT h6
             refine wv (.int .i64 (F.s i)) ?_
             refine wcl (within_any (F.s i) 0 1000 _) ?_
             intro w7 E7
             refine wv (.bool (!(inB (F.s i) 0 1000))) ?_
             refine wv (.bool (!(inB (F.s i) 0 1000))) ?_
             refine wv (.bool (!(inB (F.s i) 0 1000))) ?_
             refine wpList_nil (then_normal ?_)
             refine wp_frame (a' := ⟨#[.agg F.cells, .pointer (some ⟨g1, 0, none⟩), J1 2, .int .i64 (i : Int), .int .u8 (F.k i), .int .i64 (F.s i), .pointer (some ⟨g1, 0, none⟩), .int .i8 F.w, .int .i64 F.w, .bool (inB F.w 1 10), .bool (!(inB F.w 1 10)), .bool false, .pointer (some ⟨g1, 1, none⟩), .int .i8 F.h, .int .i64 F.h, .bool (inB F.h 1 10), .bool (!(inB F.h 1 10)), .bool (!(inB F.h 1 10)), .int .i64 (i : Int), .bool (decide ((i : Int) < 100)), .int .i64 (i : Int), .int .i64 (i : Int), .pointer (some ⟨g1, 2, none⟩), .pointer (some ⟨g1, 2 + i, none⟩), .int .u8 (F.k i), .int .i64 (i : Int), .pointer (some ⟨g1, 102, none⟩), .pointer (some ⟨g1, 102 + i, none⟩), .int .i16 (F.s i), .int .i64 (F.s i), .bool (decide (3 < F.k i)), .int .i64 (i : Int), .bool (isB F (i : Int)), .bool (!(isB F (i : Int))), .bool false, undef, undef, .bool false, .bool false, .int .u8 (F.k i), .bool (decide (3 < F.k i)), .bool (decide (3 < F.k i)), .bool (!(inB (F.s i) 0 1000)), .int .i64 (i : Int), .bool true, .bool true, .int .u8 (F.k i), .bool ((F.k i) == 0), .bool ((F.k i) == 0), .bool true, .int .i64 (F.s i), .bool (inB (F.s i) 0 1000), .bool (!(inB (F.s i) 0 1000)), .bool (!(inB (F.s i) 0 1000)), J1 54, J1 55, J1 56, J1 57, J1 58, J1 59, J1 60, J1 61, J1 62, J1 63, J1 64, J1 65, J1 66], []⟩) (by kernel_rfl) ?_
             have H5 := (H4.trans E6).trans E7
             refine wsplit (!(inB (F.s i) 0 1000)) (fun h7 => ?_) (fun h7 => ?_)
             · skip
               replace h7 := nbT h7
               have h7d := inF h7
               refine wsr ?_
               refine wv (.bool false) ?_
               refine wpList_nil (then_normal ?_)
               refine wp_ret ?_
               refine block_ret (block_ret (then_ret (then_ret (block_ret (then_ret ?_)))))
               refine ret1 (.bool (okB F)) rfl ?_ rfl ?_
               · refine (resT (v := .bool false) (by kernel_rfl)).trans ?_
                 refine congrArg Value.bool ?_
                 first | exact (okB_w (by omega)).symm | exact (okB_h (by omega)).symm | exact (okB_true.2 ⟨by omega, by omega, by omega, by omega, fun j hj => hall j (by omega)⟩).symm | skip
                 all_goals (refine (okB_c i (by omega) ?_).symm)
                 all_goals (first | (rw [celB_in (by assumption)]; exact decide_eq_false (by omega)) | (rw [celB_out (by assumption)]; exact decide_eq_false (by omega)) | (cases hq_ : isB F (i : Int) with | false => (rw [celB_out hq_]; exact decide_eq_false (by omega)) | true => (rw [celB_in hq_]; exact decide_eq_false (by omega))))
               exact ⟨rfl, H5⟩
             · skip
               replace h7 := nbF h7
               have h7d := inT h7
               refine wsr ?_
               refine wv (.int .i64 (i : Int)) ?_
               replace B1 := (B1.ext E6).ext E7
               refine wcl (has_any F hF g1 _ (i : Int) _ B1) ?_
               intro w8 E8
               refine wbl 56 true h4 ?_
               refine wv (.bool false) ?_
               refine wv (.bool false) ?_
               refine wv (.int .u8 (F.k i)) ?_
               refine wv (.bool ((F.k i) != 0)) ?_
               refine wv (.bool ((F.k i) != 0)) ?_
               refine wv (.bool ((F.k i) != 0)) ?_
               refine split_bool ((F.k i) != 0) (fun h8 => ?_) (fun h8 => ?_)
               · skip
                 refine wbl 62 true h8 ?_
                 have h8d := nT h8
                 refine wv (.int .i64 (F.s i)) ?_
                 refine wv (.bool ((F.s i) != 0)) ?_
                 refine wv (.bool ((F.s i) != 0)) ?_
                 refine wv (.bool ((F.s i) != 0)) ?_
                 refine wpList_nil (then_normal ?_)
                 refine wsplit ((F.s i) != 0) (fun h9 => ?_) (fun h9 => ?_)
                 · skip
                   have h9d := nT h9
                   refine wsr ?_
                   refine wv (.bool false) ?_
                   refine wpList_nil (then_normal ?_)
                   refine wp_ret ?_
                   refine block_ret (block_ret (then_ret (then_ret (block_ret (then_ret ?_)))))
                   have H6 := H5.trans E8
                   refine ret1 (.bool (okB F)) rfl ?_ rfl ?_
                   · refine (resT (v := .bool false) (by kernel_rfl)).trans ?_
                     refine congrArg Value.bool ?_
                     first | exact (okB_w (by omega)).symm | exact (okB_h (by omega)).symm | exact (okB_true.2 ⟨by omega, by omega, by omega, by omega, fun j hj => hall j (by omega)⟩).symm | skip
                     all_goals (refine (okB_c i (by omega) ?_).symm)
                     all_goals (first | (rw [celB_in (by assumption)]; exact decide_eq_false (by omega)) | (rw [celB_out (by assumption)]; exact decide_eq_false (by omega)) | (cases hq_ : isB F (i : Int) with | false => (rw [celB_out hq_]; exact decide_eq_false (by omega)) | true => (rw [celB_in hq_]; exact decide_eq_false (by omega))))
                   exact ⟨rfl, H6⟩
                 · skip
                   have h9d := nF h9
                   refine wp_skip ?_
                   refine block_normal (block_normal (then_normal ?_))
                   refine wp_region_lit ?_
                   refine wi64 ((i : Int) + 1) ?_
                   refine wv (.int .i64 ((i : Int) + 1)) ?_
                   refine wpList_nil (then_normal ?_)
                   replace B1 := B1.ext E8
                   have H7 := H5.trans E8
                   refine ⟨_, ?_, i + 1, rfl, ?_, ?_, H7, B1, exJ (by kernel_rfl)⟩
                   · omega
                   · omega
                   · refine all_step hall ?_
                     first | (rw [celB_in (by assumption)]; exact decide_eq_true (by omega)) | (rw [celB_out (by assumption)]; exact decide_eq_true (by omega))
               · skip
                 refine wbl 62 false h8 ?_
                 have h8d := nF h8
                 refine wsk ?_
                 refine wsk ?_
                 refine wv (.bool false) ?_
                 refine wv (.bool false) ?_
                 refine wpList_nil (then_normal ?_)
                 refine wcf ?_
                 refine wp_skip ?_
                 refine block_normal (block_normal (then_normal ?_))
                 refine wp_region_lit ?_
                 refine wi64 ((i : Int) + 1) ?_
                 refine wv (.int .i64 ((i : Int) + 1)) ?_
                 refine wpList_nil (then_normal ?_)
                 replace B1 := B1.ext E8
                 have H8 := H5.trans E8
                 refine ⟨_, ?_, i + 1, rfl, ?_, ?_, H8, B1, exJ (by kernel_rfl)⟩
                 · omega
                 · omega
                 · refine all_step hall ?_
                   first | (rw [celB_in (by assumption)]; exact decide_eq_true (by omega)) | (rw [celB_out (by assumption)]; exact decide_eq_true (by omega))
           · skip
             refine wbl 49 false h6 ?_
             have h6d := eF h6
             refine wsk ?_
             refine wsk ?_
             refine wsk ?_
             refine wv (.bool false) ?_
             refine wv (.bool false) ?_
             refine wpList_nil (then_normal ?_)
             refine wp_frame (a' := ⟨#[.agg F.cells, .pointer (some ⟨g1, 0, none⟩), J1 2, .int .i64 (i : Int), .int .u8 (F.k i), .int .i64 (F.s i), .pointer (some ⟨g1, 0, none⟩), .int .i8 F.w, .int .i64 F.w, .bool (inB F.w 1 10), .bool (!(inB F.w 1 10)), .bool false, .pointer (some ⟨g1, 1, none⟩), .int .i8 F.h, .int .i64 F.h, .bool (inB F.h 1 10), .bool (!(inB F.h 1 10)), .bool (!(inB F.h 1 10)), .int .i64 (i : Int), .bool (decide ((i : Int) < 100)), .int .i64 (i : Int), .int .i64 (i : Int), .pointer (some ⟨g1, 2, none⟩), .pointer (some ⟨g1, 2 + i, none⟩), .int .u8 (F.k i), .int .i64 (i : Int), .pointer (some ⟨g1, 102, none⟩), .pointer (some ⟨g1, 102 + i, none⟩), .int .i16 (F.s i), .int .i64 (F.s i), .bool (decide (3 < F.k i)), .int .i64 (i : Int), .bool (isB F (i : Int)), .bool (!(isB F (i : Int))), .bool false, undef, undef, .bool false, .bool false, .int .u8 (F.k i), .bool (decide (3 < F.k i)), .bool (decide (3 < F.k i)), .bool false, .int .i64 (i : Int), .bool true, .bool true, .int .u8 (F.k i), .bool ((F.k i) == 0), .bool ((F.k i) == 0), .bool false, undef, undef, undef, .bool false, J1 54, J1 55, J1 56, J1 57, J1 58, J1 59, J1 60, J1 61, J1 62, J1 63, J1 64, J1 65, J1 66], []⟩) (by kernel_rfl) ?_
             refine wcf ?_
             refine wsr ?_
             refine wv (.int .i64 (i : Int)) ?_
             replace B1 := B1.ext E6
             refine wcl (has_any F hF g1 _ (i : Int) _ B1) ?_
             intro w9 E9
             refine wbl 56 true h4 ?_
             refine wv (.bool false) ?_
             refine wv (.bool false) ?_
             refine wv (.int .u8 (F.k i)) ?_
             refine wv (.bool ((F.k i) != 0)) ?_
             refine wv (.bool ((F.k i) != 0)) ?_
             refine wv (.bool ((F.k i) != 0)) ?_
             have H9 := (H4.trans E6).trans E9
             refine split_bool ((F.k i) != 0) (fun h10 => ?_) (fun h10 => ?_)
             · skip
               refine wbl 62 true h10 ?_
               have h10d := nT h10
               refine wv (.int .i64 (F.s i)) ?_
               refine wv (.bool ((F.s i) != 0)) ?_
               refine wv (.bool ((F.s i) != 0)) ?_
               refine wv (.bool ((F.s i) != 0)) ?_
               refine wpList_nil (then_normal ?_)
               refine wsplit ((F.s i) != 0) (fun h11 => ?_) (fun h11 => ?_)
               · skip
                 have h11d := nT h11
                 refine wsr ?_
                 refine wv (.bool false) ?_
                 refine wpList_nil (then_normal ?_)
                 refine wp_ret ?_
                 refine block_ret (block_ret (then_ret (then_ret (block_ret (then_ret ?_)))))
                 refine ret1 (.bool (okB F)) rfl ?_ rfl ?_
                 · refine (resT (v := .bool false) (by kernel_rfl)).trans ?_
                   refine congrArg Value.bool ?_
                   first | exact (okB_w (by omega)).symm | exact (okB_h (by omega)).symm | exact (okB_true.2 ⟨by omega, by omega, by omega, by omega, fun j hj => hall j (by omega)⟩).symm | skip
                   all_goals (refine (okB_c i (by omega) ?_).symm)
                   all_goals (first | (rw [celB_in (by assumption)]; exact decide_eq_false (by omega)) | (rw [celB_out (by assumption)]; exact decide_eq_false (by omega)) | (cases hq_ : isB F (i : Int) with | false => (rw [celB_out hq_]; exact decide_eq_false (by omega)) | true => (rw [celB_in hq_]; exact decide_eq_false (by omega))))
                 exact ⟨rfl, H9⟩
               · skip
                 have h11d := nF h11
                 refine wp_skip ?_
                 refine block_normal (block_normal (then_normal ?_))
                 refine wp_region_lit ?_
                 refine wi64 ((i : Int) + 1) ?_
                 refine wv (.int .i64 ((i : Int) + 1)) ?_
                 refine wpList_nil (then_normal ?_)
                 replace B1 := B1.ext E9
                 refine ⟨_, ?_, i + 1, rfl, ?_, ?_, H9, B1, exJ (by kernel_rfl)⟩
                 · omega
                 · omega
                 · refine all_step hall ?_
                   first | (rw [celB_in (by assumption)]; exact decide_eq_true (by omega)) | (rw [celB_out (by assumption)]; exact decide_eq_true (by omega))
             · skip
               refine wbl 62 false h10 ?_
               have h10d := nF h10
               refine wsk ?_
               refine wsk ?_
               refine wv (.bool false) ?_
               refine wv (.bool false) ?_
               refine wpList_nil (then_normal ?_)
               refine wcf ?_
               refine wp_skip ?_
               refine block_normal (block_normal (then_normal ?_))
               refine wp_region_lit ?_
               refine wi64 ((i : Int) + 1) ?_
               refine wv (.int .i64 ((i : Int) + 1)) ?_
               refine wpList_nil (then_normal ?_)
               replace B1 := B1.ext E9
               refine ⟨_, ?_, i + 1, rfl, ?_, ?_, H9, B1, exJ (by kernel_rfl)⟩
               · omega
               · omega
               · refine all_step hall ?_
                 first | (rw [celB_in (by assumption)]; exact decide_eq_true (by omega)) | (rw [celB_out (by assumption)]; exact decide_eq_true (by omega))
       · skip
         refine wbl 34 true (bnF h4) ?_
         refine wv (.int .u8 (F.k i)) ?_
         refine wv (.bool ((F.k i) != 0)) ?_
         refine wv (.bool ((F.k i) != 0)) ?_
         refine wv (.bool ((F.k i) != 0)) ?_
         refine split_bool ((F.k i) != 0) (fun h12 => ?_) (fun h12 => ?_)
         · skip
           refine wbl 38 true h12 ?_
           have h12d := nT h12
           refine wsk ?_
           refine wsk ?_
           refine wv (.bool true) ?_
           refine wv (.bool true) ?_
           refine wpList_nil (then_normal ?_)
           refine wct ?_
           refine wsr ?_
           refine wv (.bool false) ?_
           refine wpList_nil (then_normal ?_)
           refine wp_ret ?_
           refine block_ret (block_ret (then_ret (then_ret (block_ret (then_ret ?_)))))
           refine ret1 (.bool (okB F)) rfl ?_ rfl ?_
           · refine (resT (v := .bool false) (by kernel_rfl)).trans ?_
             refine congrArg Value.bool ?_
             first | exact (okB_w (by omega)).symm | exact (okB_h (by omega)).symm | exact (okB_true.2 ⟨by omega, by omega, by omega, by omega, fun j hj => hall j (by omega)⟩).symm | skip
             all_goals (refine (okB_c i (by omega) ?_).symm)
             all_goals (first | (rw [celB_in (by assumption)]; exact decide_eq_false (by omega)) | (rw [celB_out (by assumption)]; exact decide_eq_false (by omega)) | (cases hq_ : isB F (i : Int) with | false => (rw [celB_out hq_]; exact decide_eq_false (by omega)) | true => (rw [celB_in hq_]; exact decide_eq_false (by omega))))
           exact ⟨rfl, H4⟩
         · skip
           refine wbl 38 false h12 ?_
           have h12d := nF h12
           refine wv (.int .u8 (F.k i)) ?_
           refine wv (.bool (decide (3 < F.k i))) ?_
           refine wv (.bool (decide (3 < F.k i))) ?_
           refine wv (.bool (decide (3 < F.k i))) ?_
           refine wpList_nil (then_normal ?_)
           refine wsplit (decide (3 < F.k i)) (fun h13 => ?_) (fun h13 => ?_)
           · skip
             have h13d := dT h13
             refine wsr ?_
             refine wv (.bool false) ?_
             refine wpList_nil (then_normal ?_)
             refine wp_ret ?_
             refine block_ret (block_ret (then_ret (then_ret (block_ret (then_ret ?_)))))
             refine ret1 (.bool (okB F)) rfl ?_ rfl ?_
             · refine (resT (v := .bool false) (by kernel_rfl)).trans ?_
               refine congrArg Value.bool ?_
               first | exact (okB_w (by omega)).symm | exact (okB_h (by omega)).symm | exact (okB_true.2 ⟨by omega, by omega, by omega, by omega, fun j hj => hall j (by omega)⟩).symm | skip
               all_goals (refine (okB_c i (by omega) ?_).symm)
               all_goals (first | (rw [celB_in (by assumption)]; exact decide_eq_false (by omega)) | (rw [celB_out (by assumption)]; exact decide_eq_false (by omega)) | (cases hq_ : isB F (i : Int) with | false => (rw [celB_out hq_]; exact decide_eq_false (by omega)) | true => (rw [celB_in hq_]; exact decide_eq_false (by omega))))
             exact ⟨rfl, H4⟩
           · skip
             have h13d := dF h13
             refine wsr ?_
             refine wv (.int .i64 (i : Int)) ?_
             replace B1 := B1.ext E5
             refine wcl (has_any F hF g1 _ (i : Int) _ B1) ?_
             intro w10 E10
             refine wbl 44 false h4 ?_
             refine wv (.bool false) ?_
             refine wsk ?_
             refine wsk ?_
             refine wv (.bool false) ?_
             refine wv (.bool false) ?_
             refine wsk ?_
             refine wsk ?_
             refine wsk ?_
             refine wv (.bool false) ?_
             refine wv (.bool false) ?_
             refine wpList_nil (then_normal ?_)
             refine wp_frame (a' := ⟨#[.agg F.cells, .pointer (some ⟨g1, 0, none⟩), J1 2, .int .i64 (i : Int), .int .u8 (F.k i), .int .i64 (F.s i), .pointer (some ⟨g1, 0, none⟩), .int .i8 F.w, .int .i64 F.w, .bool (inB F.w 1 10), .bool (!(inB F.w 1 10)), .bool false, .pointer (some ⟨g1, 1, none⟩), .int .i8 F.h, .int .i64 F.h, .bool (inB F.h 1 10), .bool (!(inB F.h 1 10)), .bool (!(inB F.h 1 10)), .int .i64 (i : Int), .bool (decide ((i : Int) < 100)), .int .i64 (i : Int), .int .i64 (i : Int), .pointer (some ⟨g1, 2, none⟩), .pointer (some ⟨g1, 2 + i, none⟩), .int .u8 (F.k i), .int .i64 (i : Int), .pointer (some ⟨g1, 102, none⟩), .pointer (some ⟨g1, 102 + i, none⟩), .int .i16 (F.s i), .int .i64 (F.s i), .bool (decide (3 < F.k i)), .int .i64 (i : Int), .bool (isB F (i : Int)), .bool (!(isB F (i : Int))), .bool true, .int .u8 (F.k i), .bool ((F.k i) != 0), .bool ((F.k i) != 0), .bool false, .int .u8 (F.k i), .bool (decide (3 < F.k i)), .bool (decide (3 < F.k i)), .bool false, .int .i64 (i : Int), .bool false, .bool false, undef, undef, .bool false, .bool false, undef, undef, undef, .bool false, J1 54, J1 55, J1 56, J1 57, J1 58, J1 59, J1 60, J1 61, J1 62, J1 63, J1 64, J1 65, J1 66], []⟩) (by kernel_rfl) ?_
             refine wcf ?_
             refine wsr ?_
             refine wv (.int .i64 (i : Int)) ?_
             replace B1 := B1.ext E10
             refine wcl (has_any F hF g1 _ (i : Int) _ B1) ?_
             intro w11 E11
             refine wbl 56 false h4 ?_
             refine wv (.bool true) ?_
             refine wv (.bool true) ?_
             refine wsk ?_
             refine wsk ?_
             refine wv (.bool true) ?_
             refine wv (.bool true) ?_
             refine wv (.int .i64 (F.s i)) ?_
             refine wv (.bool ((F.s i) != 0)) ?_
             refine wv (.bool ((F.s i) != 0)) ?_
             refine wv (.bool ((F.s i) != 0)) ?_
             refine wpList_nil (then_normal ?_)
             have H10 := (H4.trans E10).trans E11
             refine wsplit ((F.s i) != 0) (fun h14 => ?_) (fun h14 => ?_)
             · skip
               have h14d := nT h14
               refine wsr ?_
               refine wv (.bool false) ?_
               refine wpList_nil (then_normal ?_)
               refine wp_ret ?_
               refine block_ret (block_ret (then_ret (then_ret (block_ret (then_ret ?_)))))
               refine ret1 (.bool (okB F)) rfl ?_ rfl ?_
               · refine (resT (v := .bool false) (by kernel_rfl)).trans ?_
                 refine congrArg Value.bool ?_
                 first | exact (okB_w (by omega)).symm | exact (okB_h (by omega)).symm | exact (okB_true.2 ⟨by omega, by omega, by omega, by omega, fun j hj => hall j (by omega)⟩).symm | skip
                 all_goals (refine (okB_c i (by omega) ?_).symm)
                 all_goals (first | (rw [celB_in (by assumption)]; exact decide_eq_false (by omega)) | (rw [celB_out (by assumption)]; exact decide_eq_false (by omega)) | (cases hq_ : isB F (i : Int) with | false => (rw [celB_out hq_]; exact decide_eq_false (by omega)) | true => (rw [celB_in hq_]; exact decide_eq_false (by omega))))
               exact ⟨rfl, H10⟩
             · skip
               have h14d := nF h14
               refine wp_skip ?_
               refine block_normal (block_normal (then_normal ?_))
               refine wp_region_lit ?_
               refine wi64 ((i : Int) + 1) ?_
               refine wv (.int .i64 ((i : Int) + 1)) ?_
               refine wpList_nil (then_normal ?_)
               replace B1 := B1.ext E11
               refine ⟨_, ?_, i + 1, rfl, ?_, ?_, H10, B1, exJ (by kernel_rfl)⟩
               · omega
               · omega
               · refine all_step hall ?_
                 first | (rw [celB_in (by assumption)]; exact decide_eq_true (by omega)) | (rw [celB_out (by assumption)]; exact decide_eq_true (by omega))
     · skip
       have h3d := dF h3
       refine wp_exit ?_
       refine then_exit ?_
       refine then_exit ?_
       refine block_exit ?_
       refine then_normal ?_
       refine wsr ?_
       refine wv (.bool true) ?_
       refine wpList_nil (then_normal ?_)
       refine wp_ret ?_
       refine ret1 (.bool (okB F)) rfl ?_ rfl ?_
       · refine (resT (v := .bool true) (by kernel_rfl)).trans ?_
         refine congrArg Value.bool ?_
         first | exact (okB_w (by omega)).symm | exact (okB_h (by omega)).symm | exact (okB_true.2 ⟨by omega, by omega, by omega, by omega, fun j hj => hall j (by omega)⟩).symm | skip
         all_goals (refine (okB_c i (by omega) ?_).symm)
         all_goals (first | (rw [celB_in (by assumption)]; exact decide_eq_false (by omega)) | (rw [celB_out (by assumption)]; exact decide_eq_false (by omega)) | (cases hq_ : isB F (i : Int) with | false => (rw [celB_out hq_]; exact decide_eq_false (by omega)) | true => (rw [celB_in hq_]; exact decide_eq_false (by omega))))
       exact ⟨rfl, HL1⟩
 · skip
   refine wbl 11 true (bnF h1) ?_
   have h1d := inF h1
   refine wsk ?_
   refine wsk ?_
   refine wsk ?_
   refine wsk ?_
   refine wsk ?_
   refine wv (.bool true) ?_
   refine wpList_nil (then_normal ?_)
   refine wct ?_
   refine wsr ?_
   refine wv (.bool false) ?_
   refine wpList_nil (then_normal ?_)
   refine wp_ret ?_
   refine then_ret ?_
   refine ret1 (.bool (okB F)) rfl ?_ rfl ?_
   · refine (resT (v := .bool false) (by kernel_rfl)).trans ?_
     refine congrArg Value.bool ?_
     first | exact (okB_w (by omega)).symm | exact (okB_h (by omega)).symm | exact (okB_true.2 ⟨by omega, by omega, by omega, by omega, fun j hj => hall j (by omega)⟩).symm | skip
     all_goals (refine (okB_c i (by omega) ?_).symm)
     all_goals (first | (rw [celB_in (by assumption)]; exact decide_eq_false (by omega)) | (rw [celB_out (by assumption)]; exact decide_eq_false (by omega)) | (cases hq_ : isB F (i : Int) with | false => (rw [celB_out hq_]; exact decide_eq_false (by omega)) | true => (rw [celB_in hq_]; exact decide_eq_false (by omega))))
   exact ⟨rfl, H1⟩


--# l01Asked_any
theorem l01Asked_any (F : Fld) (hF : F.wf) (b : Nat) (t : TypeId) (c : Int) (x : Bool) (B : Bool) (hB : (isB F c && x) = B) (w : World) (hb : Blk w b t F.cells) :
 Calls Try.prog 47 #[.pointer (some ⟨b, 0, none⟩), .int .i64 c, .bool x] w fun e w' => e = .returned (.int .i64 (code F B)) ∧ Ext w w' := by
 refine calls_of_wp Try.func47 rfl ?_
 refine wp_frame (a' := ⟨#[.pointer (some ⟨b, 0, none⟩), .int .i64 c, .bool x, undef, undef, undef, undef, undef, undef, undef, undef, undef, undef, undef, undef, undef, undef, undef], []⟩) (by kernel_rfl) ?_
 refine wsr ?_
 refine wv (.int .i64 0) ?_
 refine wpList_nil (then_normal ?_)
 refine wp_seq ?_
 refine wsr ?_
 refine wv (.pointer (some ⟨b, 0, none⟩)) ?_
 refine wcl (l01Ok_any F hF b _ _ hb) ?_
 intro w1 E1
 refine wv (.bool (!(okB F))) ?_
 refine wpList_nil (then_normal ?_)
 refine wsplit (!(okB F)) (fun h1 => ?_) (fun h1 => ?_)
 · skip
   replace h1 := nbT h1
   refine wsr ?_
   refine wv (.int .i64 1) ?_
   refine wpList_nil (then_normal ?_)
   refine wp_ret ?_
   refine then_ret ?_
   have H1 := (Ext.refl w).trans E1
   refine ret1 (.int .i64 (code F B)) rfl ?_ rfl ?_
   · refine (resT (v := .int .i64 1) (by kernel_rfl)).trans ?_
     refine congrArg (Value.int _) ?_
     first | exact (code_1 (by assumption)).symm | exact (code_2 (by assumption) (by simp [← hB, *])).symm | exact (code_0 (by assumption) (by simp [← hB, *])).symm
   exact ⟨rfl, H1⟩
 · skip
   replace h1 := nbF h1
   refine wp_skip ?_
   refine then_normal ?_
   refine wp_seq ?_
   refine wsr ?_
   refine wv (.pointer (some ⟨b, 0, none⟩)) ?_
   refine wv (.int .i64 c) ?_
   replace hb := hb.ext E1
   refine wcl (l01Is_any F hF b _ c _ hb) ?_
   intro w2 E2
   refine wv (.bool (!(isB F c))) ?_
   refine wv (.bool (!(isB F c))) ?_
   have H2 := ((Ext.refl w).trans E1).trans E2
   refine split_bool (isB F c) (fun h2 => ?_) (fun h2 => ?_)
   · skip
     refine wbl 14 false (bnT h2) ?_
     have h2d := isB_true.1 h2
     refine wv (.bool x) ?_
     refine wv (.bool (!x)) ?_
     refine wv (.bool (!x)) ?_
     refine wpList_nil (then_normal ?_)
     refine wsplit (!x) (fun h3 => ?_) (fun h3 => ?_)
     · skip
       replace h3 := nbT h3
       refine wsr ?_
       refine wv (.int .i64 2) ?_
       refine wpList_nil (then_normal ?_)
       refine wp_ret ?_
       refine then_ret ?_
       refine ret1 (.int .i64 (code F B)) rfl ?_ rfl ?_
       · refine (resT (v := .int .i64 2) (by kernel_rfl)).trans ?_
         refine congrArg (Value.int _) ?_
         first | exact (code_1 (by assumption)).symm | exact (code_2 (by assumption) (by simp [← hB, *])).symm | exact (code_0 (by assumption) (by simp [← hB, *])).symm
       exact ⟨rfl, H2⟩
     · skip
       replace h3 := nbF h3
       refine wp_skip ?_
       refine then_normal ?_
       refine wsr ?_
       refine wv (.int .i64 0) ?_
       refine wpList_nil (then_normal ?_)
       refine wp_ret ?_
       refine ret1 (.int .i64 (code F B)) rfl ?_ rfl ?_
       · refine (resT (v := .int .i64 0) (by kernel_rfl)).trans ?_
         refine congrArg (Value.int _) ?_
         first | exact (code_1 (by assumption)).symm | exact (code_2 (by assumption) (by simp [← hB, *])).symm | exact (code_0 (by assumption) (by simp [← hB, *])).symm
       exact ⟨rfl, H2⟩
   · skip
     refine wbl 14 true (bnF h2) ?_
     refine wsk ?_
     refine wsk ?_
     refine wv (.bool true) ?_
     refine wpList_nil (then_normal ?_)
     refine wct ?_
     refine wsr ?_
     refine wv (.int .i64 2) ?_
     refine wpList_nil (then_normal ?_)
     refine wp_ret ?_
     refine then_ret ?_
     refine ret1 (.int .i64 (code F B)) rfl ?_ rfl ?_
     · refine (resT (v := .int .i64 2) (by kernel_rfl)).trans ?_
       refine congrArg (Value.int _) ?_
       first | exact (code_1 (by assumption)).symm | exact (code_2 (by assumption) (by simp [← hB, *])).symm | exact (code_0 (by assumption) (by simp [← hB, *])).symm
     exact ⟨rfl, H2⟩

end Go.Proofs.Ytdhidmigngmgjaa
