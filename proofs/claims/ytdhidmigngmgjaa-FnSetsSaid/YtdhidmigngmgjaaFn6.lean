/-
  Contracts: the richest cell. No conditions.
-/
import Derived.Test.YtdhidmigngmgjaaTy
import Derived.Test.YtdhidmigngmgjaaSl
import Derived.Test.YtdhidmigngmgjaaMth
import Derived.Test.YtdhidmigngmgjaaFn5
namespace Go.Proofs.Ytdhidmigngmgjaa
open Go.RowKit
set_option linter.unusedSimpArgs false
set_option linter.unusedVariables false
set_option maxHeartbeats 4000000
set_option maxRecDepth 100000
attribute [local irreducible] wpList Code.wp
--# richest1_any
theorem richest1_any (a : Int) (b : Int) (ha : 0 ≤ a ∧ a ≤ 99) (hb : 0 ≤ b ∧ b ≤ 99) (F : Fld) (hF : F.wf) (b0 : Nat) (t0 : TypeId) (w : World) (hb0 : Blk w b0 t0 F.cells) :
 Calls Try.prog 52 #[.int .i64 a, .int .i64 b, .pointer (some ⟨b0, 0, none⟩)] w fun e w' => e = .returned (.bool (decide (F.s b.toNat < F.s a.toNat))) ∧ Ext w w' := by
 refine calls_of_wp Try.func52 rfl ?_
 refine wp_frame (a' := ⟨#[.int .i64 a, .int .i64 b, .pointer (some ⟨b0, 0, none⟩), undef, undef, undef, undef, undef, undef, undef, undef, undef, undef, undef, undef], []⟩) (by kernel_rfl) ?_
 refine wsr ?_
 refine wv (.bool false) ?_
 refine wpList_nil (then_normal ?_)
 refine wp_seq ?_
 refine wp_frame (a' := ⟨#[.int .i64 a, .int .i64 b, .pointer (some ⟨b0, 0, none⟩), undef, undef, .bool false, undef, undef, undef, undef, undef, undef, undef, undef, undef], []⟩) (by kernel_rfl) ?_
 have ce1 := hF.s1 ((a).toNat) (by omega)
 have ce2 := hF.s1 ((b).toNat) (by omega)
 refine region_go 10 [6, 7, 8, 9, 10, 11, 12, 13, 14, 5] [[], [], [1, 0], [2], [], [], [5, 4], [6], [3, 7], [8]]
  (fun i_ => ([.val (.int .i64 a), .val (.pointer (some ⟨b0, 102, none⟩)), .val (.pointer (some ⟨b0, 102 + (a).toNat, none⟩)), .val (.int .i16 (F.s ((a).toNat))), .val (.int .i64 b), .val (.pointer (some ⟨b0, 102, none⟩)), .val (.pointer (some ⟨b0, 102 + (b).toNat, none⟩)), .val (.int .i16 (F.s ((b).toNat))), .val (.bool (decide ((F.s ((b).toNat)) < F.s ((a).toNat)))), .val (.bool (decide ((F.s ((b).toNat)) < F.s ((a).toNat))))] : List Fct).getD i_ .any)
  (by kernel_rfl) (by kernel_rfl) (by decide) (by simp) rfl (all_succ (all_succ (all_succ (all_succ (all_succ (all_succ (all_succ (all_succ (all_succ (all_succ all_zero ?_) ?_) ?_) ?_) ?_) ?_) ?_) ?_) ?_) ?_) ?_
 · refine step0 rfl rfl rfl (fun wr hw => ?_)
   exact OpRun.val (.int .i64 a) (.int .i64 a) (by kernel_rfl) rfl ⟨Ext.refl _, rfl⟩
 · refine step0 rfl rfl rfl (fun wr hw => ?_)
   exact OpRun.val (.pointer (some ⟨b0, 102, none⟩)) (.pointer (some ⟨b0, 102, none⟩)) (by kernel_rfl) rfl ⟨Ext.refl _, rfl⟩
 · refine step2 rfl rfl rfl rfl rfl (fun u0 u1 wr hw h0 h1 => ?_)
   cases h0
   cases h1
   exact OpRun.ixa (i := a) (k := .i64) (g := b0) (off := 102) arrt__100_int16 rfl (by kernel_rfl) (by kernel_rfl) (by omega) (by omega) ⟨Ext.refl _, rfl⟩
 · refine step1 rfl rfl rfl rfl (fun u0 wr hw h0 => ?_)
   cases h0
   exact OpRun.cell (g := b0) (off := 102 + (a).toNat) (v := .int .i16 (F.s ((a).toNat))) scal_int16 rfl (by kernel_rfl) ((hb0.ext hw).get (Fld.gets _ _ (by omega))) ⟨Ext.refl _, rfl⟩
 · refine step0 rfl rfl rfl (fun wr hw => ?_)
   exact OpRun.val (.int .i64 b) (.int .i64 b) (by kernel_rfl) rfl ⟨Ext.refl _, rfl⟩
 · refine step0 rfl rfl rfl (fun wr hw => ?_)
   exact OpRun.val (.pointer (some ⟨b0, 102, none⟩)) (.pointer (some ⟨b0, 102, none⟩)) (by kernel_rfl) rfl ⟨Ext.refl _, rfl⟩
 · refine step2 rfl rfl rfl rfl rfl (fun u0 u1 wr hw h0 h1 => ?_)
   cases h0
   cases h1
   exact OpRun.ixa (i := b) (k := .i64) (g := b0) (off := 102) arrt__100_int16 rfl (by kernel_rfl) (by kernel_rfl) (by omega) (by omega) ⟨Ext.refl _, rfl⟩
 · refine step1 rfl rfl rfl rfl (fun u0 wr hw h0 => ?_)
   cases h0
   exact OpRun.cell (g := b0) (off := 102 + (b).toNat) (v := .int .i16 (F.s ((b).toNat))) scal_int16 rfl (by kernel_rfl) ((hb0.ext hw).get (Fld.gets _ _ (by omega))) ⟨Ext.refl _, rfl⟩
 · refine step2 rfl rfl rfl rfl rfl (fun u0 u1 wr hw h0 h1 => ?_)
   cases h0
   cases h1
   exact OpRun.val (.bool (decide ((F.s ((b).toNat)) < F.s ((a).toNat)))) (.bool (decide ((F.s ((b).toNat)) < F.s ((a).toNat)))) (by kernel_rfl) rfl ⟨Ext.refl _, rfl⟩
 · refine step1 rfl rfl rfl rfl (fun u0 wr hw h0 => ?_)
   cases h0
   exact OpRun.val (.bool (decide ((F.s ((b).toNat)) < F.s ((a).toNat)))) (.bool (decide ((F.s ((b).toNat)) < F.s ((a).toNat)))) (by kernel_rfl) rfl ⟨Ext.refl _, rfl⟩
 refine end10 (fun u0 u1 u2 u3 u4 u5 u6 u7 u8 u9 w1 E1 f0 f1 f2 f3 f4 f5 f6 f7 f8 f9 => ?_)
 cases f0
 cases f1
 cases f2
 cases f3
 cases f4
 cases f5
 cases f6
 cases f7
 cases f8
 cases f9
 refine wpList_nil (then_normal ?_)
 refine wp_ret ?_
 have H1 := (Ext.refl w).trans E1
 refine ret1 (.bool (decide (F.s b.toNat < F.s a.toNat))) rfl ?_ rfl ?_
 · refine (resT (v := .bool (decide ((F.s ((b).toNat)) < F.s ((a).toNat)))) (by kernel_rfl)).trans ?_
   refine congrArg Value.bool ?_
   rfl
 exact ⟨rfl, H1⟩


--# sRichestIn_any
theorem sRichestIn_any (F : Fld) (hF : F.wf) (x y : Int) (w : World) :
 Calls Try.prog 22 #[.agg F.cells, .agg #[.int .u64 x, .int .u64 y]] w fun e w' => e = .returned (.tuple #[.int .i64 (rich0 F x y), .int .i64 (rich1 F x y), .int .i64 (rich2 F x y)]) ∧ Ext w w' := by
 refine calls_of_wp Try.func22 rfl ?_
 refine wp_frame (a' := ⟨#[.agg F.cells, .agg #[.int .u64 x, .int .u64 y], undef, undef, undef, undef, undef, undef, undef, undef, undef, undef, undef, undef, undef, undef, undef, undef, undef, undef, undef, undef, undef, undef, undef, undef, undef, undef, undef, undef, undef, undef, undef, undef, undef, undef, undef, undef, undef, undef, undef, undef, undef, undef, undef], []⟩) (by kernel_rfl) ?_
 refine wsr ?_
 refine wbox F.cells ?_
 intro g1 w1 B1 E1 _
 refine wbox #[.int .u64 x, .int .u64 y] ?_
 intro g2 w2 B2 E2 _
 refine wv (.int .i64 0) ?_
 refine wv (.int .i64 0) ?_
 refine wv (.int .i64 0) ?_
 refine wpList_nil (then_normal ?_)
 refine wp_seq ?_
 refine wsr ?_
 replace B1 := B1.ext E2
 refine wcl (l01Ok_any F hF g1 _ _ B1) ?_
 intro w3 E3
 refine wv (.bool (!(okB F))) ?_
 refine wpList_nil (then_normal ?_)
 have H1 := (((Ext.refl w).trans E1).trans E2).trans E3
 refine wsplit (!(okB F)) (fun h1 => ?_) (fun h1 => ?_)
 · skip
   replace h1 := nbT h1
   refine wsr ?_
   refine wv (.int .i64 0) ?_
   refine wv (.int .i64 0) ?_
   refine wv (.int .i64 1) ?_
   refine wpList_nil (then_normal ?_)
   refine wp_ret ?_
   refine then_ret ?_
   refine ret3 (.int .i64 (rich0 F x y)) (.int .i64 (rich1 F x y)) (.int .i64 (rich2 F x y)) rfl ?_ ?_ ?_ rfl ?_
   · refine (resT (v := .int .i64 0) (by kernel_rfl)).trans ?_
     refine congrArg (Value.int _) ?_
     first | (have hz_ := firstC_end hb_ (by omega) (by omega)) | skip
     try (have hr_ : best = richC F x y := by rw [richC_eq]; exact hz_)
     try subst hr_
     unfold rich0; first | rw [if_neg (by first | assumption | (simp [*]; done) | omega)] | rw [if_pos (by first | assumption | omega), if_pos (by omega)] | rw [if_pos (by first | assumption | omega), if_neg (by omega)]
   · refine (resT (v := .int .i64 0) (by kernel_rfl)).trans ?_
     refine congrArg (Value.int _) ?_
     first | (have hz_ := firstC_end hb_ (by omega) (by omega)) | skip
     try (have hr_ : best = richC F x y := by rw [richC_eq]; exact hz_)
     try subst hr_
     unfold rich1; first | rw [if_neg (by first | assumption | (simp [*]; done) | omega)] | rw [if_pos (by first | assumption | omega), if_pos (by omega)] | rw [if_pos (by first | assumption | omega), if_neg (by omega)]
   · refine (resT (v := .int .i64 1) (by kernel_rfl)).trans ?_
     refine congrArg (Value.int _) ?_
     first | (have hz_ := firstC_end hb_ (by omega) (by omega)) | skip
     try (have hr_ : best = richC F x y := by rw [richC_eq]; exact hz_)
     try subst hr_
     unfold rich2; first | rw [if_neg (by first | assumption | (simp [*]; done) | omega)] | rw [if_pos (by first | assumption | omega), if_pos (by omega)] | rw [if_pos (by first | assumption | omega), if_neg (by omega)]
   exact ⟨rfl, H1⟩
 · skip
   replace h1 := nbF h1
   refine wp_skip ?_
   refine then_normal ?_
   refine wsr ?_
   refine wv (.int .i64 (-1)) ?_
   refine wpList_nil (then_normal ?_)
   refine wp_seq ?_
   refine wsr ?_
   refine wv (.int .i64 0) ?_
   refine wpList_nil (then_normal ?_)
   refine wp_block ?_
   replace B1 := B1.ext E3
   replace B2 := B2.ext E3
   refine wp_loop_k (fun m1 a wl1 => ∃ (i : Nat) (best : Int), m1 = 100 - i ∧ i ≤ 100 ∧ best = firstC F x y (fun a b => decide (F.s b.toNat < F.s a.toNat)) i ∧ Ext w wl1 ∧ Blk wl1 g1 29 F.cells ∧ Blk wl1 g2 33 #[.int .u64 x, .int .u64 y] ∧ (∃ J1 : Nat → Value, a = ⟨#[.agg F.cells, .agg #[.int .u64 x, .int .u64 y], .pointer (some ⟨g1, 0, none⟩), .pointer (some ⟨g2, 0, none⟩), .int .i64 0, .int .i64 0, .int .i64 0, .int .i64 best, .int .i64 (i : Int), .bool (okB F), .bool (!(okB F)), J1 11, J1 12, J1 13, J1 14, J1 15, J1 16, J1 17, J1 18, J1 19, J1 20, J1 21, J1 22, J1 23, J1 24, J1 25, J1 26, J1 27, J1 28, J1 29, J1 30, J1 31, J1 32, J1 33, J1 34, J1 35, J1 36, undef, undef, undef, undef, undef, undef, undef, undef], []⟩)) (100) ?_ ?_
   · refine ⟨0, (-1), rfl, ?_, ?_, H1, B1, B2, exJ (by kernel_rfl)⟩
     · omega
     · exact firstC_0
   intro m1 a wl1 hI
   obtain ⟨i, best, rfl, hi_, hb_, HL1, B1, B2, J1, rfl⟩ := hI
   have hbi_ := firstC_is hb_
   have hbn_ := is_in hbi_
   refine wp_seq ?_
   refine wsr ?_
   refine wv (.int .i64 (i : Int)) ?_
   refine wv (.bool (decide ((i : Int) < 100))) ?_
   refine wpList_nil (then_normal ?_)
   refine wsplit (decide ((i : Int) < 100)) (fun h2 => ?_) (fun h2 => ?_)
   · skip
     have h2d := dT h2
     refine wp_skip ?_
     refine then_normal ?_
     refine wp_seq ?_
     refine wp_block ?_
     refine wp_seq ?_
     refine wp_frame (a' := ⟨#[.agg F.cells, .agg #[.int .u64 x, .int .u64 y], .pointer (some ⟨g1, 0, none⟩), .pointer (some ⟨g2, 0, none⟩), .int .i64 0, .int .i64 0, .int .i64 0, .int .i64 best, .int .i64 (i : Int), .bool (okB F), .bool (!(okB F)), .int .i64 (i : Int), .bool (decide ((i : Int) < 100)), J1 13, J1 14, J1 15, J1 16, J1 17, J1 18, J1 19, J1 20, J1 21, J1 22, J1 23, J1 24, J1 25, J1 26, J1 27, J1 28, J1 29, J1 30, J1 31, J1 32, J1 33, J1 34, J1 35, J1 36, undef, undef, undef, undef, undef, undef, undef, undef], []⟩) (by kernel_rfl) ?_
     refine split_bool (isB F (i : Int)) (fun h3 => ?_) (fun h3 => ?_)
     · skip
       have h3d := isB_true.1 h3
       refine split_bool (hasB x y (i : Int)) (fun h4 => ?_) (fun h4 => ?_)
       · skip
         refine split_bool (decide (best < 0)) (fun h5 => ?_) (fun h5 => ?_)
         · skip
           have h5d := dT h5
           refine region_go 21 [15, 16, 17, 18, 19, 20, 21, 22, 23, 24, 25, 26, 27, 28, 29, 30, 31, 32, 33, 34, 35] [[], [0], [1], [2], [2, 3], [2, 4], [5], [6], [6, 7], [6, 8], [9], [9], [9, 11, 10], [9, 12], [9], [9], [9, 15, 14], [9, 16], [9, 13, 17], [6, 9, 18], [6, 19]]
            (fun i_ => ([.val (.int .i64 (i : Int)), .val (.bool true), .val (.bool true), .val (.int .i64 (i : Int)), .val (.bool true), .val (.bool true), .val (.bool true), .val (.int .i64 best), .val (.bool true), .val (.bool true), .val undef, .val undef, .val undef, .val undef, .val undef, .val undef, .val undef, .val undef, .val undef, .val (.bool true), .val (.bool true)] : List Fct).getD i_ .any)
            (by kernel_rfl) (by kernel_rfl) (by decide) (by simp) rfl (all_succ (all_succ (all_succ (all_succ (all_succ (all_succ (all_succ (all_succ (all_succ (all_succ (all_succ (all_succ (all_succ (all_succ (all_succ (all_succ (all_succ (all_succ (all_succ (all_succ (all_succ all_zero ?_) ?_) ?_) ?_) ?_) ?_) ?_) ?_) ?_) ?_) ?_) ?_) ?_) ?_) ?_) ?_) ?_) ?_) ?_) ?_) ?_) ?_
           · refine step0 rfl rfl rfl (fun wr hw => ?_)
             exact OpRun.val (.int .i64 (i : Int)) (.int .i64 (i : Int)) (by kernel_rfl) rfl ⟨Ext.refl _, rfl⟩
           · refine step1 rfl rfl rfl rfl (fun u0 wr hw h0 => ?_)
             cases h0
             exact OpRun.call 54 #[.pointer (some ⟨g1, 0, none⟩), .int .i64 (i : Int)] (by kernel_rfl) ((l01Is_any F hF g1 _ (i : Int) _ (B1.ext hw)).mono fun e w1 ⟨he, hb⟩ => ⟨_, he, hb, congrArg Value.bool h3⟩)
           · refine step1 rfl rfl rfl rfl (fun u0 wr hw h0 => ?_)
             cases h0
             exact OpRun.val (.bool true) (.bool true) (by kernel_rfl) rfl ⟨Ext.refl _, rfl⟩
           · refine gstep1 rfl rfl rfl rfl (fun u wr h => by cases h; rfl) (fun u0 wr hw h0 => ?_)
             cases h0
             exact OpRun.val (.int .i64 (i : Int)) (.int .i64 (i : Int)) (by kernel_rfl) rfl ⟨Ext.refl _, rfl⟩
           · refine gstep2 rfl rfl rfl rfl rfl (fun u wr h => by cases h; rfl) (fun u0 u1 wr hw h0 h1 => ?_)
             cases h0
             cases h1
             exact OpRun.call 55 #[.pointer (some ⟨g2, 0, none⟩), .int .i64 (i : Int)] (by kernel_rfl) ((l01Has_any x y g2 _ (i : Int) _ (B2.ext hw)).mono fun e w1 ⟨he, hb⟩ => ⟨_, he, hb, congrArg Value.bool h4⟩)
           · refine step2 rfl rfl rfl rfl rfl (fun u0 u1 wr hw h0 h1 => ?_)
             cases h0
             cases h1
             exact OpRun.val (.bool true) (.bool true) (by kernel_rfl) rfl ⟨Ext.refl _, rfl⟩
           · refine step1 rfl rfl rfl rfl (fun u0 wr hw h0 => ?_)
             cases h0
             exact OpRun.val (.bool true) (.bool true) (by kernel_rfl) rfl ⟨Ext.refl _, rfl⟩
           · refine gstep1 rfl rfl rfl rfl (fun u wr h => by cases h; rfl) (fun u0 wr hw h0 => ?_)
             cases h0
             exact OpRun.val (.int .i64 best) (.int .i64 best) (by kernel_rfl) rfl ⟨Ext.refl _, rfl⟩
           · refine gstep2 rfl rfl rfl rfl rfl (fun u wr h => by cases h; rfl) (fun u0 u1 wr hw h0 h1 => ?_)
             cases h0
             cases h1
             exact OpRun.val (.bool (decide (best < 0))) (.bool true) (by kernel_rfl) (congrArg Value.bool h5) ⟨Ext.refl _, rfl⟩
           · refine gstep2 rfl rfl rfl rfl rfl (fun u wr h => by cases h; rfl) (fun u0 u1 wr hw h0 h1 => ?_)
             cases h0
             cases h1
             exact OpRun.val (.bool true) (.bool true) (by kernel_rfl) rfl ⟨Ext.refl _, rfl⟩
           · refine skip_ rfl rfl rfl (fun u wr h => by cases h; rfl) (fun _ => rfl)
           · refine skip_ rfl rfl rfl (fun u wr h => by cases h; rfl) (fun _ => rfl)
           · refine skip_ rfl rfl rfl (fun u wr h => by cases h; rfl) (fun _ => rfl)
           · refine skip_ rfl rfl rfl (fun u wr h => by cases h; rfl) (fun _ => rfl)
           · refine skip_ rfl rfl rfl (fun u wr h => by cases h; rfl) (fun _ => rfl)
           · refine skip_ rfl rfl rfl (fun u wr h => by cases h; rfl) (fun _ => rfl)
           · refine skip_ rfl rfl rfl (fun u wr h => by cases h; rfl) (fun _ => rfl)
           · refine skip_ rfl rfl rfl (fun u wr h => by cases h; rfl) (fun _ => rfl)
           · refine skip_ rfl rfl rfl (fun u wr h => by cases h; rfl) (fun _ => rfl)
           · refine gstep3 rfl rfl rfl rfl rfl rfl (fun u wr h => by cases h; rfl) (fun u0 u1 u2 wr hw h0 h1 h2 => ?_)
             cases h0
             cases h1
             cases h2
             exact OpRun.val (.bool true) (.bool true) (by kernel_rfl) rfl ⟨Ext.refl _, rfl⟩
           · refine step2 rfl rfl rfl rfl rfl (fun u0 u1 wr hw h0 h1 => ?_)
             cases h0
             cases h1
             exact OpRun.val (.bool true) (.bool true) (by kernel_rfl) rfl ⟨Ext.refl _, rfl⟩
           refine end21 (fun u0 u1 u2 u3 u4 u5 u6 u7 u8 u9 u10 u11 u12 u13 u14 u15 u16 u17 u18 u19 u20 w4 E4 f0 f1 f2 f3 f4 f5 f6 f7 f8 f9 f10 f11 f12 f13 f14 f15 f16 f17 f18 f19 f20 => ?_)
           cases f0
           cases f1
           cases f2
           cases f3
           cases f4
           cases f5
           cases f6
           cases f7
           cases f8
           cases f9
           cases f10
           cases f11
           cases f12
           cases f13
           cases f14
           cases f15
           cases f16
           cases f17
           cases f18
           cases f19
           cases f20
           refine wpList_nil (then_normal ?_)
           refine wct ?_
           refine wp_region_lit ?_
           refine wv (.int .i64 (i : Int)) ?_
           refine wv (.int .i64 (i : Int)) ?_
           refine wpList_nil (block_normal (then_normal ?_))
           refine wp_region_lit ?_
           refine wv (.int .i64 (i : Int)) ?_
           refine wi64 ((i : Int) + 1) ?_
           refine wv (.int .i64 ((i : Int) + 1)) ?_
           refine wpList_nil (then_normal ?_)
           replace B1 := B1.ext E4
           replace B2 := B2.ext E4
           have H2 := HL1.trans E4
           refine ⟨_, ?_, i + 1, (i : Int), rfl, ?_, ?_, H2, B1, B2, exJ (by kernel_rfl)⟩
           · omega
           · omega
           · first | exact firstC_n hb_ (by assumption) | exact firstC_h hb_ (by assumption) (by assumption) | exact firstC_b hb_ (by assumption) (by assumption) (by omega) | exact firstC_t hb_ (by assumption) (by assumption) (decide_eq_true (by simp only [Int.toNat_natCast]; omega)) | exact firstC_f hb_ (by assumption) (by omega) (decide_eq_false (by simp only [Int.toNat_natCast]; omega))
         · skip
           have h5d := dF h5
           have ce1 := hF.s1 i (by omega)
           have ce2 := ok_cell h1 i (by omega)
           have ce3 := hF.s1 ((best).toNat) (by omega)
           have ce4 := ok_cell h1 ((best).toNat) (by omega)
           refine region_go 21 [15, 16, 17, 18, 19, 20, 21, 22, 23, 24, 25, 26, 27, 28, 29, 30, 31, 32, 33, 34, 35] [[], [0], [1], [2], [2, 3], [2, 4], [5], [6], [6, 7], [6, 8], [9], [9], [9, 11, 10], [9, 12], [9], [9], [9, 15, 14], [9, 16], [9, 13, 17], [6, 9, 18], [6, 19]]
            (fun i_ => ([.val (.int .i64 (i : Int)), .val (.bool true), .val (.bool true), .val (.int .i64 (i : Int)), .val (.bool true), .val (.bool true), .val (.bool true), .val (.int .i64 best), .val (.bool false), .val (.bool false), .val (.int .i64 (i : Int)), .val (.pointer (some ⟨g1, 102, none⟩)), .val (.pointer (some ⟨g1, 102 + i, none⟩)), .val (.int .i16 (F.s i)), .val (.int .i64 best), .val (.pointer (some ⟨g1, 102, none⟩)), .val (.pointer (some ⟨g1, 102 + (best).toNat, none⟩)), .val (.int .i16 (F.s ((best).toNat))), .val (.bool (decide ((F.s ((best).toNat)) < F.s i))), .val (.bool (decide ((F.s ((best).toNat)) < F.s i))), .val (.bool (decide ((F.s ((best).toNat)) < F.s i)))] : List Fct).getD i_ .any)
            (by kernel_rfl) (by kernel_rfl) (by decide) (by simp) rfl (all_succ (all_succ (all_succ (all_succ (all_succ (all_succ (all_succ (all_succ (all_succ (all_succ (all_succ (all_succ (all_succ (all_succ (all_succ (all_succ (all_succ (all_succ (all_succ (all_succ (all_succ all_zero ?_) ?_) ?_) ?_) ?_) ?_) ?_) ?_) ?_) ?_) ?_) ?_) ?_) ?_) ?_) ?_) ?_) ?_) ?_) ?_) ?_) ?_
           · refine step0 rfl rfl rfl (fun wr hw => ?_)
             exact OpRun.val (.int .i64 (i : Int)) (.int .i64 (i : Int)) (by kernel_rfl) rfl ⟨Ext.refl _, rfl⟩
           · refine step1 rfl rfl rfl rfl (fun u0 wr hw h0 => ?_)
             cases h0
             exact OpRun.call 54 #[.pointer (some ⟨g1, 0, none⟩), .int .i64 (i : Int)] (by kernel_rfl) ((l01Is_any F hF g1 _ (i : Int) _ (B1.ext hw)).mono fun e w1 ⟨he, hb⟩ => ⟨_, he, hb, congrArg Value.bool h3⟩)
           · refine step1 rfl rfl rfl rfl (fun u0 wr hw h0 => ?_)
             cases h0
             exact OpRun.val (.bool true) (.bool true) (by kernel_rfl) rfl ⟨Ext.refl _, rfl⟩
           · refine gstep1 rfl rfl rfl rfl (fun u wr h => by cases h; rfl) (fun u0 wr hw h0 => ?_)
             cases h0
             exact OpRun.val (.int .i64 (i : Int)) (.int .i64 (i : Int)) (by kernel_rfl) rfl ⟨Ext.refl _, rfl⟩
           · refine gstep2 rfl rfl rfl rfl rfl (fun u wr h => by cases h; rfl) (fun u0 u1 wr hw h0 h1 => ?_)
             cases h0
             cases h1
             exact OpRun.call 55 #[.pointer (some ⟨g2, 0, none⟩), .int .i64 (i : Int)] (by kernel_rfl) ((l01Has_any x y g2 _ (i : Int) _ (B2.ext hw)).mono fun e w1 ⟨he, hb⟩ => ⟨_, he, hb, congrArg Value.bool h4⟩)
           · refine step2 rfl rfl rfl rfl rfl (fun u0 u1 wr hw h0 h1 => ?_)
             cases h0
             cases h1
             exact OpRun.val (.bool true) (.bool true) (by kernel_rfl) rfl ⟨Ext.refl _, rfl⟩
           · refine step1 rfl rfl rfl rfl (fun u0 wr hw h0 => ?_)
             cases h0
             exact OpRun.val (.bool true) (.bool true) (by kernel_rfl) rfl ⟨Ext.refl _, rfl⟩
           · refine gstep1 rfl rfl rfl rfl (fun u wr h => by cases h; rfl) (fun u0 wr hw h0 => ?_)
             cases h0
             exact OpRun.val (.int .i64 best) (.int .i64 best) (by kernel_rfl) rfl ⟨Ext.refl _, rfl⟩
           · refine gstep2 rfl rfl rfl rfl rfl (fun u wr h => by cases h; rfl) (fun u0 u1 wr hw h0 h1 => ?_)
             cases h0
             cases h1
             exact OpRun.val (.bool (decide (best < 0))) (.bool false) (by kernel_rfl) (congrArg Value.bool h5) ⟨Ext.refl _, rfl⟩
           · refine gstep2 rfl rfl rfl rfl rfl (fun u wr h => by cases h; rfl) (fun u0 u1 wr hw h0 h1 => ?_)
             cases h0
             cases h1
             exact OpRun.val (.bool false) (.bool false) (by kernel_rfl) rfl ⟨Ext.refl _, rfl⟩
           · refine gstep1 rfl rfl rfl rfl (fun u wr h => by cases h; rfl) (fun u0 wr hw h0 => ?_)
             cases h0
             exact OpRun.val (.int .i64 (i : Int)) (.int .i64 (i : Int)) (by kernel_rfl) rfl ⟨Ext.refl _, rfl⟩
           · refine gstep1 rfl rfl rfl rfl (fun u wr h => by cases h; rfl) (fun u0 wr hw h0 => ?_)
             cases h0
             exact OpRun.val (.pointer (some ⟨g1, 102, none⟩)) (.pointer (some ⟨g1, 102, none⟩)) (by kernel_rfl) rfl ⟨Ext.refl _, rfl⟩
           · refine gstep3 rfl rfl rfl rfl rfl rfl (fun u wr h => by cases h; rfl) (fun u0 u1 u2 wr hw h0 h1 h2 => ?_)
             cases h0
             cases h1
             cases h2
             exact OpRun.ixan (i := i) (k := .i64) (g := g1) (off := 102) arrt__100_int16 rfl (by kernel_rfl) (by kernel_rfl) (by omega) ⟨Ext.refl _, rfl⟩
           · refine gstep2 rfl rfl rfl rfl rfl (fun u wr h => by cases h; rfl) (fun u0 u1 wr hw h0 h1 => ?_)
             cases h0
             cases h1
             exact OpRun.cell (g := g1) (off := 102 + i) (v := .int .i16 (F.s i)) scal_int16 rfl (by kernel_rfl) ((B1.ext hw).get (Fld.gets _ _ (by omega))) ⟨Ext.refl _, rfl⟩
           · refine gstep1 rfl rfl rfl rfl (fun u wr h => by cases h; rfl) (fun u0 wr hw h0 => ?_)
             cases h0
             exact OpRun.val (.int .i64 best) (.int .i64 best) (by kernel_rfl) rfl ⟨Ext.refl _, rfl⟩
           · refine gstep1 rfl rfl rfl rfl (fun u wr h => by cases h; rfl) (fun u0 wr hw h0 => ?_)
             cases h0
             exact OpRun.val (.pointer (some ⟨g1, 102, none⟩)) (.pointer (some ⟨g1, 102, none⟩)) (by kernel_rfl) rfl ⟨Ext.refl _, rfl⟩
           · refine gstep3 rfl rfl rfl rfl rfl rfl (fun u wr h => by cases h; rfl) (fun u0 u1 u2 wr hw h0 h1 h2 => ?_)
             cases h0
             cases h1
             cases h2
             exact OpRun.ixa (i := best) (k := .i64) (g := g1) (off := 102) arrt__100_int16 rfl (by kernel_rfl) (by kernel_rfl) (by omega) (by omega) ⟨Ext.refl _, rfl⟩
           · refine gstep2 rfl rfl rfl rfl rfl (fun u wr h => by cases h; rfl) (fun u0 u1 wr hw h0 h1 => ?_)
             cases h0
             cases h1
             exact OpRun.cell (g := g1) (off := 102 + (best).toNat) (v := .int .i16 (F.s ((best).toNat))) scal_int16 rfl (by kernel_rfl) ((B1.ext hw).get (Fld.gets _ _ (by omega))) ⟨Ext.refl _, rfl⟩
           · refine gstep3 rfl rfl rfl rfl rfl rfl (fun u wr h => by cases h; rfl) (fun u0 u1 u2 wr hw h0 h1 h2 => ?_)
             cases h0
             cases h1
             cases h2
             exact OpRun.val (.bool (decide ((F.s ((best).toNat)) < F.s i))) (.bool (decide ((F.s ((best).toNat)) < F.s i))) (by kernel_rfl) rfl ⟨Ext.refl _, rfl⟩
           · refine gstep3 rfl rfl rfl rfl rfl rfl (fun u wr h => by cases h; rfl) (fun u0 u1 u2 wr hw h0 h1 h2 => ?_)
             cases h0
             cases h1
             cases h2
             exact OpRun.val (.bool (decide ((F.s ((best).toNat)) < F.s i))) (.bool (decide ((F.s ((best).toNat)) < F.s i))) (by kernel_rfl) rfl ⟨Ext.refl _, rfl⟩
           · refine step2 rfl rfl rfl rfl rfl (fun u0 u1 wr hw h0 h1 => ?_)
             cases h0
             cases h1
             exact OpRun.val (.bool (decide ((F.s ((best).toNat)) < F.s i))) (.bool (decide ((F.s ((best).toNat)) < F.s i))) (by kernel_rfl) rfl ⟨Ext.refl _, rfl⟩
           refine end21 (fun u0 u1 u2 u3 u4 u5 u6 u7 u8 u9 u10 u11 u12 u13 u14 u15 u16 u17 u18 u19 u20 w5 E5 f0 f1 f2 f3 f4 f5 f6 f7 f8 f9 f10 f11 f12 f13 f14 f15 f16 f17 f18 f19 f20 => ?_)
           cases f0
           cases f1
           cases f2
           cases f3
           cases f4
           cases f5
           cases f6
           cases f7
           cases f8
           cases f9
           cases f10
           cases f11
           cases f12
           cases f13
           cases f14
           cases f15
           cases f16
           cases f17
           cases f18
           cases f19
           cases f20
           refine wpList_nil (then_normal ?_)
           refine wsplit (decide ((F.s ((best).toNat)) < F.s i)) (fun h6 => ?_) (fun h6 => ?_)
           · skip
             have h6d := dT h6
             refine wp_region_lit ?_
             refine wv (.int .i64 (i : Int)) ?_
             refine wv (.int .i64 (i : Int)) ?_
             refine wpList_nil (block_normal (then_normal ?_))
             refine wp_region_lit ?_
             refine wv (.int .i64 (i : Int)) ?_
             refine wi64 ((i : Int) + 1) ?_
             refine wv (.int .i64 ((i : Int) + 1)) ?_
             refine wpList_nil (then_normal ?_)
             replace B1 := B1.ext E5
             replace B2 := B2.ext E5
             have H3 := HL1.trans E5
             refine ⟨_, ?_, i + 1, (i : Int), rfl, ?_, ?_, H3, B1, B2, exJ (by kernel_rfl)⟩
             · omega
             · omega
             · first | exact firstC_n hb_ (by assumption) | exact firstC_h hb_ (by assumption) (by assumption) | exact firstC_b hb_ (by assumption) (by assumption) (by omega) | exact firstC_t hb_ (by assumption) (by assumption) (decide_eq_true (by simp only [Int.toNat_natCast]; omega)) | exact firstC_f hb_ (by assumption) (by omega) (decide_eq_false (by simp only [Int.toNat_natCast]; omega))
           · skip
             have h6d := dF h6
             refine wp_skip ?_
             refine block_normal (then_normal ?_)
             refine wp_region_lit ?_
             refine wv (.int .i64 (i : Int)) ?_
             refine wi64 ((i : Int) + 1) ?_
             refine wv (.int .i64 ((i : Int) + 1)) ?_
             refine wpList_nil (then_normal ?_)
             replace B1 := B1.ext E5
             replace B2 := B2.ext E5
             have H4 := HL1.trans E5
             refine ⟨_, ?_, i + 1, best, rfl, ?_, ?_, H4, B1, B2, exJ (by kernel_rfl)⟩
             · omega
             · omega
             · first | exact firstC_n hb_ (by assumption) | exact firstC_h hb_ (by assumption) (by assumption) | exact firstC_b hb_ (by assumption) (by assumption) (by omega) | exact firstC_t hb_ (by assumption) (by assumption) (decide_eq_true (by simp only [Int.toNat_natCast]; omega)) | exact firstC_f hb_ (by assumption) (by omega) (decide_eq_false (by simp only [Int.toNat_natCast]; omega))
       · skip
         refine region_go 21 [15, 16, 17, 18, 19, 20, 21, 22, 23, 24, 25, 26, 27, 28, 29, 30, 31, 32, 33, 34, 35] [[], [0], [1], [2], [2, 3], [2, 4], [5], [6], [6, 7], [6, 8], [9], [9], [9, 11, 10], [9, 12], [9], [9], [9, 15, 14], [9, 16], [9, 13, 17], [6, 9, 18], [6, 19]]
          (fun i_ => ([.val (.int .i64 (i : Int)), .val (.bool true), .val (.bool true), .val (.int .i64 (i : Int)), .val (.bool false), .val (.bool false), .val (.bool false), .val undef, .val undef, .val undef, .val undef, .val undef, .val undef, .val undef, .val undef, .val undef, .val undef, .val undef, .val undef, .val undef, .val (.bool false)] : List Fct).getD i_ .any)
          (by kernel_rfl) (by kernel_rfl) (by decide) (by simp) rfl (all_succ (all_succ (all_succ (all_succ (all_succ (all_succ (all_succ (all_succ (all_succ (all_succ (all_succ (all_succ (all_succ (all_succ (all_succ (all_succ (all_succ (all_succ (all_succ (all_succ (all_succ all_zero ?_) ?_) ?_) ?_) ?_) ?_) ?_) ?_) ?_) ?_) ?_) ?_) ?_) ?_) ?_) ?_) ?_) ?_) ?_) ?_) ?_) ?_
         · refine step0 rfl rfl rfl (fun wr hw => ?_)
           exact OpRun.val (.int .i64 (i : Int)) (.int .i64 (i : Int)) (by kernel_rfl) rfl ⟨Ext.refl _, rfl⟩
         · refine step1 rfl rfl rfl rfl (fun u0 wr hw h0 => ?_)
           cases h0
           exact OpRun.call 54 #[.pointer (some ⟨g1, 0, none⟩), .int .i64 (i : Int)] (by kernel_rfl) ((l01Is_any F hF g1 _ (i : Int) _ (B1.ext hw)).mono fun e w1 ⟨he, hb⟩ => ⟨_, he, hb, congrArg Value.bool h3⟩)
         · refine step1 rfl rfl rfl rfl (fun u0 wr hw h0 => ?_)
           cases h0
           exact OpRun.val (.bool true) (.bool true) (by kernel_rfl) rfl ⟨Ext.refl _, rfl⟩
         · refine gstep1 rfl rfl rfl rfl (fun u wr h => by cases h; rfl) (fun u0 wr hw h0 => ?_)
           cases h0
           exact OpRun.val (.int .i64 (i : Int)) (.int .i64 (i : Int)) (by kernel_rfl) rfl ⟨Ext.refl _, rfl⟩
         · refine gstep2 rfl rfl rfl rfl rfl (fun u wr h => by cases h; rfl) (fun u0 u1 wr hw h0 h1 => ?_)
           cases h0
           cases h1
           exact OpRun.call 55 #[.pointer (some ⟨g2, 0, none⟩), .int .i64 (i : Int)] (by kernel_rfl) ((l01Has_any x y g2 _ (i : Int) _ (B2.ext hw)).mono fun e w1 ⟨he, hb⟩ => ⟨_, he, hb, congrArg Value.bool h4⟩)
         · refine step2 rfl rfl rfl rfl rfl (fun u0 u1 wr hw h0 h1 => ?_)
           cases h0
           cases h1
           exact OpRun.val (.bool false) (.bool false) (by kernel_rfl) rfl ⟨Ext.refl _, rfl⟩
         · refine step1 rfl rfl rfl rfl (fun u0 wr hw h0 => ?_)
           cases h0
           exact OpRun.val (.bool false) (.bool false) (by kernel_rfl) rfl ⟨Ext.refl _, rfl⟩
         · refine skip_ rfl rfl rfl (fun u wr h => by cases h; rfl) (fun _ => rfl)
         · refine skip_ rfl rfl rfl (fun u wr h => by cases h; rfl) (fun _ => rfl)
         · refine skip_ rfl rfl rfl (fun u wr h => by cases h; rfl) (fun _ => rfl)
         · refine skipu_ rfl rfl rfl (fun u wr h => by cases h; rfl) (fun _ => rfl)
         · refine skipu_ rfl rfl rfl (fun u wr h => by cases h; rfl) (fun _ => rfl)
         · refine skipu_ rfl rfl rfl (fun u wr h => by cases h; rfl) (fun _ => rfl)
         · refine skipu_ rfl rfl rfl (fun u wr h => by cases h; rfl) (fun _ => rfl)
         · refine skipu_ rfl rfl rfl (fun u wr h => by cases h; rfl) (fun _ => rfl)
         · refine skipu_ rfl rfl rfl (fun u wr h => by cases h; rfl) (fun _ => rfl)
         · refine skipu_ rfl rfl rfl (fun u wr h => by cases h; rfl) (fun _ => rfl)
         · refine skipu_ rfl rfl rfl (fun u wr h => by cases h; rfl) (fun _ => rfl)
         · refine skipu_ rfl rfl rfl (fun u wr h => by cases h; rfl) (fun _ => rfl)
         · refine skip_ rfl rfl rfl (fun u wr h => by cases h; rfl) (fun _ => rfl)
         · refine step2 rfl rfl rfl rfl rfl (fun u0 u1 wr hw h0 h1 => ?_)
           cases h0
           cases h1
           exact OpRun.val (.bool false) (.bool false) (by kernel_rfl) rfl ⟨Ext.refl _, rfl⟩
         refine end21 (fun u0 u1 u2 u3 u4 u5 u6 u7 u8 u9 u10 u11 u12 u13 u14 u15 u16 u17 u18 u19 u20 w6 E6 f0 f1 f2 f3 f4 f5 f6 f7 f8 f9 f10 f11 f12 f13 f14 f15 f16 f17 f18 f19 f20 => ?_)
         cases f0
         cases f1
         cases f2
         cases f3
         cases f4
         cases f5
         cases f6
         cases f7
         cases f8
         cases f9
         cases f10
         cases f11
         cases f12
         cases f13
         cases f14
         cases f15
         cases f16
         cases f17
         cases f18
         cases f19
         cases f20
         refine wpList_nil (then_normal ?_)
         refine wcf ?_
         refine wp_skip ?_
         refine block_normal (then_normal ?_)
         refine wp_region_lit ?_
         refine wv (.int .i64 (i : Int)) ?_
         refine wi64 ((i : Int) + 1) ?_
         refine wv (.int .i64 ((i : Int) + 1)) ?_
         refine wpList_nil (then_normal ?_)
         replace B1 := B1.ext E6
         replace B2 := B2.ext E6
         have H5 := HL1.trans E6
         refine ⟨_, ?_, i + 1, best, rfl, ?_, ?_, H5, B1, B2, exJ (by kernel_rfl)⟩
         · omega
         · omega
         · first | exact firstC_n hb_ (by assumption) | exact firstC_h hb_ (by assumption) (by assumption) | exact firstC_b hb_ (by assumption) (by assumption) (by omega) | exact firstC_t hb_ (by assumption) (by assumption) (decide_eq_true (by simp only [Int.toNat_natCast]; omega)) | exact firstC_f hb_ (by assumption) (by omega) (decide_eq_false (by simp only [Int.toNat_natCast]; omega))
     · skip
       refine region_go 21 [15, 16, 17, 18, 19, 20, 21, 22, 23, 24, 25, 26, 27, 28, 29, 30, 31, 32, 33, 34, 35] [[], [0], [1], [2], [2, 3], [2, 4], [5], [6], [6, 7], [6, 8], [9], [9], [9, 11, 10], [9, 12], [9], [9], [9, 15, 14], [9, 16], [9, 13, 17], [6, 9, 18], [6, 19]]
        (fun i_ => ([.val (.int .i64 (i : Int)), .val (.bool false), .val (.bool false), .val undef, .val undef, .val (.bool false), .val (.bool false), .val undef, .val undef, .val undef, .val undef, .val undef, .val undef, .val undef, .val undef, .val undef, .val undef, .val undef, .val undef, .val undef, .val (.bool false)] : List Fct).getD i_ .any)
        (by kernel_rfl) (by kernel_rfl) (by decide) (by simp) rfl (all_succ (all_succ (all_succ (all_succ (all_succ (all_succ (all_succ (all_succ (all_succ (all_succ (all_succ (all_succ (all_succ (all_succ (all_succ (all_succ (all_succ (all_succ (all_succ (all_succ (all_succ all_zero ?_) ?_) ?_) ?_) ?_) ?_) ?_) ?_) ?_) ?_) ?_) ?_) ?_) ?_) ?_) ?_) ?_) ?_) ?_) ?_) ?_) ?_
       · refine step0 rfl rfl rfl (fun wr hw => ?_)
         exact OpRun.val (.int .i64 (i : Int)) (.int .i64 (i : Int)) (by kernel_rfl) rfl ⟨Ext.refl _, rfl⟩
       · refine step1 rfl rfl rfl rfl (fun u0 wr hw h0 => ?_)
         cases h0
         exact OpRun.call 54 #[.pointer (some ⟨g1, 0, none⟩), .int .i64 (i : Int)] (by kernel_rfl) ((l01Is_any F hF g1 _ (i : Int) _ (B1.ext hw)).mono fun e w1 ⟨he, hb⟩ => ⟨_, he, hb, congrArg Value.bool h3⟩)
       · refine step1 rfl rfl rfl rfl (fun u0 wr hw h0 => ?_)
         cases h0
         exact OpRun.val (.bool false) (.bool false) (by kernel_rfl) rfl ⟨Ext.refl _, rfl⟩
       · refine skip_ rfl rfl rfl (fun u wr h => by cases h; rfl) (fun _ => rfl)
       · refine skip_ rfl rfl rfl (fun u wr h => by cases h; rfl) (fun _ => rfl)
       · refine step2 rfl rfl rfl rfl rfl (fun u0 u1 wr hw h0 h1 => ?_)
         cases h0
         cases h1
         exact OpRun.val (.bool false) (.bool false) (by kernel_rfl) rfl ⟨Ext.refl _, rfl⟩
       · refine step1 rfl rfl rfl rfl (fun u0 wr hw h0 => ?_)
         cases h0
         exact OpRun.val (.bool false) (.bool false) (by kernel_rfl) rfl ⟨Ext.refl _, rfl⟩
       · refine skip_ rfl rfl rfl (fun u wr h => by cases h; rfl) (fun _ => rfl)
       · refine skip_ rfl rfl rfl (fun u wr h => by cases h; rfl) (fun _ => rfl)
       · refine skip_ rfl rfl rfl (fun u wr h => by cases h; rfl) (fun _ => rfl)
       · refine skipu_ rfl rfl rfl (fun u wr h => by cases h; rfl) (fun _ => rfl)
       · refine skipu_ rfl rfl rfl (fun u wr h => by cases h; rfl) (fun _ => rfl)
       · refine skipu_ rfl rfl rfl (fun u wr h => by cases h; rfl) (fun _ => rfl)
       · refine skipu_ rfl rfl rfl (fun u wr h => by cases h; rfl) (fun _ => rfl)
       · refine skipu_ rfl rfl rfl (fun u wr h => by cases h; rfl) (fun _ => rfl)
       · refine skipu_ rfl rfl rfl (fun u wr h => by cases h; rfl) (fun _ => rfl)
       · refine skipu_ rfl rfl rfl (fun u wr h => by cases h; rfl) (fun _ => rfl)
       · refine skipu_ rfl rfl rfl (fun u wr h => by cases h; rfl) (fun _ => rfl)
       · refine skipu_ rfl rfl rfl (fun u wr h => by cases h; rfl) (fun _ => rfl)
       · refine skip_ rfl rfl rfl (fun u wr h => by cases h; rfl) (fun _ => rfl)
       · refine step2 rfl rfl rfl rfl rfl (fun u0 u1 wr hw h0 h1 => ?_)
         cases h0
         cases h1
         exact OpRun.val (.bool false) (.bool false) (by kernel_rfl) rfl ⟨Ext.refl _, rfl⟩
       refine end21 (fun u0 u1 u2 u3 u4 u5 u6 u7 u8 u9 u10 u11 u12 u13 u14 u15 u16 u17 u18 u19 u20 w7 E7 f0 f1 f2 f3 f4 f5 f6 f7 f8 f9 f10 f11 f12 f13 f14 f15 f16 f17 f18 f19 f20 => ?_)
       cases f0
       cases f1
       cases f2
       cases f3
       cases f4
       cases f5
       cases f6
       cases f7
       cases f8
       cases f9
       cases f10
       cases f11
       cases f12
       cases f13
       cases f14
       cases f15
       cases f16
       cases f17
       cases f18
       cases f19
       cases f20
       refine wpList_nil (then_normal ?_)
       refine wcf ?_
       refine wp_skip ?_
       refine block_normal (then_normal ?_)
       refine wp_region_lit ?_
       refine wv (.int .i64 (i : Int)) ?_
       refine wi64 ((i : Int) + 1) ?_
       refine wv (.int .i64 ((i : Int) + 1)) ?_
       refine wpList_nil (then_normal ?_)
       replace B1 := B1.ext E7
       replace B2 := B2.ext E7
       have H6 := HL1.trans E7
       refine ⟨_, ?_, i + 1, best, rfl, ?_, ?_, H6, B1, B2, exJ (by kernel_rfl)⟩
       · omega
       · omega
       · first | exact firstC_n hb_ (by assumption) | exact firstC_h hb_ (by assumption) (by assumption) | exact firstC_b hb_ (by assumption) (by assumption) (by omega) | exact firstC_t hb_ (by assumption) (by assumption) (decide_eq_true (by simp only [Int.toNat_natCast]; omega)) | exact firstC_f hb_ (by assumption) (by omega) (decide_eq_false (by simp only [Int.toNat_natCast]; omega))
   · skip
     have h2d := dF h2
     refine wp_exit ?_
     refine then_exit ?_
     refine then_exit ?_
     refine block_exit ?_
     refine then_normal ?_
     refine wp_seq ?_
     refine wsr ?_
     refine wv (.int .i64 best) ?_
     refine wv (.bool (decide (best < 0))) ?_
     refine wpList_nil (then_normal ?_)
     refine wsplit (decide (best < 0)) (fun h7 => ?_) (fun h7 => ?_)
     · skip
       have h7d := dT h7
       refine wsr ?_
       refine wv (.int .i64 0) ?_
       refine wv (.int .i64 0) ?_
       refine wv (.int .i64 6) ?_
       refine wpList_nil (then_normal ?_)
       refine wp_ret ?_
       refine then_ret ?_
       refine ret3 (.int .i64 (rich0 F x y)) (.int .i64 (rich1 F x y)) (.int .i64 (rich2 F x y)) rfl ?_ ?_ ?_ rfl ?_
       · refine (resT (v := .int .i64 0) (by kernel_rfl)).trans ?_
         refine congrArg (Value.int _) ?_
         first | (have hz_ := firstC_end hb_ (by omega) (by omega)) | skip
         try (have hr_ : best = richC F x y := by rw [richC_eq]; exact hz_)
         try subst hr_
         unfold rich0; first | rw [if_neg (by first | assumption | (simp [*]; done) | omega)] | rw [if_pos (by first | assumption | omega), if_pos (by omega)] | rw [if_pos (by first | assumption | omega), if_neg (by omega)]
       · refine (resT (v := .int .i64 0) (by kernel_rfl)).trans ?_
         refine congrArg (Value.int _) ?_
         first | (have hz_ := firstC_end hb_ (by omega) (by omega)) | skip
         try (have hr_ : best = richC F x y := by rw [richC_eq]; exact hz_)
         try subst hr_
         unfold rich1; first | rw [if_neg (by first | assumption | (simp [*]; done) | omega)] | rw [if_pos (by first | assumption | omega), if_pos (by omega)] | rw [if_pos (by first | assumption | omega), if_neg (by omega)]
       · refine (resT (v := .int .i64 6) (by kernel_rfl)).trans ?_
         refine congrArg (Value.int _) ?_
         first | (have hz_ := firstC_end hb_ (by omega) (by omega)) | skip
         try (have hr_ : best = richC F x y := by rw [richC_eq]; exact hz_)
         try subst hr_
         unfold rich2; first | rw [if_neg (by first | assumption | (simp [*]; done) | omega)] | rw [if_pos (by first | assumption | omega), if_pos (by omega)] | rw [if_pos (by first | assumption | omega), if_neg (by omega)]
       exact ⟨rfl, HL1⟩
     · skip
       have h7d := dF h7
       refine wp_skip ?_
       refine then_normal ?_
       refine wp_seq ?_
       refine wp_frame (a' := ⟨#[.agg F.cells, .agg #[.int .u64 x, .int .u64 y], .pointer (some ⟨g1, 0, none⟩), .pointer (some ⟨g2, 0, none⟩), .int .i64 0, .int .i64 0, .int .i64 0, .int .i64 best, .int .i64 (i : Int), .bool (okB F), .bool (!(okB F)), .int .i64 (i : Int), .bool (decide ((i : Int) < 100)), J1 13, J1 14, J1 15, J1 16, J1 17, J1 18, J1 19, J1 20, J1 21, J1 22, J1 23, J1 24, J1 25, J1 26, J1 27, J1 28, J1 29, J1 30, J1 31, J1 32, J1 33, J1 34, J1 35, J1 36, .int .i64 best, .bool (decide (best < 0)), undef, undef, undef, undef, undef, undef], []⟩) (by kernel_rfl) ?_
       have ce5 := hF.s1 ((best).toNat) (by omega)
       have ce6 := ok_cell h1 ((best).toNat) (by omega)
       refine region_go 9 [39, 40, 41, 42, 43, 44, 4, 5, 6] [[], [], [], [2, 1], [3], [4], [0], [5], []]
        (fun i_ => ([.val (.int .i64 best), .val (.int .i64 best), .val (.pointer (some ⟨g1, 102, none⟩)), .val (.pointer (some ⟨g1, 102 + (best).toNat, none⟩)), .val (.int .i16 (F.s ((best).toNat))), .val (.int .i64 (F.s ((best).toNat))), .val (.int .i64 best), .val (.int .i64 (F.s ((best).toNat))), .val (.int .i64 0)] : List Fct).getD i_ .any)
        (by kernel_rfl) (by kernel_rfl) (by decide) (by simp) rfl (all_succ (all_succ (all_succ (all_succ (all_succ (all_succ (all_succ (all_succ (all_succ all_zero ?_) ?_) ?_) ?_) ?_) ?_) ?_) ?_) ?_) ?_
       · refine step0 rfl rfl rfl (fun wr hw => ?_)
         exact OpRun.val (.int .i64 best) (.int .i64 best) (by kernel_rfl) rfl ⟨Ext.refl _, rfl⟩
       · refine step0 rfl rfl rfl (fun wr hw => ?_)
         exact OpRun.val (.int .i64 best) (.int .i64 best) (by kernel_rfl) rfl ⟨Ext.refl _, rfl⟩
       · refine step0 rfl rfl rfl (fun wr hw => ?_)
         exact OpRun.val (.pointer (some ⟨g1, 102, none⟩)) (.pointer (some ⟨g1, 102, none⟩)) (by kernel_rfl) rfl ⟨Ext.refl _, rfl⟩
       · refine step2 rfl rfl rfl rfl rfl (fun u0 u1 wr hw h0 h1 => ?_)
         cases h0
         cases h1
         exact OpRun.ixa (i := best) (k := .i64) (g := g1) (off := 102) arrt__100_int16 rfl (by kernel_rfl) (by kernel_rfl) (by omega) (by omega) ⟨Ext.refl _, rfl⟩
       · refine step1 rfl rfl rfl rfl (fun u0 wr hw h0 => ?_)
         cases h0
         exact OpRun.cell (g := g1) (off := 102 + (best).toNat) (v := .int .i16 (F.s ((best).toNat))) scal_int16 rfl (by kernel_rfl) ((B1.ext hw).get (Fld.gets _ _ (by omega))) ⟨Ext.refl _, rfl⟩
       · refine step1 rfl rfl rfl rfl (fun u0 wr hw h0 => ?_)
         cases h0
         exact OpRun.val (.int .i64 (IntKind.i64.wrap (F.s ((best).toNat)))) (.int .i64 (F.s ((best).toNat))) (by kernel_rfl) (by exact congrArg _ (IntWalk.i64_in _ (by omega))) ⟨Ext.refl _, rfl⟩
       · refine step1 rfl rfl rfl rfl (fun u0 wr hw h0 => ?_)
         cases h0
         exact OpRun.val (.int .i64 best) (.int .i64 best) (by kernel_rfl) rfl ⟨Ext.refl _, rfl⟩
       · refine step1 rfl rfl rfl rfl (fun u0 wr hw h0 => ?_)
         cases h0
         exact OpRun.val (.int .i64 (F.s ((best).toNat))) (.int .i64 (F.s ((best).toNat))) (by kernel_rfl) rfl ⟨Ext.refl _, rfl⟩
       · refine step0 rfl rfl rfl (fun wr hw => ?_)
         exact OpRun.val (.int .i64 0) (.int .i64 0) (by kernel_rfl) rfl ⟨Ext.refl _, rfl⟩
       refine end9 (fun u0 u1 u2 u3 u4 u5 u6 u7 u8 w8 E8 f0 f1 f2 f3 f4 f5 f6 f7 f8 => ?_)
       cases f0
       cases f1
       cases f2
       cases f3
       cases f4
       cases f5
       cases f6
       cases f7
       cases f8
       refine wpList_nil (then_normal ?_)
       refine wp_ret ?_
       have H7 := HL1.trans E8
       refine ret3 (.int .i64 (rich0 F x y)) (.int .i64 (rich1 F x y)) (.int .i64 (rich2 F x y)) rfl ?_ ?_ ?_ rfl ?_
       · refine (resT (v := .int .i64 best) (by kernel_rfl)).trans ?_
         refine congrArg (Value.int _) ?_
         first | (have hz_ := firstC_end hb_ (by omega) (by omega)) | skip
         try (have hr_ : best = richC F x y := by rw [richC_eq]; exact hz_)
         try subst hr_
         unfold rich0; first | rw [if_neg (by first | assumption | (simp [*]; done) | omega)] | rw [if_pos (by first | assumption | omega), if_pos (by omega)] | rw [if_pos (by first | assumption | omega), if_neg (by omega)]
       · refine (resT (v := .int .i64 (F.s ((best).toNat))) (by kernel_rfl)).trans ?_
         refine congrArg (Value.int _) ?_
         first | (have hz_ := firstC_end hb_ (by omega) (by omega)) | skip
         try (have hr_ : best = richC F x y := by rw [richC_eq]; exact hz_)
         try subst hr_
         unfold rich1; first | rw [if_neg (by first | assumption | (simp [*]; done) | omega)] | rw [if_pos (by first | assumption | omega), if_pos (by omega)] | rw [if_pos (by first | assumption | omega), if_neg (by omega)]
       · refine (resT (v := .int .i64 0) (by kernel_rfl)).trans ?_
         refine congrArg (Value.int _) ?_
         first | (have hz_ := firstC_end hb_ (by omega) (by omega)) | skip
         try (have hr_ : best = richC F x y := by rw [richC_eq]; exact hz_)
         try subst hr_
         unfold rich2; first | rw [if_neg (by first | assumption | (simp [*]; done) | omega)] | rw [if_pos (by first | assumption | omega), if_pos (by omega)] | rw [if_pos (by first | assumption | omega), if_neg (by omega)]
       exact ⟨rfl, H7⟩


--# iRichestIn_any
theorem iRichestIn_any (F : Fld) (hF : F.wf) (x y : Int) (w : World) :
 Calls Try.prog 21 #[.agg F.cells, .agg #[.int .u64 x, .int .u64 y]] w fun e w' => e = .returned (.tuple #[.int .i64 (rich0 F x y), .int .i64 (rich1 F x y), .int .i64 (rich2 F x y)]) ∧ Ext w w' := by
 refine calls_of_wp Try.func21 rfl ?_
 refine wp_frame (a' := ⟨#[.agg F.cells, .agg #[.int .u64 x, .int .u64 y], undef, undef, undef, undef, undef, undef, undef, undef, undef, undef, undef, undef, undef, undef, undef, undef, undef, undef, undef, undef], []⟩) (by kernel_rfl) ?_
 refine wsr ?_
 refine wbox F.cells ?_
 intro g1 w1 B1 E1 _
 refine wbox #[.int .u64 x, .int .u64 y] ?_
 intro g2 w2 B2 E2 _
 refine wv (.int .i64 0) ?_
 refine wv (.int .i64 0) ?_
 refine wv (.int .i64 0) ?_
 refine wpList_nil (then_normal ?_)
 refine wp_seq ?_
 refine wsr ?_
 replace B1 := B1.ext E2
 refine wrow row_impl_Field B1 (by exact Fld.size_cells _) ?_
 refine wcl (iValidField_any F hF _) ?_
 intro w3 E3
 refine wv (.bool (!(okB F))) ?_
 refine wpList_nil (then_normal ?_)
 have H1 := (((Ext.refl w).trans E1).trans E2).trans E3
 refine wsplit (!(okB F)) (fun h1 => ?_) (fun h1 => ?_)
 · skip
   replace h1 := nbT h1
   refine wsr ?_
   refine wv (.int .i64 0) ?_
   refine wv (.int .i64 0) ?_
   refine wv (.int .i64 1) ?_
   refine wpList_nil (then_normal ?_)
   refine wp_ret ?_
   refine then_ret ?_
   refine ret3 (.int .i64 (rich0 F x y)) (.int .i64 (rich1 F x y)) (.int .i64 (rich2 F x y)) rfl ?_ ?_ ?_ rfl ?_
   · refine (resT (v := .int .i64 0) (by kernel_rfl)).trans ?_
     refine congrArg (Value.int _) ?_
     unfold rich0; first | rw [if_neg (by first | assumption | (simp [*]; done) | omega)] | rw [if_pos (by first | assumption | omega), if_pos (by omega)] | rw [if_pos (by first | assumption | omega), if_neg (by omega)]
   · refine (resT (v := .int .i64 0) (by kernel_rfl)).trans ?_
     refine congrArg (Value.int _) ?_
     unfold rich1; first | rw [if_neg (by first | assumption | (simp [*]; done) | omega)] | rw [if_pos (by first | assumption | omega), if_pos (by omega)] | rw [if_pos (by first | assumption | omega), if_neg (by omega)]
   · refine (resT (v := .int .i64 1) (by kernel_rfl)).trans ?_
     refine congrArg (Value.int _) ?_
     unfold rich2; first | rw [if_neg (by first | assumption | (simp [*]; done) | omega)] | rw [if_pos (by first | assumption | omega), if_pos (by omega)] | rw [if_pos (by first | assumption | omega), if_neg (by omega)]
   exact ⟨rfl, H1⟩
 · skip
   replace h1 := nbF h1
   refine wp_skip ?_
   refine then_normal ?_
   refine wsr ?_
   replace B2 := B2.ext E3
   refine wrow row_impl_Cells B2 (by rfl) ?_
   refine wv (.func (.func 52) #[] #[.pointer (some ⟨g1, 0, none⟩)]) ?_
   replace B1 := B1.ext E3
   refine wcl (V := .int .i64 (richC F x y)) (S := fun w_ => Ext w3 w_) (by rw [richC_eq]; exact first_any F hF g1 _ x y (.func (.func 52) #[] #[.pointer (some ⟨g1, 0, none⟩)]) 52 (fun a_ b_ => #[.int .i64 a_, .int .i64 b_, .pointer (some ⟨g1, 0, none⟩)]) (fun a_ b_ => decide (F.s b_.toNat < F.s a_.toNat)) (fun _ _ _ => by kernel_rfl) _ B1 (fun a_ b_ _ Ia_ Ib_ E_ => by have Ja_ := isB_true.1 Ia_; have Jb_ := isB_true.1 Ib_; exact richest1_any a_ b_ (by omega) (by omega) F hF g1 _ _ (B1.ext E_))) ?_
   intro w4 E4
   have rc1 := richC_in F x y
   refine wv (.int .i64 (richC F x y)) ?_
   refine wpList_nil (then_normal ?_)
   refine wp_seq ?_
   refine wsr ?_
   refine wv (.int .i64 (richC F x y)) ?_
   refine wv (.bool (decide ((richC F x y) < 0))) ?_
   refine wpList_nil (then_normal ?_)
   refine wsplit (decide ((richC F x y) < 0)) (fun h2 => ?_) (fun h2 => ?_)
   · skip
     have h2d := dT h2
     refine wsr ?_
     refine wv (.int .i64 0) ?_
     refine wv (.int .i64 0) ?_
     refine wv (.int .i64 6) ?_
     refine wpList_nil (then_normal ?_)
     refine wp_ret ?_
     refine then_ret ?_
     have H2 := H1.trans E4
     refine ret3 (.int .i64 (rich0 F x y)) (.int .i64 (rich1 F x y)) (.int .i64 (rich2 F x y)) rfl ?_ ?_ ?_ rfl ?_
     · refine (resT (v := .int .i64 0) (by kernel_rfl)).trans ?_
       refine congrArg (Value.int _) ?_
       unfold rich0; first | rw [if_neg (by first | assumption | (simp [*]; done) | omega)] | rw [if_pos (by first | assumption | omega), if_pos (by omega)] | rw [if_pos (by first | assumption | omega), if_neg (by omega)]
     · refine (resT (v := .int .i64 0) (by kernel_rfl)).trans ?_
       refine congrArg (Value.int _) ?_
       unfold rich1; first | rw [if_neg (by first | assumption | (simp [*]; done) | omega)] | rw [if_pos (by first | assumption | omega), if_pos (by omega)] | rw [if_pos (by first | assumption | omega), if_neg (by omega)]
     · refine (resT (v := .int .i64 6) (by kernel_rfl)).trans ?_
       refine congrArg (Value.int _) ?_
       unfold rich2; first | rw [if_neg (by first | assumption | (simp [*]; done) | omega)] | rw [if_pos (by first | assumption | omega), if_pos (by omega)] | rw [if_pos (by first | assumption | omega), if_neg (by omega)]
     exact ⟨rfl, H2⟩
   · skip
     have h2d := dF h2
     refine wp_skip ?_
     refine then_normal ?_
     refine wp_seq ?_
     refine wp_frame (a' := ⟨#[.agg F.cells, .agg #[.int .u64 x, .int .u64 y], .pointer (some ⟨g1, 0, none⟩), .pointer (some ⟨g2, 0, none⟩), .int .i64 0, .int .i64 0, .int .i64 0, .int .i64 (richC F x y), .agg F.cells, .bool (okB F), .bool (!(okB F)), .agg #[.int .u64 x, .int .u64 y], .func (.func 52) #[] #[.pointer (some ⟨g1, 0, none⟩)], .int .i64 (richC F x y), .int .i64 (richC F x y), .bool (decide ((richC F x y) < 0)), undef, undef, undef, undef, undef, undef], []⟩) (by kernel_rfl) ?_
     replace B1 := B1.ext E4
     have ce1 := hF.s1 ((richC F x y).toNat) (by omega)
     have ce2 := ok_cell h1 ((richC F x y).toNat) (by omega)
     refine region_go 9 [16, 17, 18, 19, 20, 21, 4, 5, 6] [[], [], [], [2, 1], [3], [4], [0], [5], []]
      (fun i_ => ([.val (.int .i64 (richC F x y)), .val (.int .i64 (richC F x y)), .val (.pointer (some ⟨g1, 102, none⟩)), .val (.pointer (some ⟨g1, 102 + (richC F x y).toNat, none⟩)), .val (.int .i16 (F.s ((richC F x y).toNat))), .val (.int .i64 (F.s ((richC F x y).toNat))), .val (.int .i64 (richC F x y)), .val (.int .i64 (F.s ((richC F x y).toNat))), .val (.int .i64 0)] : List Fct).getD i_ .any)
      (by kernel_rfl) (by kernel_rfl) (by decide) (by simp) rfl (all_succ (all_succ (all_succ (all_succ (all_succ (all_succ (all_succ (all_succ (all_succ all_zero ?_) ?_) ?_) ?_) ?_) ?_) ?_) ?_) ?_) ?_
     · refine step0 rfl rfl rfl (fun wr hw => ?_)
       exact OpRun.val (.int .i64 (richC F x y)) (.int .i64 (richC F x y)) (by kernel_rfl) rfl ⟨Ext.refl _, rfl⟩
     · refine step0 rfl rfl rfl (fun wr hw => ?_)
       exact OpRun.val (.int .i64 (richC F x y)) (.int .i64 (richC F x y)) (by kernel_rfl) rfl ⟨Ext.refl _, rfl⟩
     · refine step0 rfl rfl rfl (fun wr hw => ?_)
       exact OpRun.val (.pointer (some ⟨g1, 102, none⟩)) (.pointer (some ⟨g1, 102, none⟩)) (by kernel_rfl) rfl ⟨Ext.refl _, rfl⟩
     · refine step2 rfl rfl rfl rfl rfl (fun u0 u1 wr hw h0 h1 => ?_)
       cases h0
       cases h1
       exact OpRun.ixa (i := richC F x y) (k := .i64) (g := g1) (off := 102) arrt__100_int16 rfl (by kernel_rfl) (by kernel_rfl) (by omega) (by omega) ⟨Ext.refl _, rfl⟩
     · refine step1 rfl rfl rfl rfl (fun u0 wr hw h0 => ?_)
       cases h0
       exact OpRun.cell (g := g1) (off := 102 + (richC F x y).toNat) (v := .int .i16 (F.s ((richC F x y).toNat))) scal_int16 rfl (by kernel_rfl) ((B1.ext hw).get (Fld.gets _ _ (by omega))) ⟨Ext.refl _, rfl⟩
     · refine step1 rfl rfl rfl rfl (fun u0 wr hw h0 => ?_)
       cases h0
       exact OpRun.val (.int .i64 (IntKind.i64.wrap (F.s ((richC F x y).toNat)))) (.int .i64 (F.s ((richC F x y).toNat))) (by kernel_rfl) (by exact congrArg _ (IntWalk.i64_in _ (by omega))) ⟨Ext.refl _, rfl⟩
     · refine step1 rfl rfl rfl rfl (fun u0 wr hw h0 => ?_)
       cases h0
       exact OpRun.val (.int .i64 (richC F x y)) (.int .i64 (richC F x y)) (by kernel_rfl) rfl ⟨Ext.refl _, rfl⟩
     · refine step1 rfl rfl rfl rfl (fun u0 wr hw h0 => ?_)
       cases h0
       exact OpRun.val (.int .i64 (F.s ((richC F x y).toNat))) (.int .i64 (F.s ((richC F x y).toNat))) (by kernel_rfl) rfl ⟨Ext.refl _, rfl⟩
     · refine step0 rfl rfl rfl (fun wr hw => ?_)
       exact OpRun.val (.int .i64 0) (.int .i64 0) (by kernel_rfl) rfl ⟨Ext.refl _, rfl⟩
     refine end9 (fun u0 u1 u2 u3 u4 u5 u6 u7 u8 w5 E5 f0 f1 f2 f3 f4 f5 f6 f7 f8 => ?_)
     cases f0
     cases f1
     cases f2
     cases f3
     cases f4
     cases f5
     cases f6
     cases f7
     cases f8
     refine wpList_nil (then_normal ?_)
     refine wp_ret ?_
     have H3 := (H1.trans E4).trans E5
     refine ret3 (.int .i64 (rich0 F x y)) (.int .i64 (rich1 F x y)) (.int .i64 (rich2 F x y)) rfl ?_ ?_ ?_ rfl ?_
     · refine (resT (v := .int .i64 (richC F x y)) (by kernel_rfl)).trans ?_
       refine congrArg (Value.int _) ?_
       unfold rich0; first | rw [if_neg (by first | assumption | (simp [*]; done) | omega)] | rw [if_pos (by first | assumption | omega), if_pos (by omega)] | rw [if_pos (by first | assumption | omega), if_neg (by omega)]
     · refine (resT (v := .int .i64 (F.s ((richC F x y).toNat))) (by kernel_rfl)).trans ?_
       refine congrArg (Value.int _) ?_
       unfold rich1; first | rw [if_neg (by first | assumption | (simp [*]; done) | omega)] | rw [if_pos (by first | assumption | omega), if_pos (by omega)] | rw [if_pos (by first | assumption | omega), if_neg (by omega)]
     · refine (resT (v := .int .i64 0) (by kernel_rfl)).trans ?_
       refine congrArg (Value.int _) ?_
       unfold rich2; first | rw [if_neg (by first | assumption | (simp [*]; done) | omega)] | rw [if_pos (by first | assumption | omega), if_pos (by omega)] | rw [if_pos (by first | assumption | omega), if_neg (by omega)]
     exact ⟨rfl, H3⟩

end Go.Proofs.Ytdhidmigngmgjaa
