/-
  Contracts: readers of flocks. Conditions: what the variables hold (TW).
-/
import Derived.Test.YteiplklloajjaaaDoorTy
import Derived.Test.YteiplklloajjaaaDoorSl
import Derived.Test.YteiplklloajjaaaDoorMth
import Derived.Test.YteiplklloajjaaaDoorFn29
import Derived.Test.YteiplklloajjaaaDoorRk
import Derived.Test.YteiplklloajjaaaDoorRt
namespace Go.Proofs.YteiplklloajjaaaDoor
open Go.RowKit
set_option linter.unusedSimpArgs false
set_option linter.unusedVariables false
set_option maxHeartbeats 4000000
set_option maxRecDepth 100000
attribute [local irreducible] wpList Code.wp
--# rows six
theorem row__6_int16 : RowT Tryd.prog 75 6 := ⟨_, Tryd.underlying75, rfl, by kernel_rfl⟩
theorem arrt__6_int16 : ArrT Tryd.prog 75 6 := ⟨_, Tryd.underlying75, by kernel_rfl⟩

--# numbersOf_any
theorem numbersOf_any (x0 x1 x2 x3 x4 x5 : Int) (b : Nat) (t : TypeId) (hx : 0 ≤ x0 ∧ x0 ≤ 100 ∧ 0 ≤ x1 ∧ x1 ≤ 100 ∧ 0 ≤ x2 ∧ x2 ≤ 100 ∧ 0 ≤ x3 ∧ x3 ≤ 100 ∧ 0 ≤ x4 ∧ x4 ≤ 100 ∧ 0 ≤ x5 ∧ x5 ≤ 100) (w : World) (hb : Blk w b t #[.int .i16 x0, .int .i16 x1, .int .i16 x2, .int .i16 x3, .int .i16 x4, .int .i8 x5]) :
 Calls Tryd.prog 46 #[.pointer (some ⟨b, 0, none⟩)] w fun e w' => e = .returned (.tuple #[.agg (arr 6 .i64 (listF6 x0 x1 x2 x3 x4 x5)), .agg (arr 6 .i64 (listF6 99 200 20 1000 200 2))]) ∧ Ext w w' := by
 refine calls_of_wp Tryd.func46 rfl ?_
 refine wp_frame (a' := ⟨#[.pointer (some ⟨b, 0, none⟩), undef, undef, undef, undef, undef, undef, undef, undef, undef, undef, undef, undef, undef, undef, undef, undef, undef, undef, undef, undef, undef, undef, undef, undef, undef, undef, undef, undef, undef, undef, undef, undef, undef, undef, undef], []⟩) (by kernel_rfl) ?_
 refine wsr ?_
 refine wnew (arr 6 .i64 (listF6 0 0 0 0 0 0)) Tryd.zeroValue79 (arr6 .i64 0 0 0 0 0 0) ?_
 intro g1 w1 B1 E1 hg_
 have q_b_g1 := Nat.ne_of_lt (Nat.lt_of_lt_of_le hb.lt hg_)
 have lo_g1 := Nat.le_trans ((Ext.refl w)).size hg_
 have H1 := (Ext.refl w).trans E1
 replace hb := hb.ext E1
 refine wnew (arr 6 .i64 (listF6 0 0 0 0 0 0)) Tryd.zeroValue79 (arr6 .i64 0 0 0 0 0 0) ?_
 intro g2 w2 B2 E2 hg_
 have q_b_g2 := Nat.ne_of_lt (Nat.lt_of_lt_of_le hb.lt hg_)
 have q_g1_g2 := Nat.ne_of_lt (Nat.lt_of_lt_of_le B1.lt hg_)
 have lo_g2 := Nat.le_trans (H1).size hg_
 refine wpList_nil (then_normal ?_)
 refine wp_seq ?_
 refine wp_frame (a' := ⟨#[.pointer (some ⟨b, 0, none⟩), undef, .pointer (some ⟨g1, 0, none⟩), .pointer (some ⟨g2, 0, none⟩), undef, undef, undef, undef, undef, undef, undef, undef, undef, undef, undef, undef, undef, undef, undef, undef, undef, undef, undef, undef, undef, undef, undef, undef, undef, undef, undef, undef, undef, undef, undef, undef], []⟩) (by kernel_rfl) ?_
 replace hb := hb.ext E2
 replace B1 := B1.ext E2
 refine RR.region_go 34 [4, 5, 6, 7, 8, 9, 10, 11, 12, 13, 14, 15, 16, 17, 18, 19, 20, 21, 22, 23, 24, 25, 26, 27, 28, 29, 30, 31, 32, 33, 34, 35, 1032, 1033] [[], [0], [1], [2], [3], [], [5], [6], [7], [8], [], [10], [11], [12], [13], [], [15], [16], [17], [18], [], [20], [21], [22], [23], [], [25], [26], [27], [28], [4, 9, 14, 19, 24, 29], [], [30], [31]] (RlT g1 79 (arr 6 .i64 (listF6 0 0 0 0 0 0)) (arr 6 .i64 (listF6 x0 x1 x2 x3 x4 x5)) g2 79 (arr 6 .i64 (listF6 0 0 0 0 0 0)) (arr 6 .i64 (listF6 99 200 20 1000 200 2)))
  (fun i_ => ([.val (.pointer (some ⟨b, 0, none⟩)), .val (.pointer (some ⟨b, 0, none⟩)), .val (.pointer (some ⟨b, 0, none⟩)), .val (.int .i16 x0), .val (.int .i64 x0), .val (.pointer (some ⟨b, 0, none⟩)), .val (.pointer (some ⟨b, 0, none⟩)), .val (.pointer (some ⟨b, 1, none⟩)), .val (.int .i16 x1), .val (.int .i64 x1), .val (.pointer (some ⟨b, 0, none⟩)), .val (.pointer (some ⟨b, 0, none⟩)), .val (.pointer (some ⟨b, 2, none⟩)), .val (.int .i16 x2), .val (.int .i64 x2), .val (.pointer (some ⟨b, 0, none⟩)), .val (.pointer (some ⟨b, 0, none⟩)), .val (.pointer (some ⟨b, 3, none⟩)), .val (.int .i16 x3), .val (.int .i64 x3), .val (.pointer (some ⟨b, 0, none⟩)), .val (.pointer (some ⟨b, 0, none⟩)), .val (.pointer (some ⟨b, 4, none⟩)), .val (.int .i16 x4), .val (.int .i64 x4), .val (.pointer (some ⟨b, 0, none⟩)), .val (.pointer (some ⟨b, 0, none⟩)), .val (.pointer (some ⟨b, 5, none⟩)), .val (.int .i8 x5), .val (.int .i64 x5), .val (.agg (arr 6 .i64 (listF6 x0 x1 x2 x3 x4 x5))), .val (.agg (arr 6 .i64 (listF6 99 200 20 1000 200 2))), fctG, fctK] : List (RR.Fct (RlT g1 79 (arr 6 .i64 (listF6 0 0 0 0 0 0)) (arr 6 .i64 (listF6 x0 x1 x2 x3 x4 x5)) g2 79 (arr 6 .i64 (listF6 0 0 0 0 0 0)) (arr 6 .i64 (listF6 99 200 20 1000 200 2))))).getD i_ .any)
  (by kernel_rfl) (by kernel_rfl) (by decide) RlT.refl RlT.trans RlT.drew rfl rfl (all_succ (all_succ (all_succ (all_succ (all_succ (all_succ (all_succ (all_succ (all_succ (all_succ (all_succ (all_succ (all_succ (all_succ (all_succ (all_succ (all_succ (all_succ (all_succ (all_succ (all_succ (all_succ (all_succ (all_succ (all_succ (all_succ (all_succ (all_succ (all_succ (all_succ (all_succ (all_succ (all_succ (all_succ all_zero ?_) ?_) ?_) ?_) ?_) ?_) ?_) ?_) ?_) ?_) ?_) ?_) ?_) ?_) ?_) ?_) ?_) ?_) ?_) ?_) ?_) ?_) ?_) ?_) ?_) ?_) ?_) ?_) ?_) ?_) ?_) ?_) ?_) ?_) ?_
 · refine RR.step0 rfl rfl rfl (fun wr hw => ?_)
   exact OpRun.val (.pointer (some ⟨b, 0, none⟩)) (.pointer (some ⟨b, 0, none⟩)) (by kernel_rfl) rfl ⟨RlT.refl _, rfl⟩
 · refine RR.step1 rfl rfl rfl rfl (fun u0 wr hw h0 => ?_)
   cases h0
   exact OpRun.val (.pointer (some ⟨b, 0, none⟩)) (.pointer (some ⟨b, 0, none⟩)) (by kernel_rfl) rfl ⟨RlT.refl _, rfl⟩
 · refine RR.step1 rfl rfl rfl rfl (fun u0 wr hw h0 => ?_)
   cases h0
   exact OpRun.val (.pointer (some ⟨b, 0, none⟩)) (.pointer (some ⟨b, 0, none⟩)) (by kernel_rfl) rfl ⟨RlT.refl _, rfl⟩
 · refine RR.step1 rfl rfl rfl rfl (fun u0 wr hw h0 => ?_)
   cases h0
   exact OpRun.cell (g := b) (off := 0) (v := .int .i16 x0) scal_int16 rfl (by kernel_rfl) ((hw.blk hb q_b_g1 q_b_g2).get (rfl)) ⟨RlT.refl _, rfl⟩
 · refine RR.step1 rfl rfl rfl rfl (fun u0 wr hw h0 => ?_)
   cases h0
   exact OpRun.val (.int .i64 (IntKind.i64.wrap x0)) (.int .i64 x0) (by kernel_rfl) (by exact congrArg _ (IntWalk.i64_in _ (by omega))) ⟨RlT.refl _, rfl⟩
 · refine RR.step0 rfl rfl rfl (fun wr hw => ?_)
   exact OpRun.val (.pointer (some ⟨b, 0, none⟩)) (.pointer (some ⟨b, 0, none⟩)) (by kernel_rfl) rfl ⟨RlT.refl _, rfl⟩
 · refine RR.step1 rfl rfl rfl rfl (fun u0 wr hw h0 => ?_)
   cases h0
   exact OpRun.val (.pointer (some ⟨b, 0, none⟩)) (.pointer (some ⟨b, 0, none⟩)) (by kernel_rfl) rfl ⟨RlT.refl _, rfl⟩
 · refine RR.step1 rfl rfl rfl rfl (fun u0 wr hw h0 => ?_)
   cases h0
   exact OpRun.val (.pointer (some ⟨b, 1, none⟩)) (.pointer (some ⟨b, 1, none⟩)) (by kernel_rfl) rfl ⟨RlT.refl _, rfl⟩
 · refine RR.step1 rfl rfl rfl rfl (fun u0 wr hw h0 => ?_)
   cases h0
   exact OpRun.cell (g := b) (off := 1) (v := .int .i16 x1) scal_int16 rfl (by kernel_rfl) ((hw.blk hb q_b_g1 q_b_g2).get (rfl)) ⟨RlT.refl _, rfl⟩
 · refine RR.step1 rfl rfl rfl rfl (fun u0 wr hw h0 => ?_)
   cases h0
   exact OpRun.val (.int .i64 (IntKind.i64.wrap x1)) (.int .i64 x1) (by kernel_rfl) (by exact congrArg _ (IntWalk.i64_in _ (by omega))) ⟨RlT.refl _, rfl⟩
 · refine RR.step0 rfl rfl rfl (fun wr hw => ?_)
   exact OpRun.val (.pointer (some ⟨b, 0, none⟩)) (.pointer (some ⟨b, 0, none⟩)) (by kernel_rfl) rfl ⟨RlT.refl _, rfl⟩
 · refine RR.step1 rfl rfl rfl rfl (fun u0 wr hw h0 => ?_)
   cases h0
   exact OpRun.val (.pointer (some ⟨b, 0, none⟩)) (.pointer (some ⟨b, 0, none⟩)) (by kernel_rfl) rfl ⟨RlT.refl _, rfl⟩
 · refine RR.step1 rfl rfl rfl rfl (fun u0 wr hw h0 => ?_)
   cases h0
   exact OpRun.val (.pointer (some ⟨b, 2, none⟩)) (.pointer (some ⟨b, 2, none⟩)) (by kernel_rfl) rfl ⟨RlT.refl _, rfl⟩
 · refine RR.step1 rfl rfl rfl rfl (fun u0 wr hw h0 => ?_)
   cases h0
   exact OpRun.cell (g := b) (off := 2) (v := .int .i16 x2) scal_int16 rfl (by kernel_rfl) ((hw.blk hb q_b_g1 q_b_g2).get (rfl)) ⟨RlT.refl _, rfl⟩
 · refine RR.step1 rfl rfl rfl rfl (fun u0 wr hw h0 => ?_)
   cases h0
   exact OpRun.val (.int .i64 (IntKind.i64.wrap x2)) (.int .i64 x2) (by kernel_rfl) (by exact congrArg _ (IntWalk.i64_in _ (by omega))) ⟨RlT.refl _, rfl⟩
 · refine RR.step0 rfl rfl rfl (fun wr hw => ?_)
   exact OpRun.val (.pointer (some ⟨b, 0, none⟩)) (.pointer (some ⟨b, 0, none⟩)) (by kernel_rfl) rfl ⟨RlT.refl _, rfl⟩
 · refine RR.step1 rfl rfl rfl rfl (fun u0 wr hw h0 => ?_)
   cases h0
   exact OpRun.val (.pointer (some ⟨b, 0, none⟩)) (.pointer (some ⟨b, 0, none⟩)) (by kernel_rfl) rfl ⟨RlT.refl _, rfl⟩
 · refine RR.step1 rfl rfl rfl rfl (fun u0 wr hw h0 => ?_)
   cases h0
   exact OpRun.val (.pointer (some ⟨b, 3, none⟩)) (.pointer (some ⟨b, 3, none⟩)) (by kernel_rfl) rfl ⟨RlT.refl _, rfl⟩
 · refine RR.step1 rfl rfl rfl rfl (fun u0 wr hw h0 => ?_)
   cases h0
   exact OpRun.cell (g := b) (off := 3) (v := .int .i16 x3) scal_int16 rfl (by kernel_rfl) ((hw.blk hb q_b_g1 q_b_g2).get (rfl)) ⟨RlT.refl _, rfl⟩
 · refine RR.step1 rfl rfl rfl rfl (fun u0 wr hw h0 => ?_)
   cases h0
   exact OpRun.val (.int .i64 (IntKind.i64.wrap x3)) (.int .i64 x3) (by kernel_rfl) (by exact congrArg _ (IntWalk.i64_in _ (by omega))) ⟨RlT.refl _, rfl⟩
 · refine RR.step0 rfl rfl rfl (fun wr hw => ?_)
   exact OpRun.val (.pointer (some ⟨b, 0, none⟩)) (.pointer (some ⟨b, 0, none⟩)) (by kernel_rfl) rfl ⟨RlT.refl _, rfl⟩
 · refine RR.step1 rfl rfl rfl rfl (fun u0 wr hw h0 => ?_)
   cases h0
   exact OpRun.val (.pointer (some ⟨b, 0, none⟩)) (.pointer (some ⟨b, 0, none⟩)) (by kernel_rfl) rfl ⟨RlT.refl _, rfl⟩
 · refine RR.step1 rfl rfl rfl rfl (fun u0 wr hw h0 => ?_)
   cases h0
   exact OpRun.val (.pointer (some ⟨b, 4, none⟩)) (.pointer (some ⟨b, 4, none⟩)) (by kernel_rfl) rfl ⟨RlT.refl _, rfl⟩
 · refine RR.step1 rfl rfl rfl rfl (fun u0 wr hw h0 => ?_)
   cases h0
   exact OpRun.cell (g := b) (off := 4) (v := .int .i16 x4) scal_int16 rfl (by kernel_rfl) ((hw.blk hb q_b_g1 q_b_g2).get (rfl)) ⟨RlT.refl _, rfl⟩
 · refine RR.step1 rfl rfl rfl rfl (fun u0 wr hw h0 => ?_)
   cases h0
   exact OpRun.val (.int .i64 (IntKind.i64.wrap x4)) (.int .i64 x4) (by kernel_rfl) (by exact congrArg _ (IntWalk.i64_in _ (by omega))) ⟨RlT.refl _, rfl⟩
 · refine RR.step0 rfl rfl rfl (fun wr hw => ?_)
   exact OpRun.val (.pointer (some ⟨b, 0, none⟩)) (.pointer (some ⟨b, 0, none⟩)) (by kernel_rfl) rfl ⟨RlT.refl _, rfl⟩
 · refine RR.step1 rfl rfl rfl rfl (fun u0 wr hw h0 => ?_)
   cases h0
   exact OpRun.val (.pointer (some ⟨b, 0, none⟩)) (.pointer (some ⟨b, 0, none⟩)) (by kernel_rfl) rfl ⟨RlT.refl _, rfl⟩
 · refine RR.step1 rfl rfl rfl rfl (fun u0 wr hw h0 => ?_)
   cases h0
   exact OpRun.val (.pointer (some ⟨b, 5, none⟩)) (.pointer (some ⟨b, 5, none⟩)) (by kernel_rfl) rfl ⟨RlT.refl _, rfl⟩
 · refine RR.step1 rfl rfl rfl rfl (fun u0 wr hw h0 => ?_)
   cases h0
   exact OpRun.cell (g := b) (off := 5) (v := .int .i8 x5) scal_int8 rfl (by kernel_rfl) ((hw.blk hb q_b_g1 q_b_g2).get (rfl)) ⟨RlT.refl _, rfl⟩
 · refine RR.step1 rfl rfl rfl rfl (fun u0 wr hw h0 => ?_)
   cases h0
   exact OpRun.val (.int .i64 (IntKind.i64.wrap x5)) (.int .i64 x5) (by kernel_rfl) (by exact congrArg _ (IntWalk.i64_in _ (by omega))) ⟨RlT.refl _, rfl⟩
 · refine RR.step6 rfl rfl rfl rfl rfl rfl rfl rfl rfl (fun u0 u1 u2 u3 u4 u5 wr hw h0 h1 h2 h3 h4 h5 => ?_)
   cases h0
   cases h1
   cases h2
   cases h3
   cases h4
   cases h5
   exact OpRun.val (.agg #[.int .i64 x0, .int .i64 x1, .int .i64 x2, .int .i64 x3, .int .i64 x4, .int .i64 x5]) (.agg (arr 6 .i64 (listF6 x0 x1 x2 x3 x4 x5))) (by kernel_rfl) (by exact congrArg Value.agg (arr6 _ _ _ _ _ _ _)) ⟨RlT.refl _, rfl⟩
 · refine RR.step0 rfl rfl rfl (fun wr hw => ?_)
   exact OpRun.val (.agg #[.int .i64 99, .int .i64 200, .int .i64 20, .int .i64 1000, .int .i64 200, .int .i64 2]) (.agg (arr 6 .i64 (listF6 99 200 20 1000 200 2))) (by kernel_rfl) (by exact congrArg Value.agg (arr6 _ _ _ _ _ _ _)) ⟨RlT.refl _, rfl⟩
 · refine RR.step1 rfl rfl rfl rfl (fun u0 wr hw h0 => ?_)
   cases h0
   exact putG hw B1 q_g1_g2 row__6_int64 (by exact size_arr _ _ _) (by exact size_arr _ _ _) (by exact one_arr _ _ _) rfl (by kernel_rfl) (by kernel_rfl)
 · refine RR.step1 rfl rfl rfl rfl (fun u0 wr hw h0 => ?_)
   cases h0
   exact putK hw B2 q_g1_g2 row__6_int64 (by exact size_arr _ _ _) (by exact size_arr _ _ _) (by exact one_arr _ _ _) rfl (by kernel_rfl) (by kernel_rfl)
 refine RR.end34 (fun u0 u1 u2 u3 u4 u5 u6 u7 u8 u9 u10 u11 u12 u13 u14 u15 u16 u17 u18 u19 u20 u21 u22 u23 u24 u25 u26 u27 u28 u29 u30 u31 u32 u33 w3 E3 f0 f1 f2 f3 f4 f5 f6 f7 f8 f9 f10 f11 f12 f13 f14 f15 f16 f17 f18 f19 f20 f21 f22 f23 f24 f25 f26 f27 f28 f29 f30 f31 f32 f33 => ?_)
 cases f0
 cases f1
 cases f2
 cases f3
 cases f4
 cases f5
 cases f6
 cases f7
 cases f8
 cases f9
 cases f10
 cases f11
 cases f12
 cases f13
 cases f14
 cases f15
 cases f16
 cases f17
 cases f18
 cases f19
 cases f20
 cases f21
 cases f22
 cases f23
 cases f24
 cases f25
 cases f26
 cases f27
 cases f28
 cases f29
 cases f30
 cases f31
 obtain ⟨rfl, f32⟩ := f32
 obtain ⟨rfl, f33⟩ := f33
 have H2 := H1.trans E2
 clear B1; have B1 := f32
 clear B2; have B2 := f33
 replace hb := E3.blk hb q_b_g1 q_b_g2
 have H3 : Ext w w3 := E3.ext w lo_g1 lo_g2 H2
 refine wpList_nil (then_normal ?_)
 refine wp_frame (a' := ⟨#[.pointer (some ⟨b, 0, none⟩), undef, .pointer (some ⟨g1, 0, none⟩), .pointer (some ⟨g2, 0, none⟩), .pointer (some ⟨b, 0, none⟩), .pointer (some ⟨b, 0, none⟩), .pointer (some ⟨b, 0, none⟩), .int .i16 x0, .int .i64 x0, .pointer (some ⟨b, 0, none⟩), .pointer (some ⟨b, 0, none⟩), .pointer (some ⟨b, 1, none⟩), .int .i16 x1, .int .i64 x1, .pointer (some ⟨b, 0, none⟩), .pointer (some ⟨b, 0, none⟩), .pointer (some ⟨b, 2, none⟩), .int .i16 x2, .int .i64 x2, .pointer (some ⟨b, 0, none⟩), .pointer (some ⟨b, 0, none⟩), .pointer (some ⟨b, 3, none⟩), .int .i16 x3, .int .i64 x3, .pointer (some ⟨b, 0, none⟩), .pointer (some ⟨b, 0, none⟩), .pointer (some ⟨b, 4, none⟩), .int .i16 x4, .int .i64 x4, .pointer (some ⟨b, 0, none⟩), .pointer (some ⟨b, 0, none⟩), .pointer (some ⟨b, 5, none⟩), .int .i8 x5, .int .i64 x5, .agg (arr 6 .i64 (listF6 x0 x1 x2 x3 x4 x5)), .agg (arr 6 .i64 (listF6 99 200 20 1000 200 2))], []⟩) (by kernel_rfl) ?_
 refine wp_ret ?_
 refine ret2 (.agg (arr 6 .i64 (listF6 x0 x1 x2 x3 x4 x5))) (.agg (arr 6 .i64 (listF6 99 200 20 1000 200 2))) rfl ?_ ?_ rfl ?_
 · refine ⟨g1, 79, (arr 6 .i64 (listF6 x0 x1 x2 x3 x4 x5)), _, by kernel_rfl, B1, row__6_int64, ?_, ?_⟩
   · exact size_arr _ _ _
   · rfl
 · refine ⟨g2, 79, (arr 6 .i64 (listF6 99 200 20 1000 200 2)), _, by kernel_rfl, B2, row__6_int64, ?_, ?_⟩
   · exact size_arr _ _ _
   · rfl
 exact ⟨rfl, H3⟩


--# l02Plain_any
theorem l02Plain_any (i : Nat) (n : Nat) (f : Nat → Nat → Int) (b cap : Nat) (cs : Array Value) (hS : SlX cs n cap 6 [.i16, .i16, .i16, .i16, .i16, .i8] f) (hn : n ≤ 2097152) (hf : ∀ a c, a < n → c < 6 → 0 ≤ f a c ∧ f a c ≤ 999999999) (hi : i < n) (w : World) (hb : Blk w b 77 cs) :
 Calls Tryd.prog 65 #[.pointer (some ⟨b, 0 + i * 6, none⟩)] w fun e w' => e = .returned (.bool (fkR (f i))) ∧ Ext w w' := by
 have r0_ := hf i 0 hi (by omega)
 have r1_ := hf i 1 hi (by omega)
 have r2_ := hf i 2 hi (by omega)
 have r3_ := hf i 3 hi (by omega)
 have r4_ := hf i 4 hi (by omega)
 have r5_ := hf i 5 hi (by omega)
 refine calls_of_wp Tryd.func65 rfl ?_
 refine wp_frame (a' := ⟨#[.pointer (some ⟨b, 0 + i * 6, none⟩), undef, undef, undef, undef, undef, undef, undef, undef, undef, undef, undef, undef, undef, undef, undef, undef, undef, undef, undef, undef, undef, undef, undef, undef, undef, undef, undef, undef, undef, undef, undef, undef, undef, undef, undef, undef, undef, undef, undef, undef], []⟩) (by kernel_rfl) ?_
 refine wsr ?_
 refine wv (.bool false) ?_
 refine wpList_nil (then_normal ?_)
 refine wsr ?_
 refine wv (.pointer (some ⟨b, 0 + i * 6, none⟩)) ?_
 refine wv (.pointer (some ⟨b, 0 + i * 6, none⟩)) ?_
 refine wv (.pointer (some ⟨b, 0 + i * 6 + 1, none⟩)) ?_
 refine wld b (0 + i * 6 + 1) scal_int16 (hb.get (hS.cell (i := i) (c := 1) (by omega) (by decide) rfl)) ?_
 refine wi64 (f i 1) ?_
 refine wcl (l00In_any (f i 1) 0 200 _) ?_
 intro w1 E1
 refine wv (.bool (inB (f i 1) 0 200)) ?_
 refine split_bool (inB (f i 1) 0 200) (fun h1 => ?_) (fun h1 => ?_)
 · skip
   refine wbl 9 true h1 ?_
   have h1d := inT h1
   refine wv (.pointer (some ⟨b, 0 + i * 6, none⟩)) ?_
   refine wv (.pointer (some ⟨b, 0 + i * 6, none⟩)) ?_
   refine wv (.pointer (some ⟨b, 0 + i * 6 + 2, none⟩)) ?_
   replace hb := hb.ext E1
   refine wld b (0 + i * 6 + 2) scal_int16 (hb.get (hS.cell (i := i) (c := 2) (by omega) (by decide) rfl)) ?_
   refine wi64 (f i 2) ?_
   refine wcl (l00In_any (f i 2) 0 20 _) ?_
   intro w2 E2
   refine wv (.bool (inB (f i 2) 0 20)) ?_
   refine wv (.bool (inB (f i 2) 0 20)) ?_
   have H1 := ((Ext.refl w).trans E1).trans E2
   refine split_bool (inB (f i 2) 0 20) (fun h2 => ?_) (fun h2 => ?_)
   · skip
     refine wbl 17 true h2 ?_
     have h2d := inT h2
     refine wv (.pointer (some ⟨b, 0 + i * 6, none⟩)) ?_
     refine wv (.pointer (some ⟨b, 0 + i * 6, none⟩)) ?_
     refine wv (.pointer (some ⟨b, 0 + i * 6 + 3, none⟩)) ?_
     replace hb := hb.ext E2
     refine wld b (0 + i * 6 + 3) scal_int16 (hb.get (hS.cell (i := i) (c := 3) (by omega) (by decide) rfl)) ?_
     refine wi64 (f i 3) ?_
     refine wcl (l00In_any (f i 3) 0 1000 _) ?_
     intro w3 E3
     refine wv (.bool (inB (f i 3) 0 1000)) ?_
     refine wv (.bool (inB (f i 3) 0 1000)) ?_
     refine split_bool (inB (f i 3) 0 1000) (fun h3 => ?_) (fun h3 => ?_)
     · skip
       refine wbl 25 true h3 ?_
       have h3d := inT h3
       refine wv (.pointer (some ⟨b, 0 + i * 6, none⟩)) ?_
       refine wv (.pointer (some ⟨b, 0 + i * 6, none⟩)) ?_
       refine wv (.pointer (some ⟨b, 0 + i * 6 + 4, none⟩)) ?_
       replace hb := hb.ext E3
       refine wld b (0 + i * 6 + 4) scal_int16 (hb.get (hS.cell (i := i) (c := 4) (by omega) (by decide) rfl)) ?_
       refine wi64 (f i 4) ?_
       refine wcl (l00In_any (f i 4) 0 200 _) ?_
       intro w4 E4
       refine wv (.bool (inB (f i 4) 0 200)) ?_
       refine wv (.bool (inB (f i 4) 0 200)) ?_
       have H2 := (H1.trans E3).trans E4
       refine split_bool (inB (f i 4) 0 200) (fun h4 => ?_) (fun h4 => ?_)
       · skip
         refine wbl 33 true h4 ?_
         have h4d := inT h4
         refine wv (.pointer (some ⟨b, 0 + i * 6, none⟩)) ?_
         refine wv (.pointer (some ⟨b, 0 + i * 6, none⟩)) ?_
         refine wv (.pointer (some ⟨b, 0 + i * 6 + 5, none⟩)) ?_
         replace hb := hb.ext E4
         refine wld b (0 + i * 6 + 5) scal_int8 (hb.get (hS.cell (i := i) (c := 5) (by omega) (by decide) rfl)) ?_
         refine wi64 (f i 5) ?_
         refine wcl (l00In_any (f i 5) 0 2 _) ?_
         intro w5 E5
         refine wv (.bool (inB (f i 5) 0 2)) ?_
         refine wv (.bool (inB (f i 5) 0 2)) ?_
         refine wpList_nil (then_normal ?_)
         refine wp_frame (a' := ⟨#[.pointer (some ⟨b, 0 + i * 6, none⟩), undef, .bool (inB (f i 5) 0 2), .pointer (some ⟨b, 0 + i * 6, none⟩), .pointer (some ⟨b, 0 + i * 6, none⟩), .pointer (some ⟨b, 0 + i * 6 + 1, none⟩), .int .i16 (f i 1), .int .i64 (f i 1), .bool (inB (f i 1) 0 200), .bool true, .pointer (some ⟨b, 0 + i * 6, none⟩), .pointer (some ⟨b, 0 + i * 6, none⟩), .pointer (some ⟨b, 0 + i * 6 + 2, none⟩), .int .i16 (f i 2), .int .i64 (f i 2), .bool (inB (f i 2) 0 20), .bool (inB (f i 2) 0 20), .bool true, .pointer (some ⟨b, 0 + i * 6, none⟩), .pointer (some ⟨b, 0 + i * 6, none⟩), .pointer (some ⟨b, 0 + i * 6 + 3, none⟩), .int .i16 (f i 3), .int .i64 (f i 3), .bool (inB (f i 3) 0 1000), .bool (inB (f i 3) 0 1000), .bool true, .pointer (some ⟨b, 0 + i * 6, none⟩), .pointer (some ⟨b, 0 + i * 6, none⟩), .pointer (some ⟨b, 0 + i * 6 + 4, none⟩), .int .i16 (f i 4), .int .i64 (f i 4), .bool (inB (f i 4) 0 200), .bool (inB (f i 4) 0 200), .bool true, .pointer (some ⟨b, 0 + i * 6, none⟩), .pointer (some ⟨b, 0 + i * 6, none⟩), .pointer (some ⟨b, 0 + i * 6 + 5, none⟩), .int .i8 (f i 5), .int .i64 (f i 5), .bool (inB (f i 5) 0 2), .bool (inB (f i 5) 0 2)], []⟩) (by kernel_rfl) ?_
         refine wp_ret ?_
         have H3 := H2.trans E5
         refine ret1 (.bool (fkR (f i))) rfl ?_ rfl ?_
         · refine (resT (v := .bool (inB (f i 5) 0 2)) (by kernel_rfl)).trans ?_
           refine congrArg Value.bool ?_
           first | (rw [fkR_1 (by assumption)]; done) | (rw [fkR_2 (by assumption)]; done) | (rw [fkR_3 (by assumption)]; done) | (rw [fkR_4 (by assumption)]; done) | (rw [fkR_5 (by assumption) (by assumption) (by assumption) (by assumption)]; done)
         exact ⟨rfl, H3⟩
       · skip
         refine wbl 33 false h4 ?_
         have h4d := inF h4
         refine wsk ?_
         refine wsk ?_
         refine wsk ?_
         refine wsk ?_
         refine wsk ?_
         refine wsk ?_
         refine wv (.bool false) ?_
         refine wv (.bool false) ?_
         refine wpList_nil (then_normal ?_)
         refine wp_frame (a' := ⟨#[.pointer (some ⟨b, 0 + i * 6, none⟩), undef, .bool false, .pointer (some ⟨b, 0 + i * 6, none⟩), .pointer (some ⟨b, 0 + i * 6, none⟩), .pointer (some ⟨b, 0 + i * 6 + 1, none⟩), .int .i16 (f i 1), .int .i64 (f i 1), .bool (inB (f i 1) 0 200), .bool true, .pointer (some ⟨b, 0 + i * 6, none⟩), .pointer (some ⟨b, 0 + i * 6, none⟩), .pointer (some ⟨b, 0 + i * 6 + 2, none⟩), .int .i16 (f i 2), .int .i64 (f i 2), .bool (inB (f i 2) 0 20), .bool (inB (f i 2) 0 20), .bool true, .pointer (some ⟨b, 0 + i * 6, none⟩), .pointer (some ⟨b, 0 + i * 6, none⟩), .pointer (some ⟨b, 0 + i * 6 + 3, none⟩), .int .i16 (f i 3), .int .i64 (f i 3), .bool (inB (f i 3) 0 1000), .bool (inB (f i 3) 0 1000), .bool true, .pointer (some ⟨b, 0 + i * 6, none⟩), .pointer (some ⟨b, 0 + i * 6, none⟩), .pointer (some ⟨b, 0 + i * 6 + 4, none⟩), .int .i16 (f i 4), .int .i64 (f i 4), .bool (inB (f i 4) 0 200), .bool (inB (f i 4) 0 200), .bool false, undef, undef, undef, undef, undef, undef, .bool false], []⟩) (by kernel_rfl) ?_
         refine wp_ret ?_
         refine ret1 (.bool (fkR (f i))) rfl ?_ rfl ?_
         · refine (resT (v := .bool false) (by kernel_rfl)).trans ?_
           refine congrArg Value.bool ?_
           first | (rw [fkR_1 (by assumption)]; done) | (rw [fkR_2 (by assumption)]; done) | (rw [fkR_3 (by assumption)]; done) | (rw [fkR_4 (by assumption)]; done) | (rw [fkR_5 (by assumption) (by assumption) (by assumption) (by assumption)]; done)
         exact ⟨rfl, H2⟩
     · skip
       refine wbl 25 false h3 ?_
       have h3d := inF h3
       refine wsk ?_
       refine wsk ?_
       refine wsk ?_
       refine wsk ?_
       refine wsk ?_
       refine wsk ?_
       refine wv (.bool false) ?_
       refine wv (.bool false) ?_
       refine wsk ?_
       refine wsk ?_
       refine wsk ?_
       refine wsk ?_
       refine wsk ?_
       refine wsk ?_
       refine wv (.bool false) ?_
       refine wv (.bool false) ?_
       refine wpList_nil (then_normal ?_)
       refine wp_frame (a' := ⟨#[.pointer (some ⟨b, 0 + i * 6, none⟩), undef, .bool false, .pointer (some ⟨b, 0 + i * 6, none⟩), .pointer (some ⟨b, 0 + i * 6, none⟩), .pointer (some ⟨b, 0 + i * 6 + 1, none⟩), .int .i16 (f i 1), .int .i64 (f i 1), .bool (inB (f i 1) 0 200), .bool true, .pointer (some ⟨b, 0 + i * 6, none⟩), .pointer (some ⟨b, 0 + i * 6, none⟩), .pointer (some ⟨b, 0 + i * 6 + 2, none⟩), .int .i16 (f i 2), .int .i64 (f i 2), .bool (inB (f i 2) 0 20), .bool (inB (f i 2) 0 20), .bool true, .pointer (some ⟨b, 0 + i * 6, none⟩), .pointer (some ⟨b, 0 + i * 6, none⟩), .pointer (some ⟨b, 0 + i * 6 + 3, none⟩), .int .i16 (f i 3), .int .i64 (f i 3), .bool (inB (f i 3) 0 1000), .bool (inB (f i 3) 0 1000), .bool false, undef, undef, undef, undef, undef, undef, .bool false, .bool false, undef, undef, undef, undef, undef, undef, .bool false], []⟩) (by kernel_rfl) ?_
       refine wp_ret ?_
       have H4 := H1.trans E3
       refine ret1 (.bool (fkR (f i))) rfl ?_ rfl ?_
       · refine (resT (v := .bool false) (by kernel_rfl)).trans ?_
         refine congrArg Value.bool ?_
         first | (rw [fkR_1 (by assumption)]; done) | (rw [fkR_2 (by assumption)]; done) | (rw [fkR_3 (by assumption)]; done) | (rw [fkR_4 (by assumption)]; done) | (rw [fkR_5 (by assumption) (by assumption) (by assumption) (by assumption)]; done)
       exact ⟨rfl, H4⟩
   · skip
     refine wbl 17 false h2 ?_
     have h2d := inF h2
     refine wsk ?_
     refine wsk ?_
     refine wsk ?_
     refine wsk ?_
     refine wsk ?_
     refine wsk ?_
     refine wv (.bool false) ?_
     refine wv (.bool false) ?_
     refine wsk ?_
     refine wsk ?_
     refine wsk ?_
     refine wsk ?_
     refine wsk ?_
     refine wsk ?_
     refine wv (.bool false) ?_
     refine wv (.bool false) ?_
     refine wsk ?_
     refine wsk ?_
     refine wsk ?_
     refine wsk ?_
     refine wsk ?_
     refine wsk ?_
     refine wv (.bool false) ?_
     refine wv (.bool false) ?_
     refine wpList_nil (then_normal ?_)
     refine wp_frame (a' := ⟨#[.pointer (some ⟨b, 0 + i * 6, none⟩), undef, .bool false, .pointer (some ⟨b, 0 + i * 6, none⟩), .pointer (some ⟨b, 0 + i * 6, none⟩), .pointer (some ⟨b, 0 + i * 6 + 1, none⟩), .int .i16 (f i 1), .int .i64 (f i 1), .bool (inB (f i 1) 0 200), .bool true, .pointer (some ⟨b, 0 + i * 6, none⟩), .pointer (some ⟨b, 0 + i * 6, none⟩), .pointer (some ⟨b, 0 + i * 6 + 2, none⟩), .int .i16 (f i 2), .int .i64 (f i 2), .bool (inB (f i 2) 0 20), .bool (inB (f i 2) 0 20), .bool false, undef, undef, undef, undef, undef, undef, .bool false, .bool false, undef, undef, undef, undef, undef, undef, .bool false, .bool false, undef, undef, undef, undef, undef, undef, .bool false], []⟩) (by kernel_rfl) ?_
     refine wp_ret ?_
     refine ret1 (.bool (fkR (f i))) rfl ?_ rfl ?_
     · refine (resT (v := .bool false) (by kernel_rfl)).trans ?_
       refine congrArg Value.bool ?_
       first | (rw [fkR_1 (by assumption)]; done) | (rw [fkR_2 (by assumption)]; done) | (rw [fkR_3 (by assumption)]; done) | (rw [fkR_4 (by assumption)]; done) | (rw [fkR_5 (by assumption) (by assumption) (by assumption) (by assumption)]; done)
     exact ⟨rfl, H1⟩
 · skip
   refine wbl 9 false h1 ?_
   have h1d := inF h1
   refine wsk ?_
   refine wsk ?_
   refine wsk ?_
   refine wsk ?_
   refine wsk ?_
   refine wsk ?_
   refine wv (.bool false) ?_
   refine wv (.bool false) ?_
   refine wsk ?_
   refine wsk ?_
   refine wsk ?_
   refine wsk ?_
   refine wsk ?_
   refine wsk ?_
   refine wv (.bool false) ?_
   refine wv (.bool false) ?_
   refine wsk ?_
   refine wsk ?_
   refine wsk ?_
   refine wsk ?_
   refine wsk ?_
   refine wsk ?_
   refine wv (.bool false) ?_
   refine wv (.bool false) ?_
   refine wsk ?_
   refine wsk ?_
   refine wsk ?_
   refine wsk ?_
   refine wsk ?_
   refine wsk ?_
   refine wv (.bool false) ?_
   refine wv (.bool false) ?_
   refine wpList_nil (then_normal ?_)
   refine wp_frame (a' := ⟨#[.pointer (some ⟨b, 0 + i * 6, none⟩), undef, .bool false, .pointer (some ⟨b, 0 + i * 6, none⟩), .pointer (some ⟨b, 0 + i * 6, none⟩), .pointer (some ⟨b, 0 + i * 6 + 1, none⟩), .int .i16 (f i 1), .int .i64 (f i 1), .bool (inB (f i 1) 0 200), .bool false, undef, undef, undef, undef, undef, undef, .bool false, .bool false, undef, undef, undef, undef, undef, undef, .bool false, .bool false, undef, undef, undef, undef, undef, undef, .bool false, .bool false, undef, undef, undef, undef, undef, undef, .bool false], []⟩) (by kernel_rfl) ?_
   refine wp_ret ?_
   have H5 := (Ext.refl w).trans E1
   refine ret1 (.bool (fkR (f i))) rfl ?_ rfl ?_
   · refine (resT (v := .bool false) (by kernel_rfl)).trans ?_
     refine congrArg Value.bool ?_
     first | (rw [fkR_1 (by assumption)]; done) | (rw [fkR_2 (by assumption)]; done) | (rw [fkR_3 (by assumption)]; done) | (rw [fkR_4 (by assumption)]; done) | (rw [fkR_5 (by assumption) (by assumption) (by assumption) (by assumption)]; done)
   exact ⟨rfl, H5⟩


--# l02Told_any
theorem l02Told_any (n : Nat) (f : Nat → Nat → Int) (b cap : Nat) (cs : Array Value) (hS : SlX cs n cap 6 [.i16, .i16, .i16, .i16, .i16, .i8] f) (hn : n ≤ 2097152) (hf : ∀ a c, a < n → c < 6 → 0 ≤ f a c ∧ f a c ≤ 999999999) (w : World) (hb : Blk w b 77 cs) :
 Calls Tryd.prog 45 #[.slice (some ⟨b, 0, none⟩) n cap] w fun e w' => e = .returned (.bool (fkN n f)) ∧ Ext w w' := by
 refine calls_of_wp Tryd.func45 rfl ?_
 refine wp_frame (a' := ⟨#[.slice (some ⟨b, 0, none⟩) n cap, undef, undef, undef, undef, undef, undef, undef, undef, undef, undef, undef, undef, undef, undef, undef, undef, undef, undef, undef, undef, undef, undef, undef, undef, undef, undef, undef], []⟩) (by kernel_rfl) ?_
 refine wsr ?_
 refine wv (.bool false) ?_
 refine wpList_nil (then_normal ?_)
 refine wp_seq ?_
 refine wsr ?_
 refine wv (.int .i64 0) ?_
 refine wpList_nil (then_normal ?_)
 refine wp_block ?_
 refine wp_loop_k (fun m1 a wl1 => ∃ (i : Nat), m1 = n - i ∧ i ≤ n ∧ (∀ j, j < i → fkP (f j) = true) ∧ Ext w wl1 ∧ Blk wl1 b 77 cs ∧ (∃ J1 : Nat → Value, a = ⟨#[.slice (some ⟨b, 0, none⟩) n cap, undef, J1 2, .int .i64 (i : Int), J1 4, J1 5, J1 6, J1 7, J1 8, J1 9, J1 10, J1 11, J1 12, J1 13, J1 14, J1 15, J1 16, J1 17, J1 18, J1 19, J1 20, J1 21, J1 22, J1 23, J1 24, undef, undef, undef], []⟩)) (n) ?_ ?_
 · refine ⟨0, rfl, ?_, ?_, (Ext.refl w), hb, exJ (by kernel_rfl)⟩
   · omega
   · intro j h1; omega
 intro m1 a wl1 hI
 obtain ⟨i, rfl, hi_, hok, HL1, hb, J1, rfl⟩ := hI
 have r0_ := fun hi => hf i 0 hi (by omega)
 refine wp_seq ?_
 refine wsr ?_
 refine wv (.int .i64 (i : Int)) ?_
 refine wv (.slice (some ⟨b, 0, none⟩) n cap) ?_
 refine wv (.int .i64 (n : Int)) ?_
 refine wv (.bool (decide ((i : Int) < (n : Int)))) ?_
 refine wpList_nil (then_normal ?_)
 refine wsplit (decide ((i : Int) < (n : Int))) (fun h1 => ?_) (fun h1 => ?_)
 · skip
   have h1d := dT h1
   refine wp_skip ?_
   refine then_normal ?_
   refine wp_seq ?_
   refine wp_block ?_
   refine wsr ?_
   refine wv (.slice (some ⟨b, 0, none⟩) n cap) ?_
   refine wv (.int .i64 (i : Int)) ?_
   refine wsix b 0 n cap i .i64 slit__impl_Flock ?_
   refine wcl (l02Plain_any i n f b cap cs hS (by omega) hf (by omega) _ hb) ?_
   intro w1 E1
   refine wv (.bool (!(fkR (f i)))) ?_
   refine wv (.bool (!(fkR (f i)))) ?_
   refine split_bool (fkR (f i)) (fun h2 => ?_) (fun h2 => ?_)
   · skip
     refine wbl 15 false (bnT h2) ?_
     refine wv (.slice (some ⟨b, 0, none⟩) n cap) ?_
     refine wv (.int .i64 (i : Int)) ?_
     refine wsix b 0 n cap i .i64 slit__impl_Flock ?_
     refine wv (.pointer (some ⟨b, 0 + i * 6, none⟩)) ?_
     replace hb := hb.ext E1
     refine wld b (0 + i * 6) scal_int16 (hb.get (hS.cell0 (i := i) (by omega) (by decide) rfl)) ?_
     refine wi64 (f i 0) ?_
     refine wcl (l00In_any (f i 0) 0 99 _) ?_
     intro w2 E2
     refine wv (.bool (!(inB (f i 0) 0 99))) ?_
     refine wv (.bool (!(inB (f i 0) 0 99))) ?_
     refine wpList_nil (then_normal ?_)
     have H1 := (HL1.trans E1).trans E2
     refine wsplit (!(inB (f i 0) 0 99)) (fun h3 => ?_) (fun h3 => ?_)
     · skip
       replace h3 := nbT h3
       have h3d := inF h3
       refine wsr ?_
       refine wv (.bool false) ?_
       refine wpList_nil (then_normal ?_)
       refine wp_ret ?_
       refine block_ret (then_ret (then_ret (block_ret (then_ret ?_))))
       refine ret1 (.bool (fkN n f)) rfl ?_ rfl ?_
       · refine (resT (v := .bool false) (by kernel_rfl)).trans ?_
         refine congrArg Value.bool ?_
         first | (rw [fkN_f (i := i) (by omega) (by first | exact fkP_1 (by assumption) | exact fkP_2 (by assumption))]; done) | (rw [fkN_e (fun j hj => hok j (by omega))]; done)
       exact ⟨rfl, H1⟩
     · skip
       replace h3 := nbF h3
       have h3d := inT h3
       refine wp_skip ?_
       refine block_normal (then_normal ?_)
       refine wp_region_lit ?_
       refine wv (.int .i64 (i : Int)) ?_
       refine wi64 ((i : Int) + 1) ?_
       refine wv (.int .i64 ((i : Int) + 1)) ?_
       refine wpList_nil (then_normal ?_)
       replace hb := hb.ext E2
       refine ⟨_, ?_, i + 1, rfl, ?_, ?_, H1, hb, exJ (by kernel_rfl)⟩
       · omega
       · omega
       · intro j hj
         rcases (by omega : j < i ∨ j = i) with h3 | h3
         · exact hok j h3
         · rw [h3]; exact fkP_t (by assumption) (by assumption)
   · skip
     refine wbl 15 true (bnF h2) ?_
     refine wsk ?_
     refine wsk ?_
     refine wsk ?_
     refine wsk ?_
     refine wsk ?_
     refine wsk ?_
     refine wsk ?_
     refine wsk ?_
     refine wv (.bool true) ?_
     refine wpList_nil (then_normal ?_)
     refine wct ?_
     refine wsr ?_
     refine wv (.bool false) ?_
     refine wpList_nil (then_normal ?_)
     refine wp_ret ?_
     refine block_ret (then_ret (then_ret (block_ret (then_ret ?_))))
     have H2 := HL1.trans E1
     refine ret1 (.bool (fkN n f)) rfl ?_ rfl ?_
     · refine (resT (v := .bool false) (by kernel_rfl)).trans ?_
       refine congrArg Value.bool ?_
       first | (rw [fkN_f (i := i) (by omega) (by first | exact fkP_1 (by assumption) | exact fkP_2 (by assumption))]; done) | (rw [fkN_e (fun j hj => hok j (by omega))]; done)
     exact ⟨rfl, H2⟩
 · skip
   have h1d := dF h1
   refine wp_exit ?_
   refine then_exit ?_
   refine then_exit ?_
   refine block_exit ?_
   refine then_normal ?_
   refine wsr ?_
   refine wv (.slice (some ⟨b, 0, none⟩) n cap) ?_
   refine wv (.int .i64 (n : Int)) ?_
   refine wv (.bool (decide ((n : Int) ≤ 12))) ?_
   refine wv (.bool (decide ((n : Int) ≤ 12))) ?_
   refine wpList_nil (then_normal ?_)
   refine wp_ret ?_
   refine ret1 (.bool (fkN n f)) rfl ?_ rfl ?_
   · refine (resT (v := .bool (decide ((n : Int) ≤ 12))) (by kernel_rfl)).trans ?_
     refine congrArg Value.bool ?_
     first | (rw [fkN_f (i := i) (by omega) (by first | exact fkP_1 (by assumption) | exact fkP_2 (by assumption))]; done) | (rw [fkN_e (fun j hj => hok j (by omega))]; done)
   exact ⟨rfl, HL1⟩


--# iReadFlocks_any
theorem iReadFlocks_any (l : List UInt8) (hl : l.length ≤ 1048576) (w : World) (hT : TW w) :
 Calls Tryd.prog 22 #[.string (bs l)] w fun e w' => RdX w 77 (rdN l) 6 [.i16, .i16, .i16, .i16, .i16, .i8] (flF l) (rdO 12 flW l) e w' := by
 have cl_ := cutL_len 32 l
 refine calls_of_wp Tryd.func22 rfl ?_
 refine wp_frame (a' := ⟨#[.string (bs l), undef, undef, undef, undef, undef, undef, undef, undef, undef, undef, undef, undef, undef, undef, undef, undef, undef, undef, undef, undef, undef, undef, undef, undef, undef, undef, undef, undef, undef, undef, undef, undef, undef, undef, undef, undef, undef, undef, undef, undef, undef, undef, undef, undef, undef, undef, undef, undef, undef, undef, undef, undef, undef, undef, undef, undef, undef, undef, undef, undef, undef, undef, undef, undef, undef, undef, undef, undef, undef, undef, undef, undef, undef, undef, undef, undef, undef, undef, undef, undef, undef, undef, undef, undef, undef, undef, undef], []⟩) (by kernel_rfl) ?_
 refine wsr ?_
 refine wv (.slice none 0 0) ?_
 refine wv (.int .i64 0) ?_
 refine wpList_nil (then_normal ?_)
 refine wsr ?_
 refine wbsl 0 #[] slt__impl_Flock ?_
 intro g1 w1 B1 E1 hg_
 have lo_g1 := Nat.le_trans ((Ext.refl w)).size hg_
 have S1 : SlX #[] 0 0 6 [.i16, .i16, .i16, .i16, .i16, .i8] (flF l) := SlX.nil (e := 0) rfl
 refine wv (.slice (some ⟨g1, 0, none⟩) 0 0) ?_
 refine wpList_nil (then_normal ?_)
 refine wp_seq ?_
 refine wsr ?_
 refine wv (.string (bs l)) ?_
 refine wvv (.bool (((bs l).toList == (bs ([] : List UInt8)).toList))) (.bool (decide (l = ([] : List UInt8)))) (congrArg Value.bool (bs_eqv _ _)) ?_
 refine wpList_nil (then_normal ?_)
 have H1 := (Ext.refl w).trans E1
 refine wsplit (decide (l = ([] : List UInt8))) (fun h1 => ?_) (fun h1 => ?_)
 · skip
   have h1d := dT h1
   refine wsr ?_
   refine wv (.slice (some ⟨g1, 0, none⟩) 0 0) ?_
   refine wv (.slice (some ⟨g1, 0, none⟩) 0 0) ?_
   refine wv (.int .i64 0) ?_
   refine wpList_nil (then_normal ?_)
   refine wp_ret ?_
   refine then_ret ?_
   refine ret2 (.slice (some ⟨g1, 0, none⟩) 0 0) (.int .i64 0) rfl ?_ ?_ rfl ?_
   · exact resT (by kernel_rfl)
   · exact resT (by kernel_rfl)
   rw [rdN_nil (by assumption)]
   exact .inl ⟨rdO_nil (by assumption), g1, _, _, rfl, B1, S1, H1, lo_g1⟩
 · skip
   have h1d := dF h1
   have hp_ := List.length_pos_iff.2 h1d
   refine wp_skip ?_
   refine then_normal ?_
   refine wsr ?_
   refine wv (.string (bs l)) ?_
   refine wcls (split_any l 32 (by omega) _ (TW.ext hT H1)) ?_
   intro g2 cap1 cs1 w2 B2 S2 E2 hg_
   have q_g1_g2 := Nat.ne_of_lt (Nat.lt_of_lt_of_le B1.lt hg_)
   have lo_g2 := Nat.le_trans (H1).size hg_
   refine wv (.slice (some ⟨g2, 0, none⟩) ((cutL 32 l).length) cap1) ?_
   refine wpList_nil (then_normal ?_)
   refine wp_seq ?_
   refine wsr ?_
   refine wv (.slice (some ⟨g2, 0, none⟩) ((cutL 32 l).length) cap1) ?_
   refine wv (.int .i64 ((cutL 32 l).length : Int)) ?_
   refine wv (.bool (decide (12 < ((cutL 32 l).length : Int)))) ?_
   refine wpList_nil (then_normal ?_)
   have H2 := H1.trans E2
   refine wsplit (decide (12 < ((cutL 32 l).length : Int))) (fun h2 => ?_) (fun h2 => ?_)
   · skip
     have h2d := dT h2
     refine wsr ?_
     refine wv (.slice none 0 0) ?_
     refine wv (.int .i64 5) ?_
     refine wpList_nil (then_normal ?_)
     refine wp_ret ?_
     refine then_ret ?_
     refine ret2 (.slice none 0 0) (.int .i64 5) rfl ?_ ?_ rfl ?_
     · exact resT (by kernel_rfl)
     · exact resT (by kernel_rfl)
     exact .inr ⟨(by first | exact rdO_long (by assumption) (by omega) | exact rdO_bad (i := i) (by assumption) (by omega) (by first | exact flW_1 (by assumption) | exact flW_2 (k := k) (by omega) (by assumption))), rfl, H2⟩
   · skip
     have h2d := dF h2
     refine wp_skip ?_
     refine then_normal ?_
     refine wp_seq ?_
     refine wsr ?_
     refine wv (.slice (some ⟨g2, 0, none⟩) ((cutL 32 l).length) cap1) ?_
     refine wv (.int .i64 ((cutL 32 l).length : Int)) ?_
     refine wv (.int .i64 0) ?_
     refine wpList_nil (then_normal ?_)
     refine wp_block ?_
     replace B1 := B1.ext E2
     refine wp_loop_k (fun m1 a wl1 => ∃ (i : Nat) (go : Nat) (capo : Nat) (cso : Array Value), m1 = (cutL 32 l).length - i ∧ i ≤ (cutL 32 l).length ∧ (∀ j, j < i → flW (atL (cutL 32 l) j) = true) ∧ SlX cso i capo 6 [.i16, .i16, .i16, .i16, .i16, .i8] (flF l) ∧ w.heap.size ≤ go ∧ g2 ≠ go ∧ Ext w wl1 ∧ Blk wl1 g2 9 cs1 ∧ Blk wl1 go 77 cso ∧ (∃ J1 : Nat → Value, a = ⟨#[.string (bs l), undef, J1 2, J1 3, .slice (some ⟨go, 0, none⟩) i capo, .slice (some ⟨g2, 0, none⟩) ((cutL 32 l).length) cap1, undef, J1 7, J1 8, J1 9, J1 10, J1 11, J1 12, J1 13, J1 14, .slice (some ⟨g1, 0, none⟩) 0 0, .string (bs l), .bool (decide (l = ([] : List UInt8))), undef, .string (bs l), .slice (some ⟨g2, 0, none⟩) ((cutL 32 l).length) cap1, .slice (some ⟨g2, 0, none⟩) ((cutL 32 l).length) cap1, .int .i64 ((cutL 32 l).length : Int), .bool (decide (12 < ((cutL 32 l).length : Int))), .slice (some ⟨g2, 0, none⟩) ((cutL 32 l).length) cap1, .int .i64 ((cutL 32 l).length : Int), .int .i64 (i : Int), J1 27, J1 28, J1 29, J1 30, J1 31, J1 32, J1 33, J1 34, J1 35, J1 36, J1 37, J1 38, J1 39, J1 40, J1 41, J1 42, J1 43, J1 44, J1 45, J1 46, J1 47, J1 48, J1 49, J1 50, J1 51, J1 52, J1 53, J1 54, J1 55, J1 56, J1 57, J1 58, J1 59, J1 60, J1 61, J1 62, J1 63, J1 64, J1 65, J1 66, J1 67, J1 68, J1 69, J1 70, J1 71, J1 72, J1 73, J1 74, J1 75, J1 76, J1 77, J1 78, J1 79, J1 80, J1 81, J1 82, J1 83, J1 84, J1 85, J1 86, undef], []⟩)) ((cutL 32 l).length) ?_ ?_
     · refine ⟨0, g1, 0, #[], rfl, ?_, ?_, ?_, ?_, ?_, H2, B2, B1, exJ (by kernel_rfl)⟩
       · omega
       · intro j h1; omega
       · exact S1
       · exact lo_g1
       · exact (Ne.symm q_g1_g2)
     intro m1 a wl1 hI
     obtain ⟨i, go, capo, cso, rfl, hi_, hok, So, lo_go, n_g2_go, HL1, B2, Bo, J1, rfl⟩ := hI
     have al_ := atL_le 32 l i
     refine wsr ?_
     refine wv (.bool (decide ((i : Int) < ((cutL 32 l).length : Int)))) ?_
     refine wpList_nil (then_normal ?_)
     refine wp_seq ?_
     refine wsplit (decide ((i : Int) < ((cutL 32 l).length : Int))) (fun h3 => ?_) (fun h3 => ?_)
     · skip
       have h3d := dT h3
       refine wp_skip ?_
       refine then_normal ?_
       refine wp_seq ?_
       refine wp_block ?_
       refine wsr ?_
       refine wsix1 g2 0 ((cutL 32 l).length) cap1 i .i64 slit__string ?_
       refine wld g2 (0 + i) scal_string (B2.get (SlS.get S2 (by omega))) ?_
       refine wv (.string (bs (atL (cutL 32 l) i))) ?_
       refine wpList_nil (then_normal ?_)
       refine wsr ?_
       refine wv (.string (bs (atL (cutL 32 l) i))) ?_
       refine wcls (split_any (atL (cutL 32 l) i) 47 (by omega) _ (TW.ext hT HL1)) ?_
       intro g3 cap2 cs2 w3 B3 S3 E3 hg_
       have q_g2_g3 := Nat.ne_of_lt (Nat.lt_of_lt_of_le B2.lt hg_)
       have q_go_g3 := Nat.ne_of_lt (Nat.lt_of_lt_of_le Bo.lt hg_)
       have lo_g3 := Nat.le_trans (HL1).size hg_
       refine wvv (.agg #[.int .i64 0, .int .i64 0, .int .i64 0, .int .i64 0, .int .i64 0, .int .i64 0]) (.agg (arr 6 .i64 (listF6 0 0 0 0 0 0))) (congrArg Value.agg (arr6 _ _ _ _ _ _ _)) ?_
       refine wvv (.agg #[.int .i64 0, .int .i64 0, .int .i64 0, .int .i64 0, .int .i64 0, .int .i64 0]) (.agg (arr 6 .i64 (listF6 0 0 0 0 0 0))) (congrArg Value.agg (arr6 _ _ _ _ _ _ _)) ?_
       have H3 := HL1.trans E3
       replace B2 := B2.ext E3
       replace Bo := Bo.ext E3
       refine wnew (arr 6 .i64 (listF6 0 0 0 0 0 0)) Tryd.zeroValue79 (arr6 .i64 0 0 0 0 0 0) ?_
       intro g4 w4 B4 E4 hg_
       have q_g2_g4 := Nat.ne_of_lt (Nat.lt_of_lt_of_le B2.lt hg_)
       have q_go_g4 := Nat.ne_of_lt (Nat.lt_of_lt_of_le Bo.lt hg_)
       have q_g3_g4 := Nat.ne_of_lt (Nat.lt_of_lt_of_le B3.lt hg_)
       have lo_g4 := Nat.le_trans (H3).size hg_
       have H4 := H3.trans E4
       replace B2 := B2.ext E4
       replace Bo := Bo.ext E4
       replace B3 := B3.ext E4
       refine wnew (arr 6 .i64 (listF6 0 0 0 0 0 0)) Tryd.zeroValue79 (arr6 .i64 0 0 0 0 0 0) ?_
       intro g5 w5 B5 E5 hg_
       have q_g2_g5 := Nat.ne_of_lt (Nat.lt_of_lt_of_le B2.lt hg_)
       have q_go_g5 := Nat.ne_of_lt (Nat.lt_of_lt_of_le Bo.lt hg_)
       have q_g3_g5 := Nat.ne_of_lt (Nat.lt_of_lt_of_le B3.lt hg_)
       have q_g4_g5 := Nat.ne_of_lt (Nat.lt_of_lt_of_le B4.lt hg_)
       have lo_g5 := Nat.le_trans (H4).size hg_
       refine wv (.slice (some ⟨g3, 0, none⟩) ((cutL 47 (atL (cutL 32 l) i)).length) cap2) ?_
       replace B4 := B4.ext E5
       refine wput (arr 6 .i64 (listF6 0 0 0 0 0 0)) row__6_int64 B4 (by exact size_arr _ _ _) (by exact size_arr _ _ _) (by exact one_arr _ _ _) ?_
       intro w6 B4_ X1
       clear B4; have B4 := B4_; clear B4_
       replace B5 := X1.blk B5 (Ne.symm q_g4_g5)
       refine wput (arr 6 .i64 (listF6 0 0 0 0 0 0)) row__6_int64 B5 (by exact size_arr _ _ _) (by exact size_arr _ _ _) (by exact one_arr _ _ _) ?_
       intro w7 B5_ X2
       clear B5; have B5 := B5_; clear B5_
       refine wpList_nil (then_normal ?_)
       refine wp_seq ?_
       refine wsr ?_
       refine wv (.slice (some ⟨g3, 0, none⟩) ((cutL 47 (atL (cutL 32 l) i)).length) cap2) ?_
       refine wv (.int .i64 ((cutL 47 (atL (cutL 32 l) i)).length : Int)) ?_
       refine wv (.bool (((cutL 47 (atL (cutL 32 l) i)).length : Int) != 6)) ?_
       refine wpList_nil (then_normal ?_)
       have H5 := X2.ext w lo_g5 (X1.ext w lo_g4 (H4.trans E5))
       refine wsplit (((cutL 47 (atL (cutL 32 l) i)).length : Int) != 6) (fun h4 => ?_) (fun h4 => ?_)
       · skip
         have h4d := nT h4
         refine wsr ?_
         refine wv (.slice none 0 0) ?_
         refine wv (.int .i64 5) ?_
         refine wpList_nil (then_normal ?_)
         refine wp_ret ?_
         refine then_ret (block_ret (then_ret (then_ret (block_ret (then_ret ?_)))))
         refine ret2 (.slice none 0 0) (.int .i64 5) rfl ?_ ?_ rfl ?_
         · exact resT (by kernel_rfl)
         · exact resT (by kernel_rfl)
         exact .inr ⟨(by first | exact rdO_long (by assumption) (by omega) | exact rdO_bad (i := i) (by assumption) (by omega) (by first | exact flW_1 (by assumption) | exact flW_2 (k := k) (by omega) (by assumption))), rfl, H5⟩
       · skip
         have h4d := nF h4
         refine wp_skip ?_
         refine then_normal ?_
         refine wsr ?_
         refine wv (.agg #[.int .i16 0, .int .i16 0, .int .i16 0, .int .i16 0, .int .i16 0, .int .i8 0]) ?_
         replace B2 := X2.blk (X1.blk (B2.ext E5) q_g2_g4) q_g2_g5
         replace Bo := X2.blk (X1.blk (Bo.ext E5) q_go_g4) q_go_g5
         replace B3 := X2.blk (X1.blk (B3.ext E5) q_g3_g4) q_g3_g5
         replace B4 := X2.blk B4 q_g4_g5
         refine wbox #[.int .i16 0, .int .i16 0, .int .i16 0, .int .i16 0, .int .i16 0, .int .i8 0] ?_
         intro g6 w8 B6 E6 hg_
         have q_g2_g6 := Nat.ne_of_lt (Nat.lt_of_lt_of_le B2.lt hg_)
         have q_go_g6 := Nat.ne_of_lt (Nat.lt_of_lt_of_le Bo.lt hg_)
         have q_g3_g6 := Nat.ne_of_lt (Nat.lt_of_lt_of_le B3.lt hg_)
         have q_g4_g6 := Nat.ne_of_lt (Nat.lt_of_lt_of_le B4.lt hg_)
         have q_g5_g6 := Nat.ne_of_lt (Nat.lt_of_lt_of_le B5.lt hg_)
         have lo_g6 := Nat.le_trans (H5).size hg_
         refine wcl (numbersOf_any 0 0 0 0 0 0 g6 77 (by omega) _ B6) ?_
         intro w9 E7
         refine wv (.tuple #[.agg (arr 6 .i64 (listF6 0 0 0 0 0 0)), .agg (arr 6 .i64 (listF6 99 200 20 1000 200 2))]) ?_
         refine wv (.agg (arr 6 .i64 (listF6 0 0 0 0 0 0))) ?_
         refine wv (.agg (arr 6 .i64 (listF6 99 200 20 1000 200 2))) ?_
         replace B5 := (B5.ext E6).ext E7
         refine wput (arr 6 .i64 (listF6 99 200 20 1000 200 2)) row__6_int64 B5 (by exact size_arr _ _ _) (by exact size_arr _ _ _) (by exact one_arr _ _ _) ?_
         intro w10 B5_ X3
         clear B5; have B5 := B5_; clear B5_
         refine wpList_nil (then_normal ?_)
         refine wp_seq ?_
         refine wsr ?_
         refine wv (.slice (some ⟨g3, 0, none⟩) ((cutL 47 (atL (cutL 32 l) i)).length) cap2) ?_
         refine wv (.int .i64 ((cutL 47 (atL (cutL 32 l) i)).length : Int)) ?_
         refine wv (.int .i64 0) ?_
         refine wpList_nil (then_normal ?_)
         refine wp_block ?_
         replace B2 := X3.blk ((B2.ext E6).ext E7) q_g2_g5
         replace Bo := X3.blk ((Bo.ext E6).ext E7) q_go_g5
         replace B3 := X3.blk ((B3.ext E6).ext E7) q_g3_g5
         replace B4 := X3.blk ((B4.ext E6).ext E7) q_g4_g5
         replace B6 := X3.blk (B6.ext E7) (Ne.symm q_g5_g6)
         have H6 := X3.ext w lo_g5 ((H5.trans E6).trans E7)
         refine wp_loop_k (fun m2 a wl2 => ∃ (k : Nat) (fa : Nat → Int), m2 = (cutL 47 (atL (cutL 32 l) i)).length - k ∧ k ≤ (cutL 47 (atL (cutL 32 l) i)).length ∧ (∀ j, j < k → fa j = numV (atL (cutL 47 (atL (cutL 32 l) i)) j) ∧ parO (atL (cutL 47 (atL (cutL 32 l) i)) j) 0 (listF6 99 200 20 1000 200 2 j) = true) ∧ Ext w wl2 ∧ Blk wl2 g2 9 cs1 ∧ Blk wl2 go 77 cso ∧ Blk wl2 g3 9 cs2 ∧ Blk wl2 g4 79 (arr 6 .i64 fa) ∧ Blk wl2 g5 79 (arr 6 .i64 (listF6 99 200 20 1000 200 2)) ∧ Blk wl2 g6 77 #[.int .i16 0, .int .i16 0, .int .i16 0, .int .i16 0, .int .i16 0, .int .i8 0] ∧ (∃ J2 : Nat → Value, a = ⟨#[.string (bs l), undef, J2 2, J2 3, .slice (some ⟨go, 0, none⟩) i capo, .slice (some ⟨g2, 0, none⟩) ((cutL 32 l).length) cap1, undef, .string (bs (atL (cutL 32 l) i)), .slice (some ⟨g3, 0, none⟩) ((cutL 47 (atL (cutL 32 l) i)).length) cap2, .pointer (some ⟨g4, 0, none⟩), .pointer (some ⟨g5, 0, none⟩), J2 11, J2 12, J2 13, J2 14, .slice (some ⟨g1, 0, none⟩) 0 0, .string (bs l), .bool (decide (l = ([] : List UInt8))), undef, .string (bs l), .slice (some ⟨g2, 0, none⟩) ((cutL 32 l).length) cap1, .slice (some ⟨g2, 0, none⟩) ((cutL 32 l).length) cap1, .int .i64 ((cutL 32 l).length : Int), .bool (decide (12 < ((cutL 32 l).length : Int))), .slice (some ⟨g2, 0, none⟩) ((cutL 32 l).length) cap1, .int .i64 ((cutL 32 l).length : Int), .int .i64 (i : Int), .bool (decide ((i : Int) < ((cutL 32 l).length : Int))), .pointer (some ⟨g2, 0 + i, none⟩), .string (bs (atL (cutL 32 l) i)), .string (bs (atL (cutL 32 l) i)), .slice (some ⟨g3, 0, none⟩) ((cutL 47 (atL (cutL 32 l) i)).length) cap2, .agg (arr 6 .i64 (listF6 0 0 0 0 0 0)), .agg (arr 6 .i64 (listF6 0 0 0 0 0 0)), .slice (some ⟨g3, 0, none⟩) ((cutL 47 (atL (cutL 32 l) i)).length) cap2, .int .i64 ((cutL 47 (atL (cutL 32 l) i)).length : Int), .bool (((cutL 47 (atL (cutL 32 l) i)).length : Int) != 6), .tuple #[.agg (arr 6 .i64 (listF6 0 0 0 0 0 0)), .agg (arr 6 .i64 (listF6 99 200 20 1000 200 2))], .agg #[.int .i16 0, .int .i16 0, .int .i16 0, .int .i16 0, .int .i16 0, .int .i8 0], .pointer (some ⟨g6, 0, none⟩), .tuple #[.agg (arr 6 .i64 (listF6 0 0 0 0 0 0)), .agg (arr 6 .i64 (listF6 99 200 20 1000 200 2))], .agg (arr 6 .i64 (listF6 0 0 0 0 0 0)), .agg (arr 6 .i64 (listF6 99 200 20 1000 200 2)), .slice (some ⟨g3, 0, none⟩) ((cutL 47 (atL (cutL 32 l) i)).length) cap2, .int .i64 ((cutL 47 (atL (cutL 32 l) i)).length : Int), .int .i64 (k : Int), J2 46, J2 47, J2 48, J2 49, J2 50, J2 51, J2 52, J2 53, J2 54, J2 55, J2 56, J2 57, J2 58, J2 59, J2 60, J2 61, J2 62, J2 63, J1 64, J1 65, J1 66, J1 67, J1 68, J1 69, J1 70, J1 71, J1 72, J1 73, J1 74, J1 75, J1 76, J1 77, J1 78, J1 79, J1 80, J1 81, J1 82, J1 83, J1 84, J1 85, J1 86, undef], []⟩)) ((cutL 47 (atL (cutL 32 l) i)).length) ?_ ?_
         · refine ⟨0, listF6 0 0 0 0 0 0, rfl, ?_, ?_, H6, B2, Bo, B3, B4, B5, B6, exJ (by kernel_rfl)⟩
           · omega
           · intro j h1; omega
         intro m2 a wl2 hI
         obtain ⟨k, fa, rfl, hi_, hka, HL2, B2, Bo, B3, B4, B5, B6, J2, rfl⟩ := hI
         have lm_ := flM_in k
         have pl_ := atL_le 47 (atL (cutL 32 l) i) k
         refine wsr ?_
         refine wv (.bool (decide ((k : Int) < ((cutL 47 (atL (cutL 32 l) i)).length : Int)))) ?_
         refine wpList_nil (then_normal ?_)
         refine wp_seq ?_
         refine wsplit (decide ((k : Int) < ((cutL 47 (atL (cutL 32 l) i)).length : Int))) (fun h5 => ?_) (fun h5 => ?_)
         · skip
           have h5d := dT h5
           refine wp_skip ?_
           refine then_normal ?_
           refine wp_seq ?_
           refine wp_block ?_
           refine wsr ?_
           refine wv (.int .i64 (k : Int)) ?_
           refine wsix1 g3 0 ((cutL 47 (atL (cutL 32 l) i)).length) cap2 k .i64 slit__string ?_
           refine wld g3 (0 + k) scal_string (B3.get (SlS.get S3 (by omega))) ?_
           refine wv (.int .i64 (k : Int)) ?_
           refine wv (.string (bs (atL (cutL 47 (atL (cutL 32 l) i)) k))) ?_
           refine wpList_nil (then_normal ?_)
           refine wsr ?_
           refine wv (.string (bs (atL (cutL 47 (atL (cutL 32 l) i)) k))) ?_
           refine wv (.int .i64 (k : Int)) ?_
           refine wixn g5 0 k .i64 arrt__6_int64 ?_
           refine wld g5 (0 + k) scal_int64 (B5.get (get_arr0 (by omega))) ?_
           refine wpar (iparse_any (atL (cutL 47 (atL (cutL 32 l) i)) k) (by omega) 0 ((listF6 99 200 20 1000 200 2) k) (by omega) (by omega) _ (TW.ext hT HL2)) ?_
           intro n1 w11 hn1 E8
           refine wv (.tuple #[.int .i64 n1, .bool (parO (atL (cutL 47 (atL (cutL 32 l) i)) k) 0 ((listF6 99 200 20 1000 200 2) k))]) ?_
           refine wv (.int .i64 n1) ?_
           refine wv (.bool (parO (atL (cutL 47 (atL (cutL 32 l) i)) k) 0 ((listF6 99 200 20 1000 200 2) k))) ?_
           refine wv (.int .i64 n1) ?_
           refine wv (.bool (parO (atL (cutL 47 (atL (cutL 32 l) i)) k) 0 ((listF6 99 200 20 1000 200 2) k))) ?_
           refine wpList_nil (then_normal ?_)
           refine wp_seq ?_
           refine wsr ?_
           refine wv (.bool (parO (atL (cutL 47 (atL (cutL 32 l) i)) k) 0 ((listF6 99 200 20 1000 200 2) k))) ?_
           refine wv (.bool (!(parO (atL (cutL 47 (atL (cutL 32 l) i)) k) 0 ((listF6 99 200 20 1000 200 2) k)))) ?_
           refine wpList_nil (then_normal ?_)
           have H7 := HL2.trans E8
           refine wsplit (!(parO (atL (cutL 47 (atL (cutL 32 l) i)) k) 0 ((listF6 99 200 20 1000 200 2) k))) (fun h6 => ?_) (fun h6 => ?_)
           · skip
             replace h6 := nbT h6
             refine wsr ?_
             refine wv (.slice none 0 0) ?_
             refine wv (.int .i64 5) ?_
             refine wpList_nil (then_normal ?_)
             refine wp_ret ?_
             refine then_ret (block_ret (then_ret (then_ret (block_ret (then_ret (block_ret (then_ret (then_ret (block_ret (then_ret ?_))))))))))
             refine ret2 (.slice none 0 0) (.int .i64 5) rfl ?_ ?_ rfl ?_
             · exact resT (by kernel_rfl)
             · exact resT (by kernel_rfl)
             exact .inr ⟨(by first | exact rdO_long (by assumption) (by omega) | exact rdO_bad (i := i) (by assumption) (by omega) (by first | exact flW_1 (by assumption) | exact flW_2 (k := k) (by omega) (by assumption))), rfl, H7⟩
           · skip
             replace h6 := nbF h6
             have pq1 := parO_num h6
             have pe1 := hn1 h6
             refine wp_skip ?_
             refine then_normal ?_
             refine wp_region_lit ?_
             refine wv (.int .i64 (k : Int)) ?_
             refine wv (.int .i64 n1) ?_
             refine wixn g4 0 k .i64 arrt__6_int64 ?_
             replace B4 := B4.ext E8
             refine wst g4 (0 + k) (.int .i64 n1) scal_int64 B4 (set_arr0) (by rw [size_arr]; omega) ?_
             intro w12 B4_ X4
             clear B4; have B4 := B4_; clear B4_
             refine wpList_nil (block_normal (then_normal ?_))
             refine wp_region_lit ?_
             refine wi64 ((k : Int) + 1) ?_
             refine wv (.int .i64 ((k : Int) + 1)) ?_
             refine wpList_nil (then_normal ?_)
             replace B2 := X4.blk (B2.ext E8) q_g2_g4
             replace Bo := X4.blk (Bo.ext E8) q_go_g4
             replace B3 := X4.blk (B3.ext E8) q_g3_g4
             replace B5 := X4.blk (B5.ext E8) (Ne.symm q_g4_g5)
             replace B6 := X4.blk (B6.ext E8) (Ne.symm q_g4_g6)
             have H8 := X4.ext w lo_g4 H7
             refine ⟨_, ?_, k + 1, upd fa k n1, rfl, ?_, ?_, H8, B2, Bo, B3, B4, B5, B6, exJ (by kernel_rfl)⟩
             · omega
             · omega
             · intro j hj
               rcases (by omega : j < k ∨ j = k) with h3 | h3
               · rw [upd_ne _ _ (by omega)]; exact hka j h3
               · subst h3; rw [upd_self]; exact ⟨by assumption, by assumption⟩
         · skip
           have h5d := dF h5
           have f0_ := hka 0 (by omega)
           have e0_ := f0_.1
           have b0_ : 0 ≤ fa 0 ∧ fa 0 ≤ 99 := fl_b f0_
           have f1_ := hka 1 (by omega)
           have e1_ := f1_.1
           have b1_ : 0 ≤ fa 1 ∧ fa 1 ≤ 200 := fl_b f1_
           have f2_ := hka 2 (by omega)
           have e2_ := f2_.1
           have b2_ : 0 ≤ fa 2 ∧ fa 2 ≤ 20 := fl_b f2_
           have f3_ := hka 3 (by omega)
           have e3_ := f3_.1
           have b3_ : 0 ≤ fa 3 ∧ fa 3 ≤ 1000 := fl_b f3_
           have f4_ := hka 4 (by omega)
           have e4_ := f4_.1
           have b4_ : 0 ≤ fa 4 ∧ fa 4 ≤ 200 := fl_b f4_
           have f5_ := hka 5 (by omega)
           have e5_ := f5_.1
           have b5_ : 0 ≤ fa 5 ∧ fa 5 ≤ 2 := fl_b f5_
           refine wp_exit ?_
           refine then_exit ?_
           refine then_exit ?_
           refine block_exit ?_
           refine then_normal ?_
           refine wp_region_lit ?_
           refine wv (.slice (some ⟨go, 0, none⟩) i capo) ?_
           refine wixn g4 0 0 .i64 arrt__6_int64 ?_
           refine wld g4 (0 + 0) scal_int64 (B4.get (get_arr0 (by omega))) ?_
           refine wi16 (fa 0) ?_
           refine wixn g4 0 1 .i64 arrt__6_int64 ?_
           refine wld g4 (0 + 1) scal_int64 (B4.get (get_arr0 (by omega))) ?_
           refine wi16 (fa 1) ?_
           refine wixn g4 0 2 .i64 arrt__6_int64 ?_
           refine wld g4 (0 + 2) scal_int64 (B4.get (get_arr0 (by omega))) ?_
           refine wi16 (fa 2) ?_
           refine wixn g4 0 3 .i64 arrt__6_int64 ?_
           refine wld g4 (0 + 3) scal_int64 (B4.get (get_arr0 (by omega))) ?_
           refine wi16 (fa 3) ?_
           refine wixn g4 0 4 .i64 arrt__6_int64 ?_
           refine wld g4 (0 + 4) scal_int64 (B4.get (get_arr0 (by omega))) ?_
           refine wi16 (fa 4) ?_
           refine wixn g4 0 5 .i64 arrt__6_int64 ?_
           refine wld g4 (0 + 5) scal_int64 (B4.get (get_arr0 (by omega))) ?_
           refine wi8 (fa 5) ?_
           refine wv (.agg #[.int .i16 (fa 0), .int .i16 (fa 1), .int .i16 (fa 2), .int .i16 (fa 3), .int .i16 (fa 4), .int .i8 (fa 5)]) ?_
           refine wbsl 1 #[.int .i16 (fa 0), .int .i16 (fa 1), .int .i16 (fa 2), .int .i16 (fa 3), .int .i16 (fa 4), .int .i8 (fa 5)] slt__impl_Flock ?_
           intro g7 w13 B7 E9 hg_
           have q_g2_g7 := Nat.ne_of_lt (Nat.lt_of_lt_of_le B2.lt hg_)
           have q_go_g7 := Nat.ne_of_lt (Nat.lt_of_lt_of_le Bo.lt hg_)
           have q_g3_g7 := Nat.ne_of_lt (Nat.lt_of_lt_of_le B3.lt hg_)
           have q_g4_g7 := Nat.ne_of_lt (Nat.lt_of_lt_of_le B4.lt hg_)
           have q_g5_g7 := Nat.ne_of_lt (Nat.lt_of_lt_of_le B5.lt hg_)
           have q_g6_g7 := Nat.ne_of_lt (Nat.lt_of_lt_of_le B6.lt hg_)
           have lo_g7 := Nat.le_trans (HL2).size hg_
           replace B2 := B2.ext E9
           replace Bo := Bo.ext E9
           replace B3 := B3.ext E9
           replace B4 := B4.ext E9
           replace B5 := B5.ext E9
           replace B6 := B6.ext E9
           have H9 := HL2.trans E9
           have HR1 : (rowL [.i16, .i16, .i16, .i16, .i16, .i8] ((flF l) i)).toArray = #[.int .i16 (fa 0), .int .i16 (fa 1), .int .i16 (fa 2), .int .i16 (fa 3), .int .i16 (fa 4), .int .i8 (fa 5)] := flF_row (by assumption) (by assumption) (by assumption) (by assumption) (by assumption) (by assumption)
           refine wappr #[.int .i16 (fa 0), .int .i16 (fa 1), .int .i16 (fa 2), .int .i16 (fa 3), .int .i16 (fa 4), .int .i8 (fa 5)] slt__impl_Flock Bo So B7 HR1 ?_
           intro g8 cap3 cs3 w14 B8 S4 X5 or1
           have n_g2_g8 := ne_app B2 n_g2_go or1
           have n_g3_g8 := ne_app B3 (Ne.symm q_go_g3) or1
           have n_g4_g8 := ne_app B4 (Ne.symm q_go_g4) or1
           have n_g5_g8 := ne_app B5 (Ne.symm q_go_g5) or1
           have n_g6_g8 := ne_app B6 (Ne.symm q_go_g6) or1
           have n_g7_g8 := ne_app B7 (Ne.symm q_go_g7) or1
           have lo_g8 := Wr.lo or1 lo_go (H9).size
           refine wv (.slice (some ⟨g8, 0, none⟩) (i + 1) cap3) ?_
           refine wpList_nil (block_normal (then_normal ?_))
           refine wp_region_lit ?_
           refine wi64 ((i : Int) + 1) ?_
           refine wv (.int .i64 ((i : Int) + 1)) ?_
           refine wpList_nil (then_normal ?_)
           replace B2 := X5.blk B2 n_g2_go
           have H10 := X5.ext w lo_go H9
           refine ⟨_, ?_, i + 1, g8, cap3, cs3, rfl, ?_, ?_, ?_, ?_, ?_, H10, B2, B8, exJ (by kernel_rfl)⟩
           · omega
           · omega
           · exact ok_step hok (by exact flW_t (by assumption) (fun j hj => (hka j (by omega)).2))
           · exact S4
           · exact lo_g8
           · exact n_g2_g8
     · skip
       have h3d := dF h3
       refine wp_exit ?_
       refine then_exit ?_
       refine then_exit ?_
       refine block_exit ?_
       refine then_normal ?_
       refine wsr ?_
       refine wv (.slice (some ⟨go, 0, none⟩) i capo) ?_
       refine wv (.slice (some ⟨go, 0, none⟩) i capo) ?_
       refine wv (.int .i64 0) ?_
       refine wpList_nil (then_normal ?_)
       refine wp_ret ?_
       refine ret2 (.slice (some ⟨go, 0, none⟩) i capo) (.int .i64 0) rfl ?_ ?_ rfl ?_
       · exact resT (by kernel_rfl)
       · exact resT (by kernel_rfl)
       have ei_ : i = (cutL 32 l).length := by omega
       rw [rdN_ne (by assumption), ← ei_]
       exact .inl ⟨rdO_t (by assumption) (by omega) (fun j hj => hok j (by omega)), go, _, _, rfl, Bo, So, HL1, lo_go⟩


--# sReadFlocks_raw
theorem sReadFlocks_raw (l : List UInt8) (hl : l.length ≤ 1048576) (w : World) :
 Calls Tryd.prog 21 #[.string (bs l)] w fun e w' => RdY w 77 (rdN l) 6 [.i16, .i16, .i16, .i16, .i16, .i8] (flF l) (fsO l) e w' := by
 have cl_ := cutL_len 32 l
 refine calls_of_wp Tryd.func21 rfl ?_
 refine wp_frame (a' := ⟨#[.string (bs l), undef, undef, undef, undef, undef, undef, undef, undef, undef, undef, undef, undef, undef, undef, undef, undef, undef, undef, undef, undef, undef, undef, undef, undef, undef, undef, undef, undef, undef, undef, undef, undef, undef, undef, undef, undef, undef, undef, undef, undef, undef, undef, undef, undef, undef, undef, undef, undef, undef, undef, undef, undef, undef, undef, undef, undef, undef, undef, undef, undef, undef, undef, undef, undef, undef, undef, undef, undef, undef, undef, undef, undef, undef, undef, undef, undef, undef, undef, undef, undef, undef, undef], []⟩) (by kernel_rfl) ?_
 refine wsr ?_
 refine wv (.slice none 0 0) ?_
 refine wv (.int .i64 0) ?_
 refine wpList_nil (then_normal ?_)
 refine wsr ?_
 refine wbsl 0 #[] slt__impl_Flock ?_
 intro g1 w1 B1 E1 hg_
 have lo_g1 := Nat.le_trans ((Ext.refl w)).size hg_
 have S1 : SlX #[] 0 0 6 [.i16, .i16, .i16, .i16, .i16, .i8] (flF l) := SlX.nil (e := 0) rfl
 refine wv (.slice (some ⟨g1, 0, none⟩) 0 0) ?_
 refine wpList_nil (then_normal ?_)
 refine wp_seq ?_
 refine wsr ?_
 refine wv (.string (bs l)) ?_
 refine wvv (.bool (((bs l).toList == (bs ([] : List UInt8)).toList))) (.bool (decide (l = ([] : List UInt8)))) (congrArg Value.bool (bs_eqv _ _)) ?_
 refine wpList_nil (then_normal ?_)
 have H1 := (Ext.refl w).trans E1
 refine wsplit (decide (l = ([] : List UInt8))) (fun h1 => ?_) (fun h1 => ?_)
 · skip
   have h1d := dT h1
   refine wsr ?_
   refine wv (.slice (some ⟨g1, 0, none⟩) 0 0) ?_
   refine wv (.slice (some ⟨g1, 0, none⟩) 0 0) ?_
   refine wv (.int .i64 0) ?_
   refine wpList_nil (then_normal ?_)
   refine wp_ret ?_
   refine then_ret ?_
   refine ret2 (.slice (some ⟨g1, 0, none⟩) 0 0) (.int .i64 0) rfl ?_ ?_ rfl ?_
   · exact resT (by kernel_rfl)
   · exact resT (by kernel_rfl)
   rw [rdN_nil (by assumption)]
   exact .inl ⟨fsO_nil (by assumption), g1, _, _, rfl, B1, S1, H1, lo_g1⟩
 · skip
   have h1d := dF h1
   have hp_ := List.length_pos_iff.2 h1d
   refine wp_skip ?_
   refine then_normal ?_
   refine wsr ?_
   refine wv (.string (bs l)) ?_
   refine wcls (l01Split_any l 32 (by omega) _) ?_
   intro g2 cap1 cs1 w2 B2 S2 E2 hg_
   have q_g1_g2 := Nat.ne_of_lt (Nat.lt_of_lt_of_le B1.lt hg_)
   have lo_g2 := Nat.le_trans (H1).size hg_
   have al1 := atL_le 32 l 0
   have al2 := atL_le 32 l 1
   refine wv (.slice (some ⟨g2, 0, none⟩) ((cutL 32 l).length) cap1) ?_
   refine wpList_nil (then_normal ?_)
   refine wp_seq ?_
   refine wsr ?_
   refine wv (.int .i64 0) ?_
   refine wpList_nil (then_normal ?_)
   refine wp_block ?_
   replace B1 := B1.ext E2
   have H2 := H1.trans E2
   refine wp_loop_k (fun m1 a wl1 => ∃ (i : Nat) (go : Nat) (capo : Nat) (cso : Array Value), m1 = (cutL 32 l).length - i ∧ i ≤ (cutL 32 l).length ∧ (∀ j, j < i → fvW (atL (cutL 32 l) j) = true) ∧ SlX cso i capo 6 [.i16, .i16, .i16, .i16, .i16, .i8] (flF l) ∧ w.heap.size ≤ go ∧ g2 ≠ go ∧ Ext w wl1 ∧ Blk wl1 g2 9 cs1 ∧ Blk wl1 go 77 cso ∧ (∃ J1 : Nat → Value, a = ⟨#[.string (bs l), undef, J1 2, J1 3, .slice (some ⟨go, 0, none⟩) i capo, .slice (some ⟨g2, 0, none⟩) ((cutL 32 l).length) cap1, .int .i64 (i : Int), J1 7, J1 8, J1 9, J1 10, J1 11, .slice (some ⟨g1, 0, none⟩) 0 0, .string (bs l), .bool (decide (l = ([] : List UInt8))), undef, .string (bs l), .slice (some ⟨g2, 0, none⟩) ((cutL 32 l).length) cap1, J1 18, J1 19, J1 20, J1 21, J1 22, J1 23, J1 24, J1 25, J1 26, J1 27, J1 28, J1 29, J1 30, J1 31, J1 32, J1 33, J1 34, J1 35, J1 36, J1 37, J1 38, J1 39, J1 40, J1 41, J1 42, J1 43, J1 44, J1 45, J1 46, J1 47, J1 48, J1 49, J1 50, J1 51, J1 52, J1 53, J1 54, J1 55, J1 56, J1 57, J1 58, J1 59, J1 60, J1 61, J1 62, J1 63, J1 64, J1 65, J1 66, J1 67, J1 68, J1 69, J1 70, J1 71, J1 72, J1 73, J1 74, J1 75, J1 76, J1 77, undef, undef, undef, undef, undef], []⟩)) ((cutL 32 l).length) ?_ ?_
   · refine ⟨0, g1, 0, #[], rfl, ?_, ?_, ?_, ?_, ?_, H2, B2, B1, exJ (by kernel_rfl)⟩
     · omega
     · intro j h1; omega
     · exact S1
     · exact lo_g1
     · exact (Ne.symm q_g1_g2)
   intro m1 a wl1 hI
   obtain ⟨i, go, capo, cso, rfl, hi_, hok, So, lo_go, n_g2_go, HL1, B2, Bo, J1, rfl⟩ := hI
   have al_ := atL_le 32 l i
   refine wp_seq ?_
   refine wsr ?_
   refine wv (.int .i64 (i : Int)) ?_
   refine wv (.slice (some ⟨g2, 0, none⟩) ((cutL 32 l).length) cap1) ?_
   refine wv (.int .i64 ((cutL 32 l).length : Int)) ?_
   refine wv (.bool (decide ((i : Int) < ((cutL 32 l).length : Int)))) ?_
   refine wpList_nil (then_normal ?_)
   refine wsplit (decide ((i : Int) < ((cutL 32 l).length : Int))) (fun h2 => ?_) (fun h2 => ?_)
   · skip
     have h2d := dT h2
     refine wp_skip ?_
     refine then_normal ?_
     refine wp_seq ?_
     refine wp_block ?_
     refine wsr ?_
     refine wv (.slice (some ⟨g2, 0, none⟩) ((cutL 32 l).length) cap1) ?_
     refine wv (.int .i64 (i : Int)) ?_
     refine wsix1 g2 0 ((cutL 32 l).length) cap1 i .i64 slit__string ?_
     refine wld g2 (0 + i) scal_string (B2.get (SlS.get S2 (by omega))) ?_
     refine wcls (l01Split_any (atL (cutL 32 l) i) 47 (by omega) _) ?_
     intro g3 cap2 cs2 w3 B3 S3 E3 hg_
     have q_g2_g3 := Nat.ne_of_lt (Nat.lt_of_lt_of_le B2.lt hg_)
     have q_go_g3 := Nat.ne_of_lt (Nat.lt_of_lt_of_le Bo.lt hg_)
     have lo_g3 := Nat.le_trans (HL1).size hg_
     have al3 := atL_le 47 (atL (cutL 32 l) i) 0
     have al4 := atL_le 47 (atL (cutL 32 l) i) 1
     refine wv (.slice (some ⟨g3, 0, none⟩) ((cutL 47 (atL (cutL 32 l) i)).length) cap2) ?_
     refine wpList_nil (then_normal ?_)
     refine wp_seq ?_
     refine wsr ?_
     refine wv (.slice (some ⟨g3, 0, none⟩) ((cutL 47 (atL (cutL 32 l) i)).length) cap2) ?_
     refine wv (.int .i64 ((cutL 47 (atL (cutL 32 l) i)).length : Int)) ?_
     refine wv (.bool (((cutL 47 (atL (cutL 32 l) i)).length : Int) != 6)) ?_
     refine wpList_nil (then_normal ?_)
     have H3 := HL1.trans E3
     refine wsplit (((cutL 47 (atL (cutL 32 l) i)).length : Int) != 6) (fun h3 => ?_) (fun h3 => ?_)
     · skip
       have h3d := nT h3
       refine wsr ?_
       replace B2 := B2.ext E3
       replace Bo := Bo.ext E3
       refine wbsl 0 #[] slt__impl_Flock ?_
       intro g4 w4 B4 E4 hg_
       have q_g2_g4 := Nat.ne_of_lt (Nat.lt_of_lt_of_le B2.lt hg_)
       have q_go_g4 := Nat.ne_of_lt (Nat.lt_of_lt_of_le Bo.lt hg_)
       have q_g3_g4 := Nat.ne_of_lt (Nat.lt_of_lt_of_le B3.lt hg_)
       have lo_g4 := Nat.le_trans (H3).size hg_
       have S4 : SlX #[] 0 0 6 [.i16, .i16, .i16, .i16, .i16, .i8] (flF l) := SlX.nil (e := 0) rfl
       refine wv (.slice (some ⟨g4, 0, none⟩) 0 0) ?_
       refine wv (.int .i64 5) ?_
       refine wpList_nil (then_normal ?_)
       refine wp_ret ?_
       refine then_ret (block_ret (then_ret (then_ret (block_ret (then_ret ?_)))))
       refine ret2 (.slice (some ⟨g4, 0, none⟩) 0 0) (.int .i64 5) rfl ?_ ?_ rfl ?_
       · exact resT (by kernel_rfl)
       · exact resT (by kernel_rfl)
       have H4 := H3.trans E4
       exact .inr ⟨(by first | exact fsO_bad (i := i) (by assumption) (by omega) (by first | exact fvW_1 (by assumption) | exact fvW_2 (k := k) (by omega) (by assumption) | exact fvW_3 (k := k) (by omega) (by omega) | exact fvW_4 (by omega)) | exact fsO_pl (n := i) (by assumption) (by omega) (by assumption)), ⟨_, _, rfl⟩, H4⟩
     · skip
       have h3d := nF h3
       refine wp_skip ?_
       refine then_normal ?_
       refine wsr ?_
       refine wvv (.agg #[.int .i16 0, .int .i16 0, .int .i16 0, .int .i16 0, .int .i16 0, .int .i16 0]) (.agg (arr 6 .i16 (listF6 0 0 0 0 0 0))) (congrArg Value.agg (arr6 _ _ _ _ _ _ _)) ?_
       replace B2 := B2.ext E3
       replace Bo := Bo.ext E3
       refine wnew (arr 6 .i16 (listF6 0 0 0 0 0 0)) Tryd.zeroValue75 (arr6 .i16 0 0 0 0 0 0) ?_
       intro g5 w5 B5 E5 hg_
       have q_g2_g5 := Nat.ne_of_lt (Nat.lt_of_lt_of_le B2.lt hg_)
       have q_go_g5 := Nat.ne_of_lt (Nat.lt_of_lt_of_le Bo.lt hg_)
       have q_g3_g5 := Nat.ne_of_lt (Nat.lt_of_lt_of_le B3.lt hg_)
       have lo_g5 := Nat.le_trans (H3).size hg_
       refine wput (arr 6 .i16 (listF6 0 0 0 0 0 0)) row__6_int16 B5 (by exact size_arr _ _ _) (by exact size_arr _ _ _) (by exact one_arr _ _ _) ?_
       intro w6 B5_ X1
       clear B5; have B5 := B5_; clear B5_
       refine wpList_nil (then_normal ?_)
       refine wp_seq ?_
       refine wsr ?_
       refine wv (.int .i64 0) ?_
       refine wpList_nil (then_normal ?_)
       refine wp_block ?_
       replace B2 := X1.blk (B2.ext E5) q_g2_g5
       replace Bo := X1.blk (Bo.ext E5) q_go_g5
       replace B3 := X1.blk (B3.ext E5) q_g3_g5
       have H5 := X1.ext w lo_g5 (H3.trans E5)
       refine wp_loop_k (fun m2 a wl2 => ∃ (k : Nat) (fa : Nat → Int), m2 = 6 - k ∧ k ≤ 6 ∧ (∀ j, j < k → fa j = numV (atL (cutL 47 (atL (cutL 32 l) i)) j) ∧ (numO (atL (cutL 47 (atL (cutL 32 l) i)) j) = true ∧ numV (atL (cutL 47 (atL (cutL 32 l) i)) j) ≤ 1000)) ∧ Ext w wl2 ∧ Blk wl2 g2 9 cs1 ∧ Blk wl2 go 77 cso ∧ Blk wl2 g3 9 cs2 ∧ Blk wl2 g5 75 (arr 6 .i16 fa) ∧ (∃ J2 : Nat → Value, a = ⟨#[.string (bs l), undef, J2 2, J2 3, .slice (some ⟨go, 0, none⟩) i capo, .slice (some ⟨g2, 0, none⟩) ((cutL 32 l).length) cap1, .int .i64 (i : Int), .slice (some ⟨g3, 0, none⟩) ((cutL 47 (atL (cutL 32 l) i)).length) cap2, .pointer (some ⟨g5, 0, none⟩), .int .i64 (k : Int), J2 10, J2 11, .slice (some ⟨g1, 0, none⟩) 0 0, .string (bs l), .bool (decide (l = ([] : List UInt8))), undef, .string (bs l), .slice (some ⟨g2, 0, none⟩) ((cutL 32 l).length) cap1, .int .i64 (i : Int), .slice (some ⟨g2, 0, none⟩) ((cutL 32 l).length) cap1, .int .i64 ((cutL 32 l).length : Int), .bool (decide ((i : Int) < ((cutL 32 l).length : Int))), J1 22, J1 23, .slice (some ⟨g2, 0, none⟩) ((cutL 32 l).length) cap1, .int .i64 (i : Int), .pointer (some ⟨g2, 0 + i, none⟩), .string (bs (atL (cutL 32 l) i)), .slice (some ⟨g3, 0, none⟩) ((cutL 47 (atL (cutL 32 l) i)).length) cap2, .slice (some ⟨g3, 0, none⟩) ((cutL 47 (atL (cutL 32 l) i)).length) cap2, .int .i64 ((cutL 47 (atL (cutL 32 l) i)).length : Int), .bool (((cutL 47 (atL (cutL 32 l) i)).length : Int) != 6), J1 32, .agg (arr 6 .i16 (listF6 0 0 0 0 0 0)), J2 34, J2 35, J2 36, J2 37, J2 38, J2 39, J2 40, J2 41, J2 42, J2 43, J2 44, J2 45, J2 46, J2 47, J2 48, J2 49, J2 50, J2 51, J2 52, J2 53, J2 54, J2 55, J2 56, J1 57, J1 58, J1 59, J1 60, J1 61, J1 62, J1 63, J1 64, J1 65, J1 66, J1 67, J1 68, J1 69, J1 70, J1 71, J1 72, J1 73, J1 74, J1 75, J1 76, J1 77, undef, undef, undef, undef, undef], []⟩)) (6) ?_ ?_
       · refine ⟨0, listF6 0 0 0 0 0 0, rfl, ?_, ?_, H5, B2, Bo, B3, B5, exJ (by kernel_rfl)⟩
         · omega
         · intro j h1; omega
       intro m2 a wl2 hI
       obtain ⟨k, fa, rfl, hi_, hka, HL2, B2, Bo, B3, B5, J2, rfl⟩ := hI
       have pl_ := atL_le 47 (atL (cutL 32 l) i) k
       refine wp_seq ?_
       refine wsr ?_
       refine wv (.int .i64 (k : Int)) ?_
       refine wv (.bool (decide ((k : Int) < 6))) ?_
       refine wpList_nil (then_normal ?_)
       refine wsplit (decide ((k : Int) < 6)) (fun h4 => ?_) (fun h4 => ?_)
       · skip
         have h4d := dT h4
         refine wp_skip ?_
         refine then_normal ?_
         refine wp_seq ?_
         refine wp_block ?_
         refine wsr ?_
         refine wv (.slice (some ⟨g3, 0, none⟩) ((cutL 47 (atL (cutL 32 l) i)).length) cap2) ?_
         refine wv (.int .i64 (k : Int)) ?_
         refine wsix1 g3 0 ((cutL 47 (atL (cutL 32 l) i)).length) cap2 k .i64 slit__string ?_
         refine wld g3 (0 + k) scal_string (B3.get (SlS.get S3 (by omega))) ?_
         refine wcl (l01Number_any (atL (cutL 47 (atL (cutL 32 l) i)) k) (by omega) _) ?_
         intro w7 E6
         have nv1 := numV_in (atL (cutL 47 (atL (cutL 32 l) i)) k)
         refine wv (.tuple #[.int .i64 (numV (atL (cutL 47 (atL (cutL 32 l) i)) k)), .bool (numO (atL (cutL 47 (atL (cutL 32 l) i)) k))]) ?_
         refine wv (.int .i64 (numV (atL (cutL 47 (atL (cutL 32 l) i)) k))) ?_
         refine wv (.bool (numO (atL (cutL 47 (atL (cutL 32 l) i)) k))) ?_
         refine wv (.int .i64 (numV (atL (cutL 47 (atL (cutL 32 l) i)) k))) ?_
         refine wv (.bool (numO (atL (cutL 47 (atL (cutL 32 l) i)) k))) ?_
         refine wpList_nil (then_normal ?_)
         refine wp_seq ?_
         refine wsr ?_
         refine wv (.bool (numO (atL (cutL 47 (atL (cutL 32 l) i)) k))) ?_
         refine wv (.bool (!(numO (atL (cutL 47 (atL (cutL 32 l) i)) k)))) ?_
         refine wv (.bool (!(numO (atL (cutL 47 (atL (cutL 32 l) i)) k)))) ?_
         have H6 := HL2.trans E6
         refine split_bool (numO (atL (cutL 47 (atL (cutL 32 l) i)) k)) (fun h5 => ?_) (fun h5 => ?_)
         · skip
           refine wbl 48 false (bnT h5) ?_
           refine wv (.int .i64 (numV (atL (cutL 47 (atL (cutL 32 l) i)) k))) ?_
           refine wv (.bool (decide (1000 < numV (atL (cutL 47 (atL (cutL 32 l) i)) k)))) ?_
           refine wv (.bool (decide (1000 < numV (atL (cutL 47 (atL (cutL 32 l) i)) k)))) ?_
           refine wpList_nil (then_normal ?_)
           refine wsplit (decide (1000 < numV (atL (cutL 47 (atL (cutL 32 l) i)) k))) (fun h6 => ?_) (fun h6 => ?_)
           · skip
             have h6d := dT h6
             refine wsr ?_
             replace B2 := B2.ext E6
             replace Bo := Bo.ext E6
             replace B3 := B3.ext E6
             replace B5 := B5.ext E6
             refine wbsl 0 #[] slt__impl_Flock ?_
             intro g6 w8 B6 E7 hg_
             have q_g2_g6 := Nat.ne_of_lt (Nat.lt_of_lt_of_le B2.lt hg_)
             have q_go_g6 := Nat.ne_of_lt (Nat.lt_of_lt_of_le Bo.lt hg_)
             have q_g3_g6 := Nat.ne_of_lt (Nat.lt_of_lt_of_le B3.lt hg_)
             have q_g5_g6 := Nat.ne_of_lt (Nat.lt_of_lt_of_le B5.lt hg_)
             have lo_g6 := Nat.le_trans (H6).size hg_
             have S5 : SlX #[] 0 0 6 [.i16, .i16, .i16, .i16, .i16, .i8] (flF l) := SlX.nil (e := 0) rfl
             refine wv (.slice (some ⟨g6, 0, none⟩) 0 0) ?_
             refine wv (.int .i64 5) ?_
             refine wpList_nil (then_normal ?_)
             refine wp_ret ?_
             refine then_ret (block_ret (then_ret (then_ret (block_ret (then_ret (block_ret (then_ret (then_ret (block_ret (then_ret ?_))))))))))
             refine ret2 (.slice (some ⟨g6, 0, none⟩) 0 0) (.int .i64 5) rfl ?_ ?_ rfl ?_
             · exact resT (by kernel_rfl)
             · exact resT (by kernel_rfl)
             have H7 := H6.trans E7
             exact .inr ⟨(by first | exact fsO_bad (i := i) (by assumption) (by omega) (by first | exact fvW_1 (by assumption) | exact fvW_2 (k := k) (by omega) (by assumption) | exact fvW_3 (k := k) (by omega) (by omega) | exact fvW_4 (by omega)) | exact fsO_pl (n := i) (by assumption) (by omega) (by assumption)), ⟨_, _, rfl⟩, H7⟩
           · skip
             have h6d := dF h6
             refine wp_skip ?_
             refine then_normal ?_
             refine wp_region_lit ?_
             refine wv (.int .i64 (k : Int)) ?_
             refine wv (.int .i64 (numV (atL (cutL 47 (atL (cutL 32 l) i)) k))) ?_
             refine wi16 (numV (atL (cutL 47 (atL (cutL 32 l) i)) k)) ?_
             refine wixn g5 0 k .i64 arrt__6_int16 ?_
             replace B5 := B5.ext E6
             refine wst g5 (0 + k) (.int .i16 (numV (atL (cutL 47 (atL (cutL 32 l) i)) k))) scal_int16 B5 (set_arr0) (by rw [size_arr]; omega) ?_
             intro w9 B5_ X2
             clear B5; have B5 := B5_; clear B5_
             refine wpList_nil (block_normal (then_normal ?_))
             refine wp_region_lit ?_
             refine wv (.int .i64 (k : Int)) ?_
             refine wi64 ((k : Int) + 1) ?_
             refine wv (.int .i64 ((k : Int) + 1)) ?_
             refine wpList_nil (then_normal ?_)
             replace B2 := X2.blk (B2.ext E6) q_g2_g5
             replace Bo := X2.blk (Bo.ext E6) q_go_g5
             replace B3 := X2.blk (B3.ext E6) q_g3_g5
             have H8 := X2.ext w lo_g5 H6
             refine ⟨_, ?_, k + 1, upd fa k (numV (atL (cutL 47 (atL (cutL 32 l) i)) k)), rfl, ?_, ?_, H8, B2, Bo, B3, B5, exJ (by kernel_rfl)⟩
             · omega
             · omega
             · intro j hj
               rcases (by omega : j < k ∨ j = k) with h3 | h3
               · rw [upd_ne _ _ (by omega)]; exact hka j h3
               · subst h3; rw [upd_self]; exact ⟨rfl, by assumption, by omega⟩
         · skip
           refine wbl 48 true (bnF h5) ?_
           refine wsk ?_
           refine wsk ?_
           refine wv (.bool true) ?_
           refine wpList_nil (then_normal ?_)
           refine wct ?_
           refine wsr ?_
           replace B2 := B2.ext E6
           replace Bo := Bo.ext E6
           replace B3 := B3.ext E6
           replace B5 := B5.ext E6
           refine wbsl 0 #[] slt__impl_Flock ?_
           intro g7 w10 B7 E8 hg_
           have q_g2_g7 := Nat.ne_of_lt (Nat.lt_of_lt_of_le B2.lt hg_)
           have q_go_g7 := Nat.ne_of_lt (Nat.lt_of_lt_of_le Bo.lt hg_)
           have q_g3_g7 := Nat.ne_of_lt (Nat.lt_of_lt_of_le B3.lt hg_)
           have q_g5_g7 := Nat.ne_of_lt (Nat.lt_of_lt_of_le B5.lt hg_)
           have lo_g7 := Nat.le_trans (H6).size hg_
           have S6 : SlX #[] 0 0 6 [.i16, .i16, .i16, .i16, .i16, .i8] (flF l) := SlX.nil (e := 0) rfl
           refine wv (.slice (some ⟨g7, 0, none⟩) 0 0) ?_
           refine wv (.int .i64 5) ?_
           refine wpList_nil (then_normal ?_)
           refine wp_ret ?_
           refine then_ret (block_ret (then_ret (then_ret (block_ret (then_ret (block_ret (then_ret (then_ret (block_ret (then_ret ?_))))))))))
           refine ret2 (.slice (some ⟨g7, 0, none⟩) 0 0) (.int .i64 5) rfl ?_ ?_ rfl ?_
           · exact resT (by kernel_rfl)
           · exact resT (by kernel_rfl)
           have H9 := H6.trans E8
           exact .inr ⟨(by first | exact fsO_bad (i := i) (by assumption) (by omega) (by first | exact fvW_1 (by assumption) | exact fvW_2 (k := k) (by omega) (by assumption) | exact fvW_3 (k := k) (by omega) (by omega) | exact fvW_4 (by omega)) | exact fsO_pl (n := i) (by assumption) (by omega) (by assumption)), ⟨_, _, rfl⟩, H9⟩
       · skip
         have h4d := dF h4
         have f0_ := hka 0 (by omega)
         have e0_ := f0_.1
         have b0_ := numV_in (atL (cutL 47 (atL (cutL 32 l) i)) 0)
         have f1_ := hka 1 (by omega)
         have e1_ := f1_.1
         have b1_ := numV_in (atL (cutL 47 (atL (cutL 32 l) i)) 1)
         have f2_ := hka 2 (by omega)
         have e2_ := f2_.1
         have b2_ := numV_in (atL (cutL 47 (atL (cutL 32 l) i)) 2)
         have f3_ := hka 3 (by omega)
         have e3_ := f3_.1
         have b3_ := numV_in (atL (cutL 47 (atL (cutL 32 l) i)) 3)
         have f4_ := hka 4 (by omega)
         have e4_ := f4_.1
         have b4_ := numV_in (atL (cutL 47 (atL (cutL 32 l) i)) 4)
         have f5_ := hka 5 (by omega)
         have e5_ := f5_.1
         have b5_ := numV_in (atL (cutL 47 (atL (cutL 32 l) i)) 5)
         refine wp_exit ?_
         refine then_exit ?_
         refine then_exit ?_
         refine block_exit ?_
         refine then_normal ?_
         refine wp_seq ?_
         refine wsr ?_
         refine wixn g5 0 5 .i64 arrt__6_int16 ?_
         refine wld g5 (0 + 5) scal_int16 (B5.get (get_arr0 (by omega))) ?_
         refine wv (.bool (decide (2 < fa 5))) ?_
         refine wpList_nil (then_normal ?_)
         refine wsplit (decide (2 < fa 5)) (fun h7 => ?_) (fun h7 => ?_)
         · skip
           have h7d := dT h7
           refine wsr ?_
           refine wbsl 0 #[] slt__impl_Flock ?_
           intro g8 w11 B8 E9 hg_
           have q_g2_g8 := Nat.ne_of_lt (Nat.lt_of_lt_of_le B2.lt hg_)
           have q_go_g8 := Nat.ne_of_lt (Nat.lt_of_lt_of_le Bo.lt hg_)
           have q_g3_g8 := Nat.ne_of_lt (Nat.lt_of_lt_of_le B3.lt hg_)
           have q_g5_g8 := Nat.ne_of_lt (Nat.lt_of_lt_of_le B5.lt hg_)
           have lo_g8 := Nat.le_trans (HL2).size hg_
           have S7 : SlX #[] 0 0 6 [.i16, .i16, .i16, .i16, .i16, .i8] (flF l) := SlX.nil (e := 0) rfl
           refine wv (.slice (some ⟨g8, 0, none⟩) 0 0) ?_
           refine wv (.int .i64 5) ?_
           refine wpList_nil (then_normal ?_)
           refine wp_ret ?_
           refine then_ret (block_ret (then_ret (then_ret (block_ret (then_ret ?_)))))
           refine ret2 (.slice (some ⟨g8, 0, none⟩) 0 0) (.int .i64 5) rfl ?_ ?_ rfl ?_
           · exact resT (by kernel_rfl)
           · exact resT (by kernel_rfl)
           have H10 := HL2.trans E9
           exact .inr ⟨(by first | exact fsO_bad (i := i) (by assumption) (by omega) (by first | exact fvW_1 (by assumption) | exact fvW_2 (k := k) (by omega) (by assumption) | exact fvW_3 (k := k) (by omega) (by omega) | exact fvW_4 (by omega)) | exact fsO_pl (n := i) (by assumption) (by omega) (by assumption)), ⟨_, _, rfl⟩, H10⟩
         · skip
           have h7d := dF h7
           refine wp_skip ?_
           refine then_normal ?_
           refine wp_region_lit ?_
           refine wv (.slice (some ⟨go, 0, none⟩) i capo) ?_
           refine wixn g5 0 0 .i64 arrt__6_int16 ?_
           refine wld g5 (0 + 0) scal_int16 (B5.get (get_arr0 (by omega))) ?_
           refine wixn g5 0 1 .i64 arrt__6_int16 ?_
           refine wld g5 (0 + 1) scal_int16 (B5.get (get_arr0 (by omega))) ?_
           refine wixn g5 0 2 .i64 arrt__6_int16 ?_
           refine wld g5 (0 + 2) scal_int16 (B5.get (get_arr0 (by omega))) ?_
           refine wixn g5 0 3 .i64 arrt__6_int16 ?_
           refine wld g5 (0 + 3) scal_int16 (B5.get (get_arr0 (by omega))) ?_
           refine wixn g5 0 4 .i64 arrt__6_int16 ?_
           refine wld g5 (0 + 4) scal_int16 (B5.get (get_arr0 (by omega))) ?_
           refine wixn g5 0 5 .i64 arrt__6_int16 ?_
           refine wld g5 (0 + 5) scal_int16 (B5.get (get_arr0 (by omega))) ?_
           refine wi8 (fa 5) ?_
           refine wv (.agg #[.int .i16 (fa 0), .int .i16 (fa 1), .int .i16 (fa 2), .int .i16 (fa 3), .int .i16 (fa 4), .int .i8 (fa 5)]) ?_
           refine wbsl 1 #[.int .i16 (fa 0), .int .i16 (fa 1), .int .i16 (fa 2), .int .i16 (fa 3), .int .i16 (fa 4), .int .i8 (fa 5)] slt__impl_Flock ?_
           intro g9 w12 B9 E10 hg_
           have q_g2_g9 := Nat.ne_of_lt (Nat.lt_of_lt_of_le B2.lt hg_)
           have q_go_g9 := Nat.ne_of_lt (Nat.lt_of_lt_of_le Bo.lt hg_)
           have q_g3_g9 := Nat.ne_of_lt (Nat.lt_of_lt_of_le B3.lt hg_)
           have q_g5_g9 := Nat.ne_of_lt (Nat.lt_of_lt_of_le B5.lt hg_)
           have lo_g9 := Nat.le_trans (HL2).size hg_
           replace B2 := B2.ext E10
           replace Bo := Bo.ext E10
           replace B3 := B3.ext E10
           replace B5 := B5.ext E10
           have H11 := HL2.trans E10
           have HR1 : (rowL [.i16, .i16, .i16, .i16, .i16, .i8] ((flF l) i)).toArray = #[.int .i16 (fa 0), .int .i16 (fa 1), .int .i16 (fa 2), .int .i16 (fa 3), .int .i16 (fa 4), .int .i8 (fa 5)] := flF_row (by assumption) (by assumption) (by assumption) (by assumption) (by assumption) (by assumption)
           refine wappr #[.int .i16 (fa 0), .int .i16 (fa 1), .int .i16 (fa 2), .int .i16 (fa 3), .int .i16 (fa 4), .int .i8 (fa 5)] slt__impl_Flock Bo So B9 HR1 ?_
           intro g10 cap3 cs3 w13 B10 S8 X3 or1
           have n_g2_g10 := ne_app B2 n_g2_go or1
           have n_g3_g10 := ne_app B3 (Ne.symm q_go_g3) or1
           have n_g5_g10 := ne_app B5 (Ne.symm q_go_g5) or1
           have n_g9_g10 := ne_app B9 (Ne.symm q_go_g9) or1
           have lo_g10 := Wr.lo or1 lo_go (H11).size
           refine wv (.slice (some ⟨g10, 0, none⟩) (i + 1) cap3) ?_
           refine wpList_nil (block_normal (then_normal ?_))
           refine wp_region_lit ?_
           refine wv (.int .i64 (i : Int)) ?_
           refine wi64 ((i : Int) + 1) ?_
           refine wv (.int .i64 ((i : Int) + 1)) ?_
           refine wpList_nil (then_normal ?_)
           replace B2 := X3.blk B2 n_g2_go
           have H12 := X3.ext w lo_go H11
           refine ⟨_, ?_, i + 1, g10, cap3, cs3, rfl, ?_, ?_, ?_, ?_, ?_, H12, B2, B10, exJ (by kernel_rfl)⟩
           · omega
           · omega
           · exact ok_step hok (by exact fvW_t (by assumption) (fun j hj => (hka j (by omega)).2) (by omega))
           · exact S8
           · exact lo_g10
           · exact n_g2_g10
   · skip
     have h2d := dF h2
     refine wp_exit ?_
     refine then_exit ?_
     refine then_exit ?_
     refine block_exit ?_
     refine then_normal ?_
     refine wp_seq ?_
     refine wsr ?_
     refine wv (.slice (some ⟨go, 0, none⟩) i capo) ?_
     refine wcl (l02Told_any i (flF l) go capo cso So (by omega) (flF_in l) _ Bo) ?_
     intro w14 E11
     refine wv (.bool (!(fkN i (flF l)))) ?_
     refine wpList_nil (then_normal ?_)
     have H13 := HL1.trans E11
     refine wsplit (!(fkN i (flF l))) (fun h8 => ?_) (fun h8 => ?_)
     · skip
       replace h8 := nbT h8
       refine wsr ?_
       replace B2 := B2.ext E11
       replace Bo := Bo.ext E11
       refine wbsl 0 #[] slt__impl_Flock ?_
       intro g11 w15 B11 E12 hg_
       have q_g2_g11 := Nat.ne_of_lt (Nat.lt_of_lt_of_le B2.lt hg_)
       have q_go_g11 := Nat.ne_of_lt (Nat.lt_of_lt_of_le Bo.lt hg_)
       have lo_g11 := Nat.le_trans (H13).size hg_
       have S9 : SlX #[] 0 0 6 [.i16, .i16, .i16, .i16, .i16, .i8] (flF l) := SlX.nil (e := 0) rfl
       refine wv (.slice (some ⟨g11, 0, none⟩) 0 0) ?_
       refine wv (.int .i64 5) ?_
       refine wpList_nil (then_normal ?_)
       refine wp_ret ?_
       refine then_ret ?_
       refine ret2 (.slice (some ⟨g11, 0, none⟩) 0 0) (.int .i64 5) rfl ?_ ?_ rfl ?_
       · exact resT (by kernel_rfl)
       · exact resT (by kernel_rfl)
       have H14 := H13.trans E12
       exact .inr ⟨(by first | exact fsO_bad (i := i) (by assumption) (by omega) (by first | exact fvW_1 (by assumption) | exact fvW_2 (k := k) (by omega) (by assumption) | exact fvW_3 (k := k) (by omega) (by omega) | exact fvW_4 (by omega)) | exact fsO_pl (n := i) (by assumption) (by omega) (by assumption)), ⟨_, _, rfl⟩, H14⟩
     · skip
       replace h8 := nbF h8
       refine wp_skip ?_
       refine then_normal ?_
       refine wsr ?_
       refine wv (.slice (some ⟨go, 0, none⟩) i capo) ?_
       refine wv (.slice (some ⟨go, 0, none⟩) i capo) ?_
       refine wv (.int .i64 0) ?_
       refine wpList_nil (then_normal ?_)
       refine wp_ret ?_
       refine ret2 (.slice (some ⟨go, 0, none⟩) i capo) (.int .i64 0) rfl ?_ ?_ rfl ?_
       · exact resT (by kernel_rfl)
       · exact resT (by kernel_rfl)
       replace Bo := Bo.ext E11
       have ei_ : i = (cutL 32 l).length := by omega
       rw [rdN_ne (by assumption), ← ei_]
       exact .inl ⟨fsO_t (by assumption) (fun j hj => hok j (by omega)) (by rw [← ei_]; assumption), go, _, _, rfl, Bo, So, H13, lo_go⟩


--# sReadFlocks_any
-- 21
theorem sReadFlocks_any (l : List UInt8) (hl : l.length ≤ 1048576) (w : World) : Calls Tryd.prog 21 #[.string (bs l)] w (RdY w 77 (rdN l) 6 [.i16, .i16, .i16, .i16, .i16, .i8] (flF l) (rdO 12 flW l)) :=
  (sReadFlocks_raw l hl w).mono fun _ _ h => h.of (fs_all l) (fun _ _ _ _ _ => rfl)

--# eqFlock_same
theorem eqFlock_same (x0 x1 x2 x3 x4 x5 : Int) (w : World) :
 Calls Tryd.prog 47 #[.agg #[.int .i16 x0, .int .i16 x1, .int .i16 x2, .int .i16 x3, .int .i16 x4, .int .i8 x5], .agg #[.int .i16 x0, .int .i16 x1, .int .i16 x2, .int .i16 x3, .int .i16 x4, .int .i8 x5]] w fun e w' => e = .returned (.bool true) ∧ Ext w w' := by
 refine calls_of_wp Tryd.func47 rfl ?_
 refine wp_frame (a' := ⟨#[.agg #[.int .i16 x0, .int .i16 x1, .int .i16 x2, .int .i16 x3, .int .i16 x4, .int .i8 x5], .agg #[.int .i16 x0, .int .i16 x1, .int .i16 x2, .int .i16 x3, .int .i16 x4, .int .i8 x5], undef, undef, undef, undef, undef, undef, undef, undef, undef, undef, undef, undef, undef, undef, undef, undef, undef, undef, undef, undef, undef, undef, undef, undef, undef, undef, undef, undef, undef, undef, undef, undef, undef], []⟩) (by kernel_rfl) ?_
 refine wsr ?_
 refine wbox #[.int .i16 x0, .int .i16 x1, .int .i16 x2, .int .i16 x3, .int .i16 x4, .int .i8 x5] ?_
 intro g1 w1 B1 E1 _
 refine wbox #[.int .i16 x0, .int .i16 x1, .int .i16 x2, .int .i16 x3, .int .i16 x4, .int .i8 x5] ?_
 intro g2 w2 B2 E2 _
 refine wv (.bool false) ?_
 refine wpList_nil (then_normal ?_)
 refine wp_seq ?_
 refine wsr ?_
 refine wv (.pointer (some ⟨g1, 0, none⟩)) ?_
 replace B1 := B1.ext E2
 refine wld (v := .int .i16 x0) g1 (0) scal_int16 (B1.get (rfl)) ?_
 refine wv (.pointer (some ⟨g2, 0, none⟩)) ?_
 refine wld (v := .int .i16 x0) g2 (0) scal_int16 (B2.get (rfl)) ?_
 refine wvv (.bool (x0 != x0)) (.bool false) (by simp) ?_
 refine wpList_nil (then_normal ?_)
 refine wcf ?_
 refine wp_skip ?_
 refine then_normal ?_
 refine wp_seq ?_
 refine wsr ?_
 refine wv (.pointer (some ⟨g1, 1, none⟩)) ?_
 refine wld (v := .int .i16 x1) g1 (1) scal_int16 (B1.get (rfl)) ?_
 refine wv (.pointer (some ⟨g2, 1, none⟩)) ?_
 refine wld (v := .int .i16 x1) g2 (1) scal_int16 (B2.get (rfl)) ?_
 refine wvv (.bool (x1 != x1)) (.bool false) (by simp) ?_
 refine wpList_nil (then_normal ?_)
 refine wcf ?_
 refine wp_skip ?_
 refine then_normal ?_
 refine wp_seq ?_
 refine wsr ?_
 refine wv (.pointer (some ⟨g1, 2, none⟩)) ?_
 refine wld (v := .int .i16 x2) g1 (2) scal_int16 (B1.get (rfl)) ?_
 refine wv (.pointer (some ⟨g2, 2, none⟩)) ?_
 refine wld (v := .int .i16 x2) g2 (2) scal_int16 (B2.get (rfl)) ?_
 refine wvv (.bool (x2 != x2)) (.bool false) (by simp) ?_
 refine wpList_nil (then_normal ?_)
 refine wcf ?_
 refine wp_skip ?_
 refine then_normal ?_
 refine wp_seq ?_
 refine wsr ?_
 refine wv (.pointer (some ⟨g1, 3, none⟩)) ?_
 refine wld (v := .int .i16 x3) g1 (3) scal_int16 (B1.get (rfl)) ?_
 refine wv (.pointer (some ⟨g2, 3, none⟩)) ?_
 refine wld (v := .int .i16 x3) g2 (3) scal_int16 (B2.get (rfl)) ?_
 refine wvv (.bool (x3 != x3)) (.bool false) (by simp) ?_
 refine wpList_nil (then_normal ?_)
 refine wcf ?_
 refine wp_skip ?_
 refine then_normal ?_
 refine wp_seq ?_
 refine wsr ?_
 refine wv (.pointer (some ⟨g1, 4, none⟩)) ?_
 refine wld (v := .int .i16 x4) g1 (4) scal_int16 (B1.get (rfl)) ?_
 refine wv (.pointer (some ⟨g2, 4, none⟩)) ?_
 refine wld (v := .int .i16 x4) g2 (4) scal_int16 (B2.get (rfl)) ?_
 refine wvv (.bool (x4 != x4)) (.bool false) (by simp) ?_
 refine wpList_nil (then_normal ?_)
 refine wcf ?_
 refine wp_skip ?_
 refine then_normal ?_
 refine wp_seq ?_
 refine wsr ?_
 refine wv (.pointer (some ⟨g1, 5, none⟩)) ?_
 refine wld (v := .int .i8 x5) g1 (5) scal_int8 (B1.get (rfl)) ?_
 refine wv (.pointer (some ⟨g2, 5, none⟩)) ?_
 refine wld (v := .int .i8 x5) g2 (5) scal_int8 (B2.get (rfl)) ?_
 refine wvv (.bool (x5 != x5)) (.bool false) (by simp) ?_
 refine wpList_nil (then_normal ?_)
 refine wp_frame (a' := ⟨#[.agg #[.int .i16 x0, .int .i16 x1, .int .i16 x2, .int .i16 x3, .int .i16 x4, .int .i8 x5], .agg #[.int .i16 x0, .int .i16 x1, .int .i16 x2, .int .i16 x3, .int .i16 x4, .int .i8 x5], .pointer (some ⟨g1, 0, none⟩), .pointer (some ⟨g2, 0, none⟩), .bool false, .pointer (some ⟨g1, 0, none⟩), .int .i16 x0, .pointer (some ⟨g2, 0, none⟩), .int .i16 x0, .bool false, .pointer (some ⟨g1, 1, none⟩), .int .i16 x1, .pointer (some ⟨g2, 1, none⟩), .int .i16 x1, .bool false, .pointer (some ⟨g1, 2, none⟩), .int .i16 x2, .pointer (some ⟨g2, 2, none⟩), .int .i16 x2, .bool false, .pointer (some ⟨g1, 3, none⟩), .int .i16 x3, .pointer (some ⟨g2, 3, none⟩), .int .i16 x3, .bool false, .pointer (some ⟨g1, 4, none⟩), .int .i16 x4, .pointer (some ⟨g2, 4, none⟩), .int .i16 x4, .bool false, .pointer (some ⟨g1, 5, none⟩), .int .i8 x5, .pointer (some ⟨g2, 5, none⟩), .int .i8 x5, .bool false], []⟩) (by kernel_rfl) ?_
 refine wcf ?_
 refine wp_skip ?_
 refine then_normal ?_
 refine wsr ?_
 refine wv (.bool true) ?_
 refine wpList_nil (then_normal ?_)
 refine wp_ret ?_
 have H1 := ((Ext.refl w).trans E1).trans E2
 refine ret1 (.bool true) rfl ?_ rfl ?_
 · exact resT (by kernel_rfl)
 exact ⟨rfl, H1⟩


--# eqFlockS_same
theorem eqFlockS_same (n : Nat) (f : Nat → Nat → Int) (b cap : Nat) (cs : Array Value) (hS : SlX cs n cap 6 [.i16, .i16, .i16, .i16, .i16, .i8] f) (b2 cap2 : Nat) (cs2 : Array Value) (hS2 : SlX cs2 n cap2 6 [.i16, .i16, .i16, .i16, .i16, .i8] f) (hn : n ≤ 1048576) (w : World) (hb : Blk w b 77 cs) (hb2 : Blk w b2 77 cs2) :
 Calls Tryd.prog 23 #[.slice (some ⟨b, 0, none⟩) n cap, .slice (some ⟨b2, 0, none⟩) n cap2] w fun e w' => e = .returned (.bool true) ∧ Ext w w' := by
 refine calls_of_wp Tryd.func23 rfl ?_
 refine wp_frame (a' := ⟨#[.slice (some ⟨b, 0, none⟩) n cap, .slice (some ⟨b2, 0, none⟩) n cap2, undef, undef, undef, undef, undef, undef, undef, undef, undef, undef, undef, undef, undef, undef, undef, undef, undef, undef, undef, undef, undef, undef, undef, undef, undef], []⟩) (by kernel_rfl) ?_
 refine wsr ?_
 refine wv (.bool false) ?_
 refine wpList_nil (then_normal ?_)
 refine wp_seq ?_
 refine wsr ?_
 refine wv (.slice (some ⟨b, 0, none⟩) n cap) ?_
 refine wv (.int .i64 (n : Int)) ?_
 refine wv (.slice (some ⟨b2, 0, none⟩) n cap2) ?_
 refine wv (.int .i64 (n : Int)) ?_
 refine wvv (.bool ((n : Int) != (n : Int))) (.bool false) (by simp) ?_
 refine wpList_nil (then_normal ?_)
 refine wcf ?_
 refine wp_skip ?_
 refine then_normal ?_
 refine wp_seq ?_
 refine wsr ?_
 refine wv (.int .i64 0) ?_
 refine wpList_nil (then_normal ?_)
 refine wp_block ?_
 refine wp_loop_k (fun m1 a wl1 => ∃ (i : Nat), m1 = n - i ∧ i ≤ n ∧ Ext w wl1 ∧ Blk wl1 b 77 cs ∧ Blk wl1 b2 77 cs2 ∧ (∃ J1 : Nat → Value, a = ⟨#[.slice (some ⟨b, 0, none⟩) n cap, .slice (some ⟨b2, 0, none⟩) n cap2, undef, undef, J1 4, .int .i64 (i : Int), .slice (some ⟨b, 0, none⟩) n cap, .int .i64 (n : Int), .slice (some ⟨b2, 0, none⟩) n cap2, .int .i64 (n : Int), .bool false, J1 11, J1 12, J1 13, J1 14, J1 15, J1 16, J1 17, J1 18, J1 19, J1 20, J1 21, J1 22, J1 23, J1 24, J1 25, J1 26], []⟩)) (n) ?_ ?_
 · refine ⟨0, rfl, ?_, (Ext.refl w), hb, hb2, exJ (by kernel_rfl)⟩
   · omega
 intro m1 a wl1 hI
 obtain ⟨i, rfl, hi_, HL1, hb, hb2, J1, rfl⟩ := hI
 refine wp_seq ?_
 refine wsr ?_
 refine wv (.int .i64 (i : Int)) ?_
 refine wv (.slice (some ⟨b, 0, none⟩) n cap) ?_
 refine wv (.int .i64 (n : Int)) ?_
 refine wv (.bool (decide ((i : Int) < (n : Int)))) ?_
 refine wpList_nil (then_normal ?_)
 refine wsplit (decide ((i : Int) < (n : Int))) (fun h1 => ?_) (fun h1 => ?_)
 · skip
   have h1d := dT h1
   refine wp_skip ?_
   refine then_normal ?_
   refine wp_seq ?_
   refine wp_block ?_
   refine wp_seq ?_
   refine wp_frame (a' := ⟨#[.slice (some ⟨b, 0, none⟩) n cap, .slice (some ⟨b2, 0, none⟩) n cap2, undef, undef, J1 4, .int .i64 (i : Int), .slice (some ⟨b, 0, none⟩) n cap, .int .i64 (n : Int), .slice (some ⟨b2, 0, none⟩) n cap2, .int .i64 (n : Int), .bool false, .int .i64 (i : Int), .slice (some ⟨b, 0, none⟩) n cap, .int .i64 (n : Int), .bool (decide ((i : Int) < (n : Int))), J1 15, J1 16, J1 17, J1 18, J1 19, J1 20, J1 21, J1 22, J1 23, J1 24, J1 25, J1 26], []⟩) (by kernel_rfl) ?_
   refine region_go 10 [17, 18, 19, 20, 21, 22, 23, 24, 25, 26] [[], [], [0, 1], [2], [], [], [4, 5], [6], [3, 7], [8]]
    (fun i_ => ([.val (.slice (some ⟨b, 0, none⟩) n cap), .val (.int .i64 (i : Int)), .val (.pointer (some ⟨b, 0 + i * 6, none⟩)), .val (.agg #[.int .i16 (f i 0), .int .i16 (f i 1), .int .i16 (f i 2), .int .i16 (f i 3), .int .i16 (f i 4), .int .i8 (f i 5)]), .val (.slice (some ⟨b2, 0, none⟩) n cap2), .val (.int .i64 (i : Int)), .val (.pointer (some ⟨b2, 0 + i * 6, none⟩)), .val (.agg #[.int .i16 (f i 0), .int .i16 (f i 1), .int .i16 (f i 2), .int .i16 (f i 3), .int .i16 (f i 4), .int .i8 (f i 5)]), .val (.bool true), .val (.bool false)] : List Fct).getD i_ .any)
    (by kernel_rfl) (by kernel_rfl) (by decide) (by simp) rfl (all_succ (all_succ (all_succ (all_succ (all_succ (all_succ (all_succ (all_succ (all_succ (all_succ all_zero ?_) ?_) ?_) ?_) ?_) ?_) ?_) ?_) ?_) ?_) ?_
   · refine step0 rfl rfl rfl (fun wr hw => ?_)
     exact OpRun.val (.slice (some ⟨b, 0, none⟩) n cap) (.slice (some ⟨b, 0, none⟩) n cap) (by kernel_rfl) rfl ⟨Ext.refl _, rfl⟩
   · refine step0 rfl rfl rfl (fun wr hw => ?_)
     exact OpRun.val (.int .i64 (i : Int)) (.int .i64 (i : Int)) (by kernel_rfl) rfl ⟨Ext.refl _, rfl⟩
   · refine step2 rfl rfl rfl rfl rfl (fun u0 u1 wr hw h0 h1 => ?_)
     cases h0
     cases h1
     exact OpRun.six (i := i) (k := .i64) (g := b) (off := 0) (n := n) (cap := cap) slit__impl_Flock rfl (by kernel_rfl) (by kernel_rfl) (by omega) ⟨Ext.refl _, rfl⟩
   · refine step1 rfl rfl rfl rfl (fun u0 wr hw h0 => ?_)
     cases h0
     exact OpRun.mid (cs := [.int .i16 (f i 0), .int .i16 (f i 1), .int .i16 (f i 2), .int .i16 (f i 3), .int .i16 (f i 4), .int .i8 (f i 5)]) row_impl_Flock rfl (SlX.range (i := i) hS (hb.ext hw) (by omega)) rfl (by kernel_rfl) ⟨Ext.refl _, rfl⟩
   · refine step0 rfl rfl rfl (fun wr hw => ?_)
     exact OpRun.val (.slice (some ⟨b2, 0, none⟩) n cap2) (.slice (some ⟨b2, 0, none⟩) n cap2) (by kernel_rfl) rfl ⟨Ext.refl _, rfl⟩
   · refine step0 rfl rfl rfl (fun wr hw => ?_)
     exact OpRun.val (.int .i64 (i : Int)) (.int .i64 (i : Int)) (by kernel_rfl) rfl ⟨Ext.refl _, rfl⟩
   · refine step2 rfl rfl rfl rfl rfl (fun u0 u1 wr hw h0 h1 => ?_)
     cases h0
     cases h1
     exact OpRun.six (i := i) (k := .i64) (g := b2) (off := 0) (n := n) (cap := cap2) slit__impl_Flock rfl (by kernel_rfl) (by kernel_rfl) (by omega) ⟨Ext.refl _, rfl⟩
   · refine step1 rfl rfl rfl rfl (fun u0 wr hw h0 => ?_)
     cases h0
     exact OpRun.mid (cs := [.int .i16 (f i 0), .int .i16 (f i 1), .int .i16 (f i 2), .int .i16 (f i 3), .int .i16 (f i 4), .int .i8 (f i 5)]) row_impl_Flock rfl (SlX.range (i := i) hS2 (hb2.ext hw) (by omega)) rfl (by kernel_rfl) ⟨Ext.refl _, rfl⟩
   · refine step2 rfl rfl rfl rfl rfl (fun u0 u1 wr hw h0 h1 => ?_)
     cases h0
     cases h1
     exact OpRun.call 47 #[.agg #[.int .i16 (f i 0), .int .i16 (f i 1), .int .i16 (f i 2), .int .i16 (f i 3), .int .i16 (f i 4), .int .i8 (f i 5)], .agg #[.int .i16 (f i 0), .int .i16 (f i 1), .int .i16 (f i 2), .int .i16 (f i 3), .int .i16 (f i 4), .int .i8 (f i 5)]] (by kernel_rfl) ((eqFlock_same (f i 0) (f i 1) (f i 2) (f i 3) (f i 4) (f i 5) _).mono fun e w1 ⟨he, hb⟩ => ⟨_, he, hb, rfl⟩)
   · refine step1 rfl rfl rfl rfl (fun u0 wr hw h0 => ?_)
     cases h0
     exact OpRun.val (.bool false) (.bool false) (by kernel_rfl) rfl ⟨Ext.refl _, rfl⟩
   refine end10 (fun u0 u1 u2 u3 u4 u5 u6 u7 u8 u9 w1 E1 f0 f1 f2 f3 f4 f5 f6 f7 f8 f9 => ?_)
   cases f0
   cases f1
   cases f2
   cases f3
   cases f4
   cases f5
   cases f6
   cases f7
   cases f8
   cases f9
   refine wpList_nil (then_normal ?_)
   refine wcf ?_
   refine wp_skip ?_
   refine block_normal (then_normal ?_)
   refine wp_region_lit ?_
   refine wv (.int .i64 (i : Int)) ?_
   refine wi64 ((i : Int) + 1) ?_
   refine wv (.int .i64 ((i : Int) + 1)) ?_
   refine wpList_nil (then_normal ?_)
   replace hb := hb.ext E1
   replace hb2 := hb2.ext E1
   have H1 := HL1.trans E1
   refine ⟨_, ?_, i + 1, rfl, ?_, H1, hb, hb2, exJ (by kernel_rfl)⟩
   · omega
   · omega
 · skip
   have h1d := dF h1
   refine wp_exit ?_
   refine then_exit ?_
   refine then_exit ?_
   refine block_exit ?_
   refine then_normal ?_
   refine wsr ?_
   refine wv (.bool true) ?_
   refine wpList_nil (then_normal ?_)
   refine wp_ret ?_
   refine ret1 (.bool true) rfl ?_ rfl ?_
   · exact resT (by kernel_rfl)
   exact ⟨rfl, HL1⟩


--# eqFlockS_nil
theorem eqFlockS_nil (b cap : Nat) (w : World) :
 Calls Tryd.prog 23 #[.slice none 0 0, .slice (some ⟨b, 0, none⟩) 0 cap] w fun e w' => e = .returned (.bool true) ∧ Ext w w' := by
 refine calls_of_wp Tryd.func23 rfl ?_
 refine wp_frame (a' := ⟨#[.slice none 0 0, .slice (some ⟨b, 0, none⟩) 0 cap, undef, undef, undef, undef, undef, undef, undef, undef, undef, undef, undef, undef, undef, undef, undef, undef, undef, undef, undef, undef, undef, undef, undef, undef, undef], []⟩) (by kernel_rfl) ?_
 refine wsr ?_
 refine wv (.bool false) ?_
 refine wpList_nil (then_normal ?_)
 refine wp_seq ?_
 refine wsr ?_
 refine wv (.slice none 0 0) ?_
 refine wv (.int .i64 0) ?_
 refine wv (.slice (some ⟨b, 0, none⟩) 0 cap) ?_
 refine wv (.int .i64 0) ?_
 refine wvv (.bool (0 != 0)) (.bool false) (by simp) ?_
 refine wpList_nil (then_normal ?_)
 refine wcf ?_
 refine wp_skip ?_
 refine then_normal ?_
 refine wp_seq ?_
 refine wsr ?_
 refine wv (.int .i64 0) ?_
 refine wpList_nil (then_normal ?_)
 refine wp_block ?_
 refine wp_loop_rounds 1 ?_
 refine rounds_s ?_
 refine wp_seq ?_
 refine wsr ?_
 refine wv (.int .i64 0) ?_
 refine wv (.slice none 0 0) ?_
 refine wv (.int .i64 0) ?_
 refine wv (.bool false) ?_
 refine wpList_nil (then_normal ?_)
 refine wcf ?_
 refine wp_exit ?_
 refine then_exit ?_
 refine then_exit ?_
 refine block_exit ?_
 refine then_normal ?_
 refine wsr ?_
 refine wv (.bool true) ?_
 refine wpList_nil (then_normal ?_)
 refine wp_ret ?_
 refine ret1 (.bool true) rfl ?_ rfl ?_
 · exact resT (by kernel_rfl)
 exact ⟨rfl, (Ext.refl w)⟩


--# markFlockS_nil
theorem markFlockS_nil (k : Int) (w : World) :
 Calls Tryd.prog 24 #[.slice none 0 0, .int .i64 k] w fun e w' => e = .returned (.int .i64 k) ∧ Ext w w' := by
 refine calls_of_wp Tryd.func24 rfl ?_
 refine wp_frame (a' := ⟨#[.slice none 0 0, .int .i64 k, undef, undef, undef, undef, undef, undef, undef, undef, undef, undef, undef, undef, undef, undef, undef, undef, undef, undef, undef, undef, undef, undef, undef, undef, undef, undef, undef, undef, undef, undef, undef, undef, undef, undef, undef, undef, undef, undef, undef, undef, undef, undef, undef, undef, undef, undef, undef, undef, undef, undef, undef, undef, undef, undef, undef, undef, undef, undef, undef], []⟩) (by kernel_rfl) ?_
 refine wsr ?_
 refine wv (.int .i64 0) ?_
 refine wpList_nil (then_normal ?_)
 refine wp_seq ?_
 refine wsr ?_
 refine wv (.int .i64 0) ?_
 refine wpList_nil (then_normal ?_)
 refine wp_block ?_
 refine wp_loop_rounds 1 ?_
 refine rounds_s ?_
 refine wp_seq ?_
 refine wsr ?_
 refine wv (.int .i64 0) ?_
 refine wv (.slice none 0 0) ?_
 refine wv (.int .i64 0) ?_
 refine wv (.bool false) ?_
 refine wpList_nil (then_normal ?_)
 refine wcf ?_
 refine wp_exit ?_
 refine then_exit ?_
 refine then_exit ?_
 refine block_exit ?_
 refine then_normal ?_
 refine wsr ?_
 refine wv (.int .i64 k) ?_
 refine wv (.int .i64 k) ?_
 refine wpList_nil (then_normal ?_)
 refine wp_ret ?_
 refine ret1 (.int .i64 k) rfl ?_ rfl ?_
 · exact resT (by kernel_rfl)
 exact ⟨rfl, (Ext.refl w)⟩


--# heldFlockS_nil
theorem heldFlockS_nil (k : Int) (w : World) :
 Calls Tryd.prog 25 #[.slice none 0 0, .int .i64 k] w fun e w' => e = .returned (.int .i64 k) ∧ Ext w w' := by
 refine calls_of_wp Tryd.func25 rfl ?_
 refine wp_frame (a' := ⟨#[.slice none 0 0, .int .i64 k, undef, undef, undef, undef, undef, undef, undef, undef, undef, undef, undef, undef, undef, undef, undef, undef, undef, undef, undef, undef, undef, undef, undef, undef, undef, undef, undef, undef, undef, undef, undef, undef, undef, undef, undef, undef, undef, undef, undef, undef, undef, undef, undef, undef, undef, undef, undef, undef, undef, undef, undef, undef, undef, undef, undef, undef, undef, undef, undef, undef, undef, undef, undef, undef, undef, undef, undef, undef, undef, undef, undef], []⟩) (by kernel_rfl) ?_
 refine wsr ?_
 refine wv (.int .i64 0) ?_
 refine wpList_nil (then_normal ?_)
 refine wp_seq ?_
 refine wsr ?_
 refine wv (.int .i64 0) ?_
 refine wpList_nil (then_normal ?_)
 refine wp_block ?_
 refine wp_loop_rounds 1 ?_
 refine rounds_s ?_
 refine wp_seq ?_
 refine wsr ?_
 refine wv (.int .i64 0) ?_
 refine wv (.slice none 0 0) ?_
 refine wv (.int .i64 0) ?_
 refine wv (.bool false) ?_
 refine wpList_nil (then_normal ?_)
 refine wcf ?_
 refine wp_exit ?_
 refine then_exit ?_
 refine then_exit ?_
 refine block_exit ?_
 refine then_normal ?_
 refine wsr ?_
 refine wv (.int .i64 k) ?_
 refine wv (.int .i64 k) ?_
 refine wpList_nil (then_normal ?_)
 refine wp_ret ?_
 refine ret1 (.int .i64 k) rfl ?_ rfl ?_
 · exact resT (by kernel_rfl)
 exact ⟨rfl, (Ext.refl w)⟩


--# markFlockS_any
theorem markFlockS_any (n : Nat) (f : Nat → Nat → Int) (b cap : Nat) (cs : Array Value) (hS : SlX cs n cap 6 [.i16, .i16, .i16, .i16, .i16, .i8] f) (k : Int) (hx : n ≤ 20) (hk : 0 ≤ k ∧ k ≤ 1) (w : World) (hb : Blk w b 77 cs) :
 Calls Tryd.prog 24 #[.slice (some ⟨b, 0, none⟩) n cap, .int .i64 k] w fun e w' => ∃ cs' f', e = .returned (.int .i64 (k + 6 * (n : Int))) ∧ Blk w' b 77 cs' ∧ SlX cs' n cap 6 [.i16, .i16, .i16, .i16, .i16, .i8] f' ∧ (∀ a c, a < n → c < 6 → f' a c = k + 6 * (a : Int) + (c : Int)) ∧ Wr b w w' := by
 refine calls_of_wp Tryd.func24 rfl ?_
 refine wp_frame (a' := ⟨#[.slice (some ⟨b, 0, none⟩) n cap, .int .i64 k, undef, undef, undef, undef, undef, undef, undef, undef, undef, undef, undef, undef, undef, undef, undef, undef, undef, undef, undef, undef, undef, undef, undef, undef, undef, undef, undef, undef, undef, undef, undef, undef, undef, undef, undef, undef, undef, undef, undef, undef, undef, undef, undef, undef, undef, undef, undef, undef, undef, undef, undef, undef, undef, undef, undef, undef, undef, undef, undef], []⟩) (by kernel_rfl) ?_
 refine wsr ?_
 refine wv (.int .i64 0) ?_
 refine wpList_nil (then_normal ?_)
 refine wp_seq ?_
 refine wsr ?_
 refine wv (.int .i64 0) ?_
 refine wpList_nil (then_normal ?_)
 refine wp_block ?_
 refine wp_loop_k (fun m1 a wl1 => ∃ (i : Nat) (kk : Int) (fm : Nat → Nat → Int) (cs_ : Array Value), m1 = n - i ∧ i ≤ n ∧ kk = k + 6 * (i : Int) ∧ SlX cs_ n cap 6 [.i16, .i16, .i16, .i16, .i16, .i8] fm ∧ (∀ a c, a < i → c < 6 → fm a c = k + 6 * (a : Int) + (c : Int)) ∧ Wr b w wl1 ∧ Blk wl1 b 77 cs_ ∧ (∃ J1 : Nat → Value, a = ⟨#[.slice (some ⟨b, 0, none⟩) n cap, .int .i64 kk, undef, undef, .int .i64 0, .int .i64 (i : Int), J1 6, J1 7, J1 8, J1 9, J1 10, J1 11, J1 12, J1 13, J1 14, J1 15, J1 16, J1 17, J1 18, J1 19, J1 20, J1 21, J1 22, J1 23, J1 24, J1 25, J1 26, J1 27, J1 28, J1 29, J1 30, J1 31, J1 32, J1 33, J1 34, J1 35, J1 36, J1 37, J1 38, J1 39, J1 40, J1 41, J1 42, J1 43, J1 44, J1 45, J1 46, J1 47, J1 48, J1 49, J1 50, J1 51, J1 52, J1 53, J1 54, J1 55, J1 56, J1 57, J1 58, J1 59, undef], []⟩)) (n) ?_ ?_
 · refine ⟨0, k, f, cs, rfl, ?_, ?_, ?_, ?_, (Wr.of_ext (b := b) (Ext.refl w)), hb, exJ (by kernel_rfl)⟩
   · omega
   · omega
   · exact hS
   · intro a c ha hc; omega
 intro m1 a wl1 hI
 obtain ⟨i, kk, fm, cs_, rfl, hi_, hkk, Sm, hys, HL1, hb, J1, rfl⟩ := hI
 refine wp_seq ?_
 refine wsr ?_
 refine wv (.int .i64 (i : Int)) ?_
 refine wv (.slice (some ⟨b, 0, none⟩) n cap) ?_
 refine wv (.int .i64 (n : Int)) ?_
 refine wv (.bool (decide ((i : Int) < (n : Int)))) ?_
 refine wpList_nil (then_normal ?_)
 refine wsplit (decide ((i : Int) < (n : Int))) (fun h1 => ?_) (fun h1 => ?_)
 · skip
   have h1d := dT h1
   refine wp_skip ?_
   refine then_normal ?_
   refine wp_seq ?_
   refine wp_block ?_
   refine wsr ?_
   refine wv (.slice (some ⟨b, 0, none⟩) n cap) ?_
   refine wv (.int .i64 (i : Int)) ?_
   refine wv (.int .i64 kk) ?_
   refine wi16 kk ?_
   refine wsix b 0 n cap i .i64 slit__impl_Flock ?_
   refine wv (.pointer (some ⟨b, 0 + i * 6, none⟩)) ?_
   have S1 : SlX (cs_.setIfInBounds (0 + i * 6) (.int .i16 kk)) n cap 6 [.i16, .i16, .i16, .i16, .i16, .i8] (updC fm i 0 kk) := Sm.set0 (i := i) kk (by omega) (by decide) rfl
   refine wst b (0 + i * 6) (.int .i16 kk) scal_int16 hb (rfl) (by exact SlX.clt Sm (i := i) (c := 0) (by omega) (by decide)) ?_
   intro w1 hb_ X1
   clear hb; have hb := hb_; clear hb_
   refine wpList_nil (then_normal ?_)
   refine wsr ?_
   refine wv (.int .i64 kk) ?_
   refine wi64 (kk + 1) ?_
   refine wv (.int .i64 (kk + 1)) ?_
   refine wpList_nil (then_normal ?_)
   refine wsr ?_
   refine wv (.slice (some ⟨b, 0, none⟩) n cap) ?_
   refine wv (.int .i64 (i : Int)) ?_
   refine wv (.int .i64 (kk + 1)) ?_
   refine wi16 (kk + 1) ?_
   refine wsix b 0 n cap i .i64 slit__impl_Flock ?_
   refine wv (.pointer (some ⟨b, 0 + i * 6 + 1, none⟩)) ?_
   have S2 : SlX ((cs_.setIfInBounds (0 + i * 6) (.int .i16 kk)).setIfInBounds (0 + i * 6 + 1) (.int .i16 (kk + 1))) n cap 6 [.i16, .i16, .i16, .i16, .i16, .i8] (updC (updC fm i 0 kk) i 1 (kk + 1)) := S1.set (i := i) (c := 1) (kk + 1) (by omega) (by decide) rfl
   refine wst b (0 + i * 6 + 1) (.int .i16 (kk + 1)) scal_int16 hb (rfl) (by exact SlX.clt S1 (i := i) (c := 1) (by omega) (by decide)) ?_
   intro w2 hb_ X2
   clear hb; have hb := hb_; clear hb_
   refine wpList_nil (then_normal ?_)
   refine wsr ?_
   refine wv (.int .i64 (kk + 1)) ?_
   refine wi64 ((kk + 1) + 1) ?_
   refine wv (.int .i64 ((kk + 1) + 1)) ?_
   refine wpList_nil (then_normal ?_)
   refine wsr ?_
   refine wv (.slice (some ⟨b, 0, none⟩) n cap) ?_
   refine wv (.int .i64 (i : Int)) ?_
   refine wv (.int .i64 ((kk + 1) + 1)) ?_
   refine wi16 ((kk + 1) + 1) ?_
   refine wsix b 0 n cap i .i64 slit__impl_Flock ?_
   refine wv (.pointer (some ⟨b, 0 + i * 6 + 2, none⟩)) ?_
   have S3 : SlX (((cs_.setIfInBounds (0 + i * 6) (.int .i16 kk)).setIfInBounds (0 + i * 6 + 1) (.int .i16 (kk + 1))).setIfInBounds (0 + i * 6 + 2) (.int .i16 ((kk + 1) + 1))) n cap 6 [.i16, .i16, .i16, .i16, .i16, .i8] (updC (updC (updC fm i 0 kk) i 1 (kk + 1)) i 2 ((kk + 1) + 1)) := S2.set (i := i) (c := 2) ((kk + 1) + 1) (by omega) (by decide) rfl
   refine wst b (0 + i * 6 + 2) (.int .i16 ((kk + 1) + 1)) scal_int16 hb (rfl) (by exact SlX.clt S2 (i := i) (c := 2) (by omega) (by decide)) ?_
   intro w3 hb_ X3
   clear hb; have hb := hb_; clear hb_
   refine wpList_nil (then_normal ?_)
   refine wp_frame (a' := ⟨#[.slice (some ⟨b, 0, none⟩) n cap, .int .i64 ((kk + 1) + 1), undef, undef, .int .i64 0, .int .i64 (i : Int), .int .i64 (i : Int), .slice (some ⟨b, 0, none⟩) n cap, .int .i64 (n : Int), .bool (decide ((i : Int) < (n : Int))), J1 10, J1 11, .slice (some ⟨b, 0, none⟩) n cap, .int .i64 (i : Int), .int .i64 kk, .int .i16 kk, .pointer (some ⟨b, 0 + i * 6, none⟩), .pointer (some ⟨b, 0 + i * 6, none⟩), .int .i64 kk, .int .i64 (kk + 1), .slice (some ⟨b, 0, none⟩) n cap, .int .i64 (i : Int), .int .i64 (kk + 1), .int .i16 (kk + 1), .pointer (some ⟨b, 0 + i * 6, none⟩), .pointer (some ⟨b, 0 + i * 6 + 1, none⟩), .int .i64 (kk + 1), .int .i64 ((kk + 1) + 1), .slice (some ⟨b, 0, none⟩) n cap, .int .i64 (i : Int), .int .i64 ((kk + 1) + 1), .int .i16 ((kk + 1) + 1), .pointer (some ⟨b, 0 + i * 6, none⟩), .pointer (some ⟨b, 0 + i * 6 + 2, none⟩), J1 34, J1 35, J1 36, J1 37, J1 38, J1 39, J1 40, J1 41, J1 42, J1 43, J1 44, J1 45, J1 46, J1 47, J1 48, J1 49, J1 50, J1 51, J1 52, J1 53, J1 54, J1 55, J1 56, J1 57, J1 58, J1 59, undef], []⟩) (by kernel_rfl) ?_
   refine wsr ?_
   refine wv (.int .i64 ((kk + 1) + 1)) ?_
   refine wi64 (((kk + 1) + 1) + 1) ?_
   refine wv (.int .i64 (((kk + 1) + 1) + 1)) ?_
   refine wpList_nil (then_normal ?_)
   refine wsr ?_
   refine wv (.slice (some ⟨b, 0, none⟩) n cap) ?_
   refine wv (.int .i64 (i : Int)) ?_
   refine wv (.int .i64 (((kk + 1) + 1) + 1)) ?_
   refine wi16 (((kk + 1) + 1) + 1) ?_
   refine wsix b 0 n cap i .i64 slit__impl_Flock ?_
   refine wv (.pointer (some ⟨b, 0 + i * 6 + 3, none⟩)) ?_
   have S4 : SlX ((((cs_.setIfInBounds (0 + i * 6) (.int .i16 kk)).setIfInBounds (0 + i * 6 + 1) (.int .i16 (kk + 1))).setIfInBounds (0 + i * 6 + 2) (.int .i16 ((kk + 1) + 1))).setIfInBounds (0 + i * 6 + 3) (.int .i16 (((kk + 1) + 1) + 1))) n cap 6 [.i16, .i16, .i16, .i16, .i16, .i8] (updC (updC (updC (updC fm i 0 kk) i 1 (kk + 1)) i 2 ((kk + 1) + 1)) i 3 (((kk + 1) + 1) + 1)) := S3.set (i := i) (c := 3) (((kk + 1) + 1) + 1) (by omega) (by decide) rfl
   refine wst b (0 + i * 6 + 3) (.int .i16 (((kk + 1) + 1) + 1)) scal_int16 hb (rfl) (by exact SlX.clt S3 (i := i) (c := 3) (by omega) (by decide)) ?_
   intro w4 hb_ X4
   clear hb; have hb := hb_; clear hb_
   refine wpList_nil (then_normal ?_)
   refine wsr ?_
   refine wv (.int .i64 (((kk + 1) + 1) + 1)) ?_
   refine wi64 ((((kk + 1) + 1) + 1) + 1) ?_
   refine wv (.int .i64 ((((kk + 1) + 1) + 1) + 1)) ?_
   refine wpList_nil (then_normal ?_)
   refine wsr ?_
   refine wv (.slice (some ⟨b, 0, none⟩) n cap) ?_
   refine wv (.int .i64 (i : Int)) ?_
   refine wv (.int .i64 ((((kk + 1) + 1) + 1) + 1)) ?_
   refine wi16 ((((kk + 1) + 1) + 1) + 1) ?_
   refine wsix b 0 n cap i .i64 slit__impl_Flock ?_
   refine wv (.pointer (some ⟨b, 0 + i * 6 + 4, none⟩)) ?_
   have S5 : SlX (((((cs_.setIfInBounds (0 + i * 6) (.int .i16 kk)).setIfInBounds (0 + i * 6 + 1) (.int .i16 (kk + 1))).setIfInBounds (0 + i * 6 + 2) (.int .i16 ((kk + 1) + 1))).setIfInBounds (0 + i * 6 + 3) (.int .i16 (((kk + 1) + 1) + 1))).setIfInBounds (0 + i * 6 + 4) (.int .i16 ((((kk + 1) + 1) + 1) + 1))) n cap 6 [.i16, .i16, .i16, .i16, .i16, .i8] (updC (updC (updC (updC (updC fm i 0 kk) i 1 (kk + 1)) i 2 ((kk + 1) + 1)) i 3 (((kk + 1) + 1) + 1)) i 4 ((((kk + 1) + 1) + 1) + 1)) := S4.set (i := i) (c := 4) ((((kk + 1) + 1) + 1) + 1) (by omega) (by decide) rfl
   refine wst b (0 + i * 6 + 4) (.int .i16 ((((kk + 1) + 1) + 1) + 1)) scal_int16 hb (rfl) (by exact SlX.clt S4 (i := i) (c := 4) (by omega) (by decide)) ?_
   intro w5 hb_ X5
   clear hb; have hb := hb_; clear hb_
   refine wpList_nil (then_normal ?_)
   refine wsr ?_
   refine wv (.int .i64 ((((kk + 1) + 1) + 1) + 1)) ?_
   refine wi64 (((((kk + 1) + 1) + 1) + 1) + 1) ?_
   refine wv (.int .i64 (((((kk + 1) + 1) + 1) + 1) + 1)) ?_
   refine wpList_nil (then_normal ?_)
   refine wsr ?_
   refine wv (.slice (some ⟨b, 0, none⟩) n cap) ?_
   refine wv (.int .i64 (i : Int)) ?_
   refine wv (.int .i64 (((((kk + 1) + 1) + 1) + 1) + 1)) ?_
   refine wi8 (((((kk + 1) + 1) + 1) + 1) + 1) ?_
   refine wsix b 0 n cap i .i64 slit__impl_Flock ?_
   refine wv (.pointer (some ⟨b, 0 + i * 6 + 5, none⟩)) ?_
   have S6 : SlX ((((((cs_.setIfInBounds (0 + i * 6) (.int .i16 kk)).setIfInBounds (0 + i * 6 + 1) (.int .i16 (kk + 1))).setIfInBounds (0 + i * 6 + 2) (.int .i16 ((kk + 1) + 1))).setIfInBounds (0 + i * 6 + 3) (.int .i16 (((kk + 1) + 1) + 1))).setIfInBounds (0 + i * 6 + 4) (.int .i16 ((((kk + 1) + 1) + 1) + 1))).setIfInBounds (0 + i * 6 + 5) (.int .i8 (((((kk + 1) + 1) + 1) + 1) + 1))) n cap 6 [.i16, .i16, .i16, .i16, .i16, .i8] (updC (updC (updC (updC (updC (updC fm i 0 kk) i 1 (kk + 1)) i 2 ((kk + 1) + 1)) i 3 (((kk + 1) + 1) + 1)) i 4 ((((kk + 1) + 1) + 1) + 1)) i 5 (((((kk + 1) + 1) + 1) + 1) + 1)) := S5.set (i := i) (c := 5) (((((kk + 1) + 1) + 1) + 1) + 1) (by omega) (by decide) rfl
   refine wst b (0 + i * 6 + 5) (.int .i8 (((((kk + 1) + 1) + 1) + 1) + 1)) scal_int8 hb (rfl) (by exact SlX.clt S5 (i := i) (c := 5) (by omega) (by decide)) ?_
   intro w6 hb_ X6
   clear hb; have hb := hb_; clear hb_
   refine wpList_nil (then_normal ?_)
   refine wp_region_lit ?_
   refine wv (.int .i64 (((((kk + 1) + 1) + 1) + 1) + 1)) ?_
   refine wi64 ((((((kk + 1) + 1) + 1) + 1) + 1) + 1) ?_
   refine wv (.int .i64 ((((((kk + 1) + 1) + 1) + 1) + 1) + 1)) ?_
   refine wpList_nil (block_normal (then_normal ?_))
   refine wp_frame (a' := ⟨#[.slice (some ⟨b, 0, none⟩) n cap, .int .i64 ((((((kk + 1) + 1) + 1) + 1) + 1) + 1), undef, undef, .int .i64 0, .int .i64 (i : Int), .int .i64 (i : Int), .slice (some ⟨b, 0, none⟩) n cap, .int .i64 (n : Int), .bool (decide ((i : Int) < (n : Int))), J1 10, J1 11, .slice (some ⟨b, 0, none⟩) n cap, .int .i64 (i : Int), .int .i64 kk, .int .i16 kk, .pointer (some ⟨b, 0 + i * 6, none⟩), .pointer (some ⟨b, 0 + i * 6, none⟩), .int .i64 kk, .int .i64 (kk + 1), .slice (some ⟨b, 0, none⟩) n cap, .int .i64 (i : Int), .int .i64 (kk + 1), .int .i16 (kk + 1), .pointer (some ⟨b, 0 + i * 6, none⟩), .pointer (some ⟨b, 0 + i * 6 + 1, none⟩), .int .i64 (kk + 1), .int .i64 ((kk + 1) + 1), .slice (some ⟨b, 0, none⟩) n cap, .int .i64 (i : Int), .int .i64 ((kk + 1) + 1), .int .i16 ((kk + 1) + 1), .pointer (some ⟨b, 0 + i * 6, none⟩), .pointer (some ⟨b, 0 + i * 6 + 2, none⟩), .int .i64 ((kk + 1) + 1), .int .i64 (((kk + 1) + 1) + 1), .slice (some ⟨b, 0, none⟩) n cap, .int .i64 (i : Int), .int .i64 (((kk + 1) + 1) + 1), .int .i16 (((kk + 1) + 1) + 1), .pointer (some ⟨b, 0 + i * 6, none⟩), .pointer (some ⟨b, 0 + i * 6 + 3, none⟩), .int .i64 (((kk + 1) + 1) + 1), .int .i64 ((((kk + 1) + 1) + 1) + 1), .slice (some ⟨b, 0, none⟩) n cap, .int .i64 (i : Int), .int .i64 ((((kk + 1) + 1) + 1) + 1), .int .i16 ((((kk + 1) + 1) + 1) + 1), .pointer (some ⟨b, 0 + i * 6, none⟩), .pointer (some ⟨b, 0 + i * 6 + 4, none⟩), .int .i64 ((((kk + 1) + 1) + 1) + 1), .int .i64 (((((kk + 1) + 1) + 1) + 1) + 1), .slice (some ⟨b, 0, none⟩) n cap, .int .i64 (i : Int), .int .i64 (((((kk + 1) + 1) + 1) + 1) + 1), .int .i8 (((((kk + 1) + 1) + 1) + 1) + 1), .pointer (some ⟨b, 0 + i * 6, none⟩), .pointer (some ⟨b, 0 + i * 6 + 5, none⟩), .int .i64 (((((kk + 1) + 1) + 1) + 1) + 1), .int .i64 ((((((kk + 1) + 1) + 1) + 1) + 1) + 1), undef], []⟩) (by kernel_rfl) ?_
   refine wp_region_lit ?_
   refine wv (.int .i64 (i : Int)) ?_
   refine wi64 ((i : Int) + 1) ?_
   refine wv (.int .i64 ((i : Int) + 1)) ?_
   refine wpList_nil (then_normal ?_)
   have H1 := (((((HL1.trans X1).trans X2).trans X3).trans X4).trans X5).trans X6
   refine ⟨_, ?_, i + 1, (((((kk + 1) + 1) + 1) + 1) + 1) + 1, updC (updC (updC (updC (updC (updC fm i 0 kk) i 1 (kk + 1)) i 2 ((kk + 1) + 1)) i 3 (((kk + 1) + 1) + 1)) i 4 ((((kk + 1) + 1) + 1) + 1)) i 5 (((((kk + 1) + 1) + 1) + 1) + 1), ((((((cs_.setIfInBounds (0 + i * 6) (.int .i16 kk)).setIfInBounds (0 + i * 6 + 1) (.int .i16 (kk + 1))).setIfInBounds (0 + i * 6 + 2) (.int .i16 ((kk + 1) + 1))).setIfInBounds (0 + i * 6 + 3) (.int .i16 (((kk + 1) + 1) + 1))).setIfInBounds (0 + i * 6 + 4) (.int .i16 ((((kk + 1) + 1) + 1) + 1))).setIfInBounds (0 + i * 6 + 5) (.int .i8 (((((kk + 1) + 1) + 1) + 1) + 1))), rfl, ?_, ?_, ?_, ?_, H1, hb, exJ (by kernel_rfl)⟩
   · omega
   · omega
   · omega
   · exact S6
   · intro a c ha hc
     by_cases hai : a = i
     · subst hai
       rcases (by omega : c = 0 ∨ c = 1 ∨ c = 2 ∨ c = 3 ∨ c = 4 ∨ c = 5) with rfl | rfl | rfl | rfl | rfl | rfl <;> simp [updC] <;> omega
     · simp only [updC, hai, false_and, if_false]
       exact hys a c (by omega) hc
 · skip
   have h1d := dF h1
   refine wp_exit ?_
   refine then_exit ?_
   refine then_exit ?_
   refine block_exit ?_
   refine then_normal ?_
   refine wsr ?_
   refine wv (.int .i64 kk) ?_
   refine wv (.int .i64 kk) ?_
   refine wpList_nil (then_normal ?_)
   refine wp_ret ?_
   refine ret1 (.int .i64 kk) rfl ?_ rfl ?_
   · exact resT (by kernel_rfl)
   have ek_ : kk = k + 6 * (n : Int) := by omega
   rw [ek_]
   exact ⟨_, _, rfl, hb, Sm, fun a c ha hc => hys a c (by omega) hc, HL1⟩


--# heldFlockS_any
theorem heldFlockS_any (n : Nat) (f : Nat → Nat → Int) (b cap : Nat) (cs : Array Value) (hS : SlX cs n cap 6 [.i16, .i16, .i16, .i16, .i16, .i8] f) (k : Int) (hx : n ≤ 20) (hk : 0 ≤ k ∧ k ≤ 1) (hm : ∀ a c, a < n → c < 6 → f a c = k + 6 * (a : Int) + (c : Int)) (w : World) (hb : Blk w b 77 cs) :
 Calls Tryd.prog 25 #[.slice (some ⟨b, 0, none⟩) n cap, .int .i64 k] w fun e w' => e = .returned (.int .i64 (k + 6 * (n : Int))) ∧ Ext w w' := by
 refine calls_of_wp Tryd.func25 rfl ?_
 refine wp_frame (a' := ⟨#[.slice (some ⟨b, 0, none⟩) n cap, .int .i64 k, undef, undef, undef, undef, undef, undef, undef, undef, undef, undef, undef, undef, undef, undef, undef, undef, undef, undef, undef, undef, undef, undef, undef, undef, undef, undef, undef, undef, undef, undef, undef, undef, undef, undef, undef, undef, undef, undef, undef, undef, undef, undef, undef, undef, undef, undef, undef, undef, undef, undef, undef, undef, undef, undef, undef, undef, undef, undef, undef, undef, undef, undef, undef, undef, undef, undef, undef, undef, undef, undef, undef], []⟩) (by kernel_rfl) ?_
 refine wsr ?_
 refine wv (.int .i64 0) ?_
 refine wpList_nil (then_normal ?_)
 refine wp_seq ?_
 refine wsr ?_
 refine wv (.int .i64 0) ?_
 refine wpList_nil (then_normal ?_)
 refine wp_block ?_
 refine wp_loop_k (fun m1 a wl1 => ∃ (i : Nat) (kk : Int), m1 = n - i ∧ i ≤ n ∧ kk = k + 6 * (i : Int) ∧ Ext w wl1 ∧ Blk wl1 b 77 cs ∧ (∃ J1 : Nat → Value, a = ⟨#[.slice (some ⟨b, 0, none⟩) n cap, .int .i64 kk, undef, undef, J1 4, .int .i64 (i : Int), J1 6, J1 7, J1 8, J1 9, J1 10, J1 11, J1 12, J1 13, J1 14, J1 15, J1 16, J1 17, J1 18, J1 19, J1 20, J1 21, J1 22, J1 23, J1 24, J1 25, J1 26, J1 27, J1 28, J1 29, J1 30, J1 31, J1 32, J1 33, J1 34, J1 35, J1 36, J1 37, J1 38, J1 39, J1 40, J1 41, J1 42, J1 43, J1 44, J1 45, J1 46, J1 47, J1 48, J1 49, J1 50, J1 51, J1 52, J1 53, J1 54, J1 55, J1 56, J1 57, J1 58, J1 59, J1 60, J1 61, J1 62, J1 63, J1 64, J1 65, J1 66, J1 67, J1 68, J1 69, J1 70, J1 71, undef], []⟩)) (n) ?_ ?_
 · refine ⟨0, k, rfl, ?_, ?_, (Ext.refl w), hb, exJ (by kernel_rfl)⟩
   · omega
   · omega
 intro m1 a wl1 hI
 obtain ⟨i, kk, rfl, hi_, hkk, HL1, hb, J1, rfl⟩ := hI
 have hm0_ := fun hi => hm i 0 hi (by omega)
 have hm1_ := fun hi => hm i 1 hi (by omega)
 have hm2_ := fun hi => hm i 2 hi (by omega)
 have hm3_ := fun hi => hm i 3 hi (by omega)
 have hm4_ := fun hi => hm i 4 hi (by omega)
 have hm5_ := fun hi => hm i 5 hi (by omega)
 refine wp_seq ?_
 refine wsr ?_
 refine wv (.int .i64 (i : Int)) ?_
 refine wv (.slice (some ⟨b, 0, none⟩) n cap) ?_
 refine wv (.int .i64 (n : Int)) ?_
 refine wv (.bool (decide ((i : Int) < (n : Int)))) ?_
 refine wpList_nil (then_normal ?_)
 refine wsplit (decide ((i : Int) < (n : Int))) (fun h1 => ?_) (fun h1 => ?_)
 · skip
   have h1d := dT h1
   refine wp_skip ?_
   refine then_normal ?_
   refine wp_seq ?_
   refine wp_block ?_
   refine wp_seq ?_
   refine wsr ?_
   refine wv (.slice (some ⟨b, 0, none⟩) n cap) ?_
   refine wv (.int .i64 (i : Int)) ?_
   refine wsix b 0 n cap i .i64 slit__impl_Flock ?_
   refine wv (.pointer (some ⟨b, 0 + i * 6, none⟩)) ?_
   refine wld b (0 + i * 6) scal_int16 (hb.get (hS.cell0 (i := i) (by omega) (by decide) rfl)) ?_
   refine wv (.int .i64 kk) ?_
   refine wi16 kk ?_
   refine wv (.bool ((f i 0) != kk)) ?_
   refine wpList_nil (then_normal ?_)
   refine wsplit ((f i 0) != kk) (fun h2 => ?_) (fun h2 => ?_)
   · skip
     have h2d := nT h2
     refine wsr ?_
     refine wv (.int .i64 (-1)) ?_
     refine wpList_nil (then_normal ?_)
     refine wp_ret ?_
     refine then_ret (block_ret (then_ret (then_ret (block_ret (then_ret ?_)))))
     refine ret1 (.int .i64 (k + 6 * (n : Int))) rfl ?_ rfl ?_
     · refine (resT (v := .int .i64 (-1)) (by kernel_rfl)).trans ?_
       refine congrArg (Value.int _) ?_
       first | omega | (exfalso; have q0_ := hm0_ (by omega); have q1_ := hm1_ (by omega); have q2_ := hm2_ (by omega); have q3_ := hm3_ (by omega); have q4_ := hm4_ (by omega); have q5_ := hm5_ (by omega); omega)
     exact ⟨rfl, HL1⟩
   · skip
     have h2d := nF h2
     refine wp_skip ?_
     refine then_normal ?_
     refine wsr ?_
     refine wv (.int .i64 kk) ?_
     refine wi64 (kk + 1) ?_
     refine wv (.int .i64 (kk + 1)) ?_
     refine wpList_nil (then_normal ?_)
     refine wp_seq ?_
     refine wsr ?_
     refine wv (.slice (some ⟨b, 0, none⟩) n cap) ?_
     refine wv (.int .i64 (i : Int)) ?_
     refine wsix b 0 n cap i .i64 slit__impl_Flock ?_
     refine wv (.pointer (some ⟨b, 0 + i * 6 + 1, none⟩)) ?_
     refine wld b (0 + i * 6 + 1) scal_int16 (hb.get (hS.cell (i := i) (c := 1) (by omega) (by decide) rfl)) ?_
     refine wv (.int .i64 (kk + 1)) ?_
     refine wi16 (kk + 1) ?_
     refine wv (.bool ((f i 1) != (kk + 1))) ?_
     refine wpList_nil (then_normal ?_)
     refine wsplit ((f i 1) != (kk + 1)) (fun h3 => ?_) (fun h3 => ?_)
     · skip
       have h3d := nT h3
       refine wsr ?_
       refine wv (.int .i64 (-1)) ?_
       refine wpList_nil (then_normal ?_)
       refine wp_ret ?_
       refine then_ret (block_ret (then_ret (then_ret (block_ret (then_ret ?_)))))
       refine ret1 (.int .i64 (k + 6 * (n : Int))) rfl ?_ rfl ?_
       · refine (resT (v := .int .i64 (-1)) (by kernel_rfl)).trans ?_
         refine congrArg (Value.int _) ?_
         first | omega | (exfalso; have q0_ := hm0_ (by omega); have q1_ := hm1_ (by omega); have q2_ := hm2_ (by omega); have q3_ := hm3_ (by omega); have q4_ := hm4_ (by omega); have q5_ := hm5_ (by omega); omega)
       exact ⟨rfl, HL1⟩
     · skip
       have h3d := nF h3
       refine wp_skip ?_
       refine then_normal ?_
       refine wsr ?_
       refine wv (.int .i64 (kk + 1)) ?_
       refine wi64 ((kk + 1) + 1) ?_
       refine wv (.int .i64 ((kk + 1) + 1)) ?_
       refine wpList_nil (then_normal ?_)
       refine wp_seq ?_
       refine wsr ?_
       refine wv (.slice (some ⟨b, 0, none⟩) n cap) ?_
       refine wv (.int .i64 (i : Int)) ?_
       refine wsix b 0 n cap i .i64 slit__impl_Flock ?_
       refine wv (.pointer (some ⟨b, 0 + i * 6 + 2, none⟩)) ?_
       refine wld b (0 + i * 6 + 2) scal_int16 (hb.get (hS.cell (i := i) (c := 2) (by omega) (by decide) rfl)) ?_
       refine wv (.int .i64 ((kk + 1) + 1)) ?_
       refine wi16 ((kk + 1) + 1) ?_
       refine wv (.bool ((f i 2) != ((kk + 1) + 1))) ?_
       refine wpList_nil (then_normal ?_)
       refine wp_frame (a' := ⟨#[.slice (some ⟨b, 0, none⟩) n cap, .int .i64 ((kk + 1) + 1), undef, undef, J1 4, .int .i64 (i : Int), .int .i64 (i : Int), .slice (some ⟨b, 0, none⟩) n cap, .int .i64 (n : Int), .bool (decide ((i : Int) < (n : Int))), J1 10, J1 11, .slice (some ⟨b, 0, none⟩) n cap, .int .i64 (i : Int), .pointer (some ⟨b, 0 + i * 6, none⟩), .pointer (some ⟨b, 0 + i * 6, none⟩), .int .i16 (f i 0), .int .i64 kk, .int .i16 kk, .bool ((f i 0) != kk), .int .i64 kk, .int .i64 (kk + 1), .slice (some ⟨b, 0, none⟩) n cap, .int .i64 (i : Int), .pointer (some ⟨b, 0 + i * 6, none⟩), .pointer (some ⟨b, 0 + i * 6 + 1, none⟩), .int .i16 (f i 1), .int .i64 (kk + 1), .int .i16 (kk + 1), .bool ((f i 1) != (kk + 1)), .int .i64 (kk + 1), .int .i64 ((kk + 1) + 1), .slice (some ⟨b, 0, none⟩) n cap, .int .i64 (i : Int), .pointer (some ⟨b, 0 + i * 6, none⟩), .pointer (some ⟨b, 0 + i * 6 + 2, none⟩), .int .i16 (f i 2), .int .i64 ((kk + 1) + 1), .int .i16 ((kk + 1) + 1), .bool ((f i 2) != ((kk + 1) + 1)), J1 40, J1 41, J1 42, J1 43, J1 44, J1 45, J1 46, J1 47, J1 48, J1 49, J1 50, J1 51, J1 52, J1 53, J1 54, J1 55, J1 56, J1 57, J1 58, J1 59, J1 60, J1 61, J1 62, J1 63, J1 64, J1 65, J1 66, J1 67, J1 68, J1 69, J1 70, J1 71, undef], []⟩) (by kernel_rfl) ?_
       refine wsplit ((f i 2) != ((kk + 1) + 1)) (fun h4 => ?_) (fun h4 => ?_)
       · skip
         have h4d := nT h4
         refine wsr ?_
         refine wv (.int .i64 (-1)) ?_
         refine wpList_nil (then_normal ?_)
         refine wp_ret ?_
         refine then_ret (block_ret (then_ret (then_ret (block_ret (then_ret ?_)))))
         refine ret1 (.int .i64 (k + 6 * (n : Int))) rfl ?_ rfl ?_
         · refine (resT (v := .int .i64 (-1)) (by kernel_rfl)).trans ?_
           refine congrArg (Value.int _) ?_
           first | omega | (exfalso; have q0_ := hm0_ (by omega); have q1_ := hm1_ (by omega); have q2_ := hm2_ (by omega); have q3_ := hm3_ (by omega); have q4_ := hm4_ (by omega); have q5_ := hm5_ (by omega); omega)
         exact ⟨rfl, HL1⟩
       · skip
         have h4d := nF h4
         refine wp_skip ?_
         refine then_normal ?_
         refine wsr ?_
         refine wv (.int .i64 ((kk + 1) + 1)) ?_
         refine wi64 (((kk + 1) + 1) + 1) ?_
         refine wv (.int .i64 (((kk + 1) + 1) + 1)) ?_
         refine wpList_nil (then_normal ?_)
         refine wp_seq ?_
         refine wsr ?_
         refine wv (.slice (some ⟨b, 0, none⟩) n cap) ?_
         refine wv (.int .i64 (i : Int)) ?_
         refine wsix b 0 n cap i .i64 slit__impl_Flock ?_
         refine wv (.pointer (some ⟨b, 0 + i * 6 + 3, none⟩)) ?_
         refine wld b (0 + i * 6 + 3) scal_int16 (hb.get (hS.cell (i := i) (c := 3) (by omega) (by decide) rfl)) ?_
         refine wv (.int .i64 (((kk + 1) + 1) + 1)) ?_
         refine wi16 (((kk + 1) + 1) + 1) ?_
         refine wv (.bool ((f i 3) != (((kk + 1) + 1) + 1))) ?_
         refine wpList_nil (then_normal ?_)
         refine wsplit ((f i 3) != (((kk + 1) + 1) + 1)) (fun h5 => ?_) (fun h5 => ?_)
         · skip
           have h5d := nT h5
           refine wsr ?_
           refine wv (.int .i64 (-1)) ?_
           refine wpList_nil (then_normal ?_)
           refine wp_ret ?_
           refine then_ret (block_ret (then_ret (then_ret (block_ret (then_ret ?_)))))
           refine ret1 (.int .i64 (k + 6 * (n : Int))) rfl ?_ rfl ?_
           · refine (resT (v := .int .i64 (-1)) (by kernel_rfl)).trans ?_
             refine congrArg (Value.int _) ?_
             first | omega | (exfalso; have q0_ := hm0_ (by omega); have q1_ := hm1_ (by omega); have q2_ := hm2_ (by omega); have q3_ := hm3_ (by omega); have q4_ := hm4_ (by omega); have q5_ := hm5_ (by omega); omega)
           exact ⟨rfl, HL1⟩
         · skip
           have h5d := nF h5
           refine wp_skip ?_
           refine then_normal ?_
           refine wsr ?_
           refine wv (.int .i64 (((kk + 1) + 1) + 1)) ?_
           refine wi64 ((((kk + 1) + 1) + 1) + 1) ?_
           refine wv (.int .i64 ((((kk + 1) + 1) + 1) + 1)) ?_
           refine wpList_nil (then_normal ?_)
           refine wp_seq ?_
           refine wsr ?_
           refine wv (.slice (some ⟨b, 0, none⟩) n cap) ?_
           refine wv (.int .i64 (i : Int)) ?_
           refine wsix b 0 n cap i .i64 slit__impl_Flock ?_
           refine wv (.pointer (some ⟨b, 0 + i * 6 + 4, none⟩)) ?_
           refine wld b (0 + i * 6 + 4) scal_int16 (hb.get (hS.cell (i := i) (c := 4) (by omega) (by decide) rfl)) ?_
           refine wv (.int .i64 ((((kk + 1) + 1) + 1) + 1)) ?_
           refine wi16 ((((kk + 1) + 1) + 1) + 1) ?_
           refine wv (.bool ((f i 4) != ((((kk + 1) + 1) + 1) + 1))) ?_
           refine wpList_nil (then_normal ?_)
           refine wsplit ((f i 4) != ((((kk + 1) + 1) + 1) + 1)) (fun h6 => ?_) (fun h6 => ?_)
           · skip
             have h6d := nT h6
             refine wsr ?_
             refine wv (.int .i64 (-1)) ?_
             refine wpList_nil (then_normal ?_)
             refine wp_ret ?_
             refine then_ret (block_ret (then_ret (then_ret (block_ret (then_ret ?_)))))
             refine ret1 (.int .i64 (k + 6 * (n : Int))) rfl ?_ rfl ?_
             · refine (resT (v := .int .i64 (-1)) (by kernel_rfl)).trans ?_
               refine congrArg (Value.int _) ?_
               first | omega | (exfalso; have q0_ := hm0_ (by omega); have q1_ := hm1_ (by omega); have q2_ := hm2_ (by omega); have q3_ := hm3_ (by omega); have q4_ := hm4_ (by omega); have q5_ := hm5_ (by omega); omega)
             exact ⟨rfl, HL1⟩
           · skip
             have h6d := nF h6
             refine wp_skip ?_
             refine then_normal ?_
             refine wsr ?_
             refine wv (.int .i64 ((((kk + 1) + 1) + 1) + 1)) ?_
             refine wi64 (((((kk + 1) + 1) + 1) + 1) + 1) ?_
             refine wv (.int .i64 (((((kk + 1) + 1) + 1) + 1) + 1)) ?_
             refine wpList_nil (then_normal ?_)
             refine wp_seq ?_
             refine wsr ?_
             refine wv (.slice (some ⟨b, 0, none⟩) n cap) ?_
             refine wv (.int .i64 (i : Int)) ?_
             refine wsix b 0 n cap i .i64 slit__impl_Flock ?_
             refine wv (.pointer (some ⟨b, 0 + i * 6 + 5, none⟩)) ?_
             refine wld b (0 + i * 6 + 5) scal_int8 (hb.get (hS.cell (i := i) (c := 5) (by omega) (by decide) rfl)) ?_
             refine wv (.int .i64 (((((kk + 1) + 1) + 1) + 1) + 1)) ?_
             refine wi8 (((((kk + 1) + 1) + 1) + 1) + 1) ?_
             refine wv (.bool ((f i 5) != (((((kk + 1) + 1) + 1) + 1) + 1))) ?_
             refine wpList_nil (then_normal ?_)
             refine wp_frame (a' := ⟨#[.slice (some ⟨b, 0, none⟩) n cap, .int .i64 (((((kk + 1) + 1) + 1) + 1) + 1), undef, undef, J1 4, .int .i64 (i : Int), .int .i64 (i : Int), .slice (some ⟨b, 0, none⟩) n cap, .int .i64 (n : Int), .bool (decide ((i : Int) < (n : Int))), J1 10, J1 11, .slice (some ⟨b, 0, none⟩) n cap, .int .i64 (i : Int), .pointer (some ⟨b, 0 + i * 6, none⟩), .pointer (some ⟨b, 0 + i * 6, none⟩), .int .i16 (f i 0), .int .i64 kk, .int .i16 kk, .bool ((f i 0) != kk), .int .i64 kk, .int .i64 (kk + 1), .slice (some ⟨b, 0, none⟩) n cap, .int .i64 (i : Int), .pointer (some ⟨b, 0 + i * 6, none⟩), .pointer (some ⟨b, 0 + i * 6 + 1, none⟩), .int .i16 (f i 1), .int .i64 (kk + 1), .int .i16 (kk + 1), .bool ((f i 1) != (kk + 1)), .int .i64 (kk + 1), .int .i64 ((kk + 1) + 1), .slice (some ⟨b, 0, none⟩) n cap, .int .i64 (i : Int), .pointer (some ⟨b, 0 + i * 6, none⟩), .pointer (some ⟨b, 0 + i * 6 + 2, none⟩), .int .i16 (f i 2), .int .i64 ((kk + 1) + 1), .int .i16 ((kk + 1) + 1), .bool ((f i 2) != ((kk + 1) + 1)), .int .i64 ((kk + 1) + 1), .int .i64 (((kk + 1) + 1) + 1), .slice (some ⟨b, 0, none⟩) n cap, .int .i64 (i : Int), .pointer (some ⟨b, 0 + i * 6, none⟩), .pointer (some ⟨b, 0 + i * 6 + 3, none⟩), .int .i16 (f i 3), .int .i64 (((kk + 1) + 1) + 1), .int .i16 (((kk + 1) + 1) + 1), .bool ((f i 3) != (((kk + 1) + 1) + 1)), .int .i64 (((kk + 1) + 1) + 1), .int .i64 ((((kk + 1) + 1) + 1) + 1), .slice (some ⟨b, 0, none⟩) n cap, .int .i64 (i : Int), .pointer (some ⟨b, 0 + i * 6, none⟩), .pointer (some ⟨b, 0 + i * 6 + 4, none⟩), .int .i16 (f i 4), .int .i64 ((((kk + 1) + 1) + 1) + 1), .int .i16 ((((kk + 1) + 1) + 1) + 1), .bool ((f i 4) != ((((kk + 1) + 1) + 1) + 1)), .int .i64 ((((kk + 1) + 1) + 1) + 1), .int .i64 (((((kk + 1) + 1) + 1) + 1) + 1), .slice (some ⟨b, 0, none⟩) n cap, .int .i64 (i : Int), .pointer (some ⟨b, 0 + i * 6, none⟩), .pointer (some ⟨b, 0 + i * 6 + 5, none⟩), .int .i8 (f i 5), .int .i64 (((((kk + 1) + 1) + 1) + 1) + 1), .int .i8 (((((kk + 1) + 1) + 1) + 1) + 1), .bool ((f i 5) != (((((kk + 1) + 1) + 1) + 1) + 1)), J1 70, J1 71, undef], []⟩) (by kernel_rfl) ?_
             refine wsplit ((f i 5) != (((((kk + 1) + 1) + 1) + 1) + 1)) (fun h7 => ?_) (fun h7 => ?_)
             · skip
               have h7d := nT h7
               refine wsr ?_
               refine wv (.int .i64 (-1)) ?_
               refine wpList_nil (then_normal ?_)
               refine wp_ret ?_
               refine then_ret (block_ret (then_ret (then_ret (block_ret (then_ret ?_)))))
               refine ret1 (.int .i64 (k + 6 * (n : Int))) rfl ?_ rfl ?_
               · refine (resT (v := .int .i64 (-1)) (by kernel_rfl)).trans ?_
                 refine congrArg (Value.int _) ?_
                 first | omega | (exfalso; have q0_ := hm0_ (by omega); have q1_ := hm1_ (by omega); have q2_ := hm2_ (by omega); have q3_ := hm3_ (by omega); have q4_ := hm4_ (by omega); have q5_ := hm5_ (by omega); omega)
               exact ⟨rfl, HL1⟩
             · skip
               have h7d := nF h7
               refine wp_skip ?_
               refine then_normal ?_
               refine wp_region_lit ?_
               refine wv (.int .i64 (((((kk + 1) + 1) + 1) + 1) + 1)) ?_
               refine wi64 ((((((kk + 1) + 1) + 1) + 1) + 1) + 1) ?_
               refine wv (.int .i64 ((((((kk + 1) + 1) + 1) + 1) + 1) + 1)) ?_
               refine wpList_nil (block_normal (then_normal ?_))
               refine wp_region_lit ?_
               refine wv (.int .i64 (i : Int)) ?_
               refine wi64 ((i : Int) + 1) ?_
               refine wv (.int .i64 ((i : Int) + 1)) ?_
               refine wpList_nil (then_normal ?_)
               refine ⟨_, ?_, i + 1, (((((kk + 1) + 1) + 1) + 1) + 1) + 1, rfl, ?_, ?_, HL1, hb, exJ (by kernel_rfl)⟩
               · omega
               · omega
               · omega
 · skip
   have h1d := dF h1
   refine wp_exit ?_
   refine then_exit ?_
   refine then_exit ?_
   refine block_exit ?_
   refine then_normal ?_
   refine wsr ?_
   refine wv (.int .i64 kk) ?_
   refine wv (.int .i64 kk) ?_
   refine wpList_nil (then_normal ?_)
   refine wp_ret ?_
   refine ret1 (.int .i64 (k + 6 * (n : Int))) rfl ?_ rfl ?_
   · refine (resT (v := .int .i64 kk) (by kernel_rfl)).trans ?_
     refine congrArg (Value.int _) ?_
     first | omega | (exfalso; have q0_ := hm0_ (by omega); have q1_ := hm1_ (by omega); have q2_ := hm2_ (by omega); have q3_ := hm3_ (by omega); have q4_ := hm4_ (by omega); have q5_ := hm5_ (by omega); omega)
   exact ⟨rfl, HL1⟩

end Go.Proofs.YteiplklloajjaaaDoor
