/-
  Contracts: the fewest places, the program. No conditions.
-/
import Derived.Test.YtldlaohefgianaaTy
import Derived.Test.YtldlaohefgianaaSl
import Derived.Test.YtldlaohefgianaaMth
import Derived.Test.YtldlaohefgianaaFn22
namespace Go.Proofs.Ytldlaohefgianaa
open Go.RowKit
set_option linter.unusedSimpArgs false
set_option linter.unusedVariables false
set_option maxHeartbeats 4000000
set_option maxRecDepth 100000
attribute [local irreducible] wpList Code.wp
--# FewestPlaces1_any
theorem FewestPlaces1_any (w0 : Int) (b0 : Nat) (t0 : TypeId) (l : Int) (b1 : Nat) (t1 : TypeId) (B : Int) (b2 : Nat) (t2 : TypeId) (w : World) (hb0 : Blk w b0 t0 #[.int .i64 w0]) (hb1 : Blk w b1 t1 #[.int .i64 l]) (hb2 : Blk w b2 t2 #[.int .i64 B]) :
 Calls Try.prog 31 #[.pointer (some ⟨b0, 0, none⟩), .pointer (some ⟨b1, 0, none⟩), .pointer (some ⟨b2, 0, none⟩)] w fun e w' => e = .returned (.bool ((inB w0 1 1000 && inB l 1 1000) && inB B 0 20000)) ∧ Ext w w' := by
 refine calls_of_wp Try.func31 rfl ?_
 refine wp_frame (a' := ⟨#[.pointer (some ⟨b0, 0, none⟩), .pointer (some ⟨b1, 0, none⟩), .pointer (some ⟨b2, 0, none⟩), undef, undef, undef, undef, undef, undef, undef, undef], []⟩) (by kernel_rfl) ?_
 refine wsr ?_
 refine wv (.bool false) ?_
 refine wpList_nil (then_normal ?_)
 refine wsr ?_
 refine wld (v := .int .i64 w0) b0 (0) scal_int64 (hb0.get (rfl)) ?_
 refine wld (v := .int .i64 l) b1 (0) scal_int64 (hb1.get (rfl)) ?_
 refine wcl (arePowers_any w0 l _) ?_
 intro w1 E1
 refine wv (.bool (inB w0 1 1000 && inB l 1 1000)) ?_
 refine split_bool (inB w0 1 1000 && inB l 1 1000) (fun h1 => ?_) (fun h1 => ?_)
 · skip
   refine wbl 7 true h1 ?_
   obtain ⟨h1a, h1b⟩ := andT h1
   have h1ad := inT h1a
   have h1bd := inT h1b
   replace hb2 := hb2.ext E1
   refine wld (v := .int .i64 B) b2 (0) scal_int64 (hb2.get (rfl)) ?_
   refine wcl (within_any B 0 20000 _) ?_
   intro w2 E2
   refine wv (.bool (inB B 0 20000)) ?_
   refine wv (.bool (inB B 0 20000)) ?_
   refine wpList_nil (then_normal ?_)
   refine wp_ret ?_
   have H1 := ((Ext.refl w).trans E1).trans E2
   refine ret1 (.bool ((inB w0 1 1000 && inB l 1 1000) && inB B 0 20000)) rfl ?_ rfl ?_
   · refine (resT (v := .bool (inB B 0 20000)) (by kernel_rfl)).trans ?_
     refine congrArg Value.bool ?_
     first | (simp [*]; done) | (simp [inB, *]; done) | (simp [inB, *]; omega)
   exact ⟨rfl, H1⟩
 · skip
   refine wbl 7 false h1 ?_
   have h1d := h1
   try simp only [decide_eq_true_eq, decide_eq_false_iff_not, Bool.and_eq_true, Bool.or_eq_true, Bool.and_eq_false_iff, Bool.or_eq_false_iff, Bool.not_eq_true', Bool.not_eq_false', beq_iff_eq, beq_eq_false_iff_ne, bne_iff_ne, bne_eq_false_iff_eq, gt_iff_lt, ge_iff_le, ne_eq, Decidable.not_not, Int.not_lt, Int.not_le, inB] at h1d
   refine wsk ?_
   refine wsk ?_
   refine wv (.bool false) ?_
   refine wv (.bool false) ?_
   refine wpList_nil (then_normal ?_)
   refine wp_ret ?_
   have H2 := (Ext.refl w).trans E1
   refine ret1 (.bool ((inB w0 1 1000 && inB l 1 1000) && inB B 0 20000)) rfl ?_ rfl ?_
   · refine (resT (v := .bool false) (by kernel_rfl)).trans ?_
     refine congrArg Value.bool ?_
     first | (simp [*]; done) | (simp [inB, *]; done) | (simp [inB, *]; omega)
   exact ⟨rfl, H2⟩


--# rowsk
-- 14
theorem row_impl_seeker : RowT Try.prog 74 4 := ⟨_, Try.underlying74, rfl, by kernel_rfl⟩

--# iFewestPlaces_any
theorem iFewestPlaces_any (F : Fld) (hF : F.wf) (w0 : Int) (l : Int) (x y : Int) (B : Int) (hwx : wrd x) (hwy : wrd y) (w : World) :
 Calls Try.prog 14 #[.agg F.cells, .int .i64 w0, .int .i64 l, .agg #[.int .u64 x, .int .u64 y], .int .i64 B] w fun e w' => (fwK F w0 l B x y = 0 ∧ RetI w 2 .i64 (fwX F w0 l B x y) (fun v => .tuple #[v, .int .i64 (fwL F w0 l B x y), .int .i64 0]) e w') ∨ (fwK F w0 l B x y ≠ 0 ∧ e = .returned (.tuple #[.slice none 0 0, .int .i64 0, .int .i64 (fwK F w0 l B x y)]) ∧ Ext w w') := by
 refine calls_of_wp Try.func14 rfl ?_
 refine wp_frame (a' := ⟨#[.agg F.cells, .int .i64 w0, .int .i64 l, .agg #[.int .u64 x, .int .u64 y], .int .i64 B, undef, undef, undef, undef, undef, undef, undef, undef, undef, undef, undef, undef, undef, undef, undef, undef, undef, undef, undef, undef, undef, undef, undef, undef, undef, undef, undef, undef, undef, undef, undef, undef, undef, undef, undef, undef, undef, undef, undef, undef, undef, undef, undef, undef], []⟩) (by kernel_rfl) ?_
 refine wsr ?_
 refine wbox F.cells ?_
 intro g1 w1 B1 E1 hg_
 have lo_g1 := Nat.le_trans ((Ext.refl w)).size hg_
 have H1 := (Ext.refl w).trans E1
 refine wboxv (.int .i64 w0) ?_
 intro g2 w2 B2 E2 hg_
 have q_g1_g2 := Nat.ne_of_lt (Nat.lt_of_lt_of_le B1.lt hg_)
 have lo_g2 := Nat.le_trans (H1).size hg_
 have H2 := H1.trans E2
 replace B1 := B1.ext E2
 refine wboxv (.int .i64 l) ?_
 intro g3 w3 B3 E3 hg_
 have q_g1_g3 := Nat.ne_of_lt (Nat.lt_of_lt_of_le B1.lt hg_)
 have q_g2_g3 := Nat.ne_of_lt (Nat.lt_of_lt_of_le B2.lt hg_)
 have lo_g3 := Nat.le_trans (H2).size hg_
 have H3 := H2.trans E3
 replace B1 := B1.ext E3
 replace B2 := B2.ext E3
 refine wbox #[.int .u64 x, .int .u64 y] ?_
 intro g4 w4 B4 E4 hg_
 have q_g1_g4 := Nat.ne_of_lt (Nat.lt_of_lt_of_le B1.lt hg_)
 have q_g2_g4 := Nat.ne_of_lt (Nat.lt_of_lt_of_le B2.lt hg_)
 have q_g3_g4 := Nat.ne_of_lt (Nat.lt_of_lt_of_le B3.lt hg_)
 have lo_g4 := Nat.le_trans (H3).size hg_
 have H4 := H3.trans E4
 replace B1 := B1.ext E4
 replace B2 := B2.ext E4
 replace B3 := B3.ext E4
 refine wboxv (.int .i64 B) ?_
 intro g5 w5 B5 E5 hg_
 have q_g1_g5 := Nat.ne_of_lt (Nat.lt_of_lt_of_le B1.lt hg_)
 have q_g2_g5 := Nat.ne_of_lt (Nat.lt_of_lt_of_le B2.lt hg_)
 have q_g3_g5 := Nat.ne_of_lt (Nat.lt_of_lt_of_le B3.lt hg_)
 have q_g4_g5 := Nat.ne_of_lt (Nat.lt_of_lt_of_le B4.lt hg_)
 have lo_g5 := Nat.le_trans (H4).size hg_
 refine wv (.slice none 0 0) ?_
 refine wv (.int .i64 0) ?_
 refine wv (.int .i64 0) ?_
 refine wpList_nil (then_normal ?_)
 refine wsr ?_
 refine wv (.func (.func 31) #[] #[.pointer (some ⟨g2, 0, none⟩), .pointer (some ⟨g3, 0, none⟩), .pointer (some ⟨g5, 0, none⟩)]) ?_
 replace B1 := B1.ext E5
 replace B2 := B2.ext E5
 replace B3 := B3.ext E5
 refine wcl (fieldCode_any F hF g1 _ (.func (.func 31) #[] #[.pointer (some ⟨g2, 0, none⟩), .pointer (some ⟨g3, 0, none⟩), .pointer (some ⟨g5, 0, none⟩)]) 31 #[.pointer (some ⟨g2, 0, none⟩), .pointer (some ⟨g3, 0, none⟩), .pointer (some ⟨g5, 0, none⟩)] (fun _ => by kernel_rfl) ((inB w0 1 1000 && inB l 1 1000) && inB B 0 20000) _ B1 (fun _ E_ => FewestPlaces1_any w0 g2 _ l g3 _ B g5 _ _ (B2.ext E_) (B3.ext E_) (B5.ext E_))) ?_
 intro w6 E6
 refine wv (.int .i64 (code F ((inB w0 1 1000 && inB l 1 1000) && inB B 0 20000))) ?_
 refine wpList_nil (then_normal ?_)
 refine wp_seq ?_
 refine wsr ?_
 refine wv (.int .i64 (code F ((inB w0 1 1000 && inB l 1 1000) && inB B 0 20000))) ?_
 refine wv (.bool ((code F ((inB w0 1 1000 && inB l 1 1000) && inB B 0 20000)) != 0)) ?_
 refine wpList_nil (then_normal ?_)
 have H5 := (H4.trans E5).trans E6
 refine wsplit ((code F ((inB w0 1 1000 && inB l 1 1000) && inB B 0 20000)) != 0) (fun h1 => ?_) (fun h1 => ?_)
 · skip
   have h1d := nT h1
   refine wsr ?_
   refine wv (.int .i64 (code F ((inB w0 1 1000 && inB l 1 1000) && inB B 0 20000))) ?_
   refine wv (.slice none 0 0) ?_
   refine wv (.int .i64 0) ?_
   refine wv (.int .i64 (code F ((inB w0 1 1000 && inB l 1 1000) && inB B 0 20000))) ?_
   refine wpList_nil (then_normal ?_)
   refine wp_ret ?_
   refine then_ret ?_
   refine ret3 (.slice none 0 0) (.int .i64 0) (.int .i64 (code F ((inB w0 1 1000 && inB l 1 1000) && inB B 0 20000))) rfl ?_ ?_ ?_ rfl ?_
   · exact resT (by kernel_rfl)
   · exact resT (by kernel_rfl)
   · exact resT (by kernel_rfl)
   have ec_ : (code F ((inB w0 1 1000 && inB l 1 1000) && inB B 0 20000) : Int) = fwK F w0 l B x y := (fwK_n (by assumption)).symm
   rw [ec_]
   exact .inr ⟨(fwK_n' (by assumption)), rfl, H5⟩
 · skip
   have h1d := nF h1
   have h1o := (code_zero h1d).1
   have h1z := (code_zero h1d).2
   obtain ⟨h1za, h1zb⟩ := andT h1z
   obtain ⟨h1zaa, h1zab⟩ := andT h1za
   have h1zaad := inT h1zaa
   have h1zabd := inT h1zab
   have h1zbd := inT h1zb
   refine wp_skip ?_
   refine then_normal ?_
   refine wp_seq ?_
   refine wp_frame (a' := ⟨#[.agg F.cells, .int .i64 w0, .int .i64 l, .agg #[.int .u64 x, .int .u64 y], .int .i64 B, .pointer (some ⟨g1, 0, none⟩), .pointer (some ⟨g2, 0, none⟩), .pointer (some ⟨g3, 0, none⟩), .pointer (some ⟨g4, 0, none⟩), .pointer (some ⟨g5, 0, none⟩), .slice none 0 0, .int .i64 0, .int .i64 0, .int .i64 (code F ((inB w0 1 1000 && inB l 1 1000) && inB B 0 20000)), undef, undef, undef, undef, .func (.func 31) #[] #[.pointer (some ⟨g2, 0, none⟩), .pointer (some ⟨g3, 0, none⟩), .pointer (some ⟨g5, 0, none⟩)], .int .i64 (code F ((inB w0 1 1000 && inB l 1 1000) && inB B 0 20000)), .int .i64 (code F ((inB w0 1 1000 && inB l 1 1000) && inB B 0 20000)), .bool ((code F ((inB w0 1 1000 && inB l 1 1000) && inB B 0 20000)) != 0), undef, undef, undef, undef, undef, undef, undef, undef, undef, undef, undef, undef, undef, undef, undef, undef, undef, undef, undef, undef, undef, undef, undef, undef, undef, undef, undef], []⟩) (by kernel_rfl) ?_
   replace B2 := B2.ext E6
   replace B3 := B3.ext E6
   replace B1 := B1.ext E6
   replace B5 := B5.ext E6
   replace B4 := (B4.ext E5).ext E6
   refine region_go 6 [23, 24, 25, 26, 27, 14] [[], [], [0, 1], [], [2, 3], []]
    (fun i_ => ([.val (.int .i64 w0), .val (.int .i64 l), .mp w6.heap.size (.agg #[.int .u64 0, .int .u64 0]) (cvV F w0 l), .val (.int .i64 B), .mpm w6.heap.size (.agg #[.int .u64 0, .int .u64 0]) (cvV F w0 l) (fun m_ => .agg #[.pointer (some ⟨g1, 0, none⟩), m_, .int .i64 0, .int .i64 B]), .ptr w6.heap.size 74 #[.pointer none, .map none, .int .i64 0, .int .i64 0]] : List Fct).getD i_ .any)
    (by kernel_rfl) (by kernel_rfl) (by decide) (by simp) rfl (all_succ (all_succ (all_succ (all_succ (all_succ (all_succ all_zero ?_) ?_) ?_) ?_) ?_) ?_) ?_
   · refine step0 rfl rfl rfl (fun wr hw => ?_)
     exact OpRun.cell (g := g2) (off := 0) (v := .int .i64 w0) scal_int64 rfl (by kernel_rfl) ((B2.ext hw).get (rfl)) ⟨Ext.refl _, rfl⟩
   · refine step0 rfl rfl rfl (fun wr hw => ?_)
     exact OpRun.cell (g := g3) (off := 0) (v := .int .i64 l) scal_int64 rfl (by kernel_rfl) ((B3.ext hw).get (rfl)) ⟨Ext.refl _, rfl⟩
   · refine step2 rfl rfl rfl rfl rfl (fun u0 u1 wr hw h0 h1 => ?_)
     cases h0
     cases h1
     exact OpRun.call 34 #[.pointer (some ⟨g1, 0, none⟩), .int .i64 w0, .int .i64 l] (by kernel_rfl) ((covers_any F hF g1 _ w0 l (by omega) _ (B1.ext hw)).mono fun e w1 ⟨_, he, hb, hE, hg⟩ => ⟨_, he, hE, _, rfl, Nat.le_trans hw.size hg, hb⟩)
   · refine step0 rfl rfl rfl (fun wr hw => ?_)
     exact OpRun.cell (g := g5) (off := 0) (v := .int .i64 B) scal_int64 rfl (by kernel_rfl) ((B5.ext hw).get (rfl)) ⟨Ext.refl _, rfl⟩
   · refine step2 rfl rfl rfl rfl rfl (fun u0 u1 wr hw h0 h1 => ?_)
     obtain ⟨g6, rfl, hgn0, hbn0⟩ := h0
     cases h1
     exact OpRun.val (.agg #[.pointer (some ⟨g1, 0, none⟩), .map (some g6), .int .i64 0, .int .i64 B]) (.agg #[.pointer (some ⟨g1, 0, none⟩), .map (some g6), .int .i64 0, .int .i64 B]) (by kernel_rfl) rfl ⟨Ext.refl _, g6, rfl, hgn0, hbn0⟩
   · refine step0 rfl rfl rfl (fun wr hw => ?_)
     refine OpRun.alloc rfl (Try.zeroValue74 _) ?_
     rw [show Value.cells _ = #[.pointer none, .map none, .int .i64 0, .int .i64 0] from rfl]
     exact ⟨(Ext.refl _).alloc _, _, rfl, hw.size, Blk.new _ _ _⟩
   refine end6 (fun u0 u1 u2 u3 u4 u5 w7 E7 f0 f1 f2 f3 f4 f5 => ?_)
   cases f0
   cases f1
   obtain ⟨g6, rfl, hg_, B6⟩ := f2
   clear hg_
   cases f3
   obtain ⟨g7, rfl, hg_, B7⟩ := f4
   have q_g1_g7 := Nat.ne_of_lt (Nat.lt_of_lt_of_le B1.lt hg_)
   have q_g2_g7 := Nat.ne_of_lt (Nat.lt_of_lt_of_le B2.lt hg_)
   have q_g3_g7 := Nat.ne_of_lt (Nat.lt_of_lt_of_le B3.lt hg_)
   have q_g4_g7 := Nat.ne_of_lt (Nat.lt_of_lt_of_le B4.lt hg_)
   have q_g5_g7 := Nat.ne_of_lt (Nat.lt_of_lt_of_le B5.lt hg_)
   have lo_g7 := Nat.le_trans (H5).size hg_
   clear hg_
   obtain ⟨g8, rfl, hg_, B8⟩ := f5
   have q_g1_g8 := Nat.ne_of_lt (Nat.lt_of_lt_of_le B1.lt hg_)
   have q_g2_g8 := Nat.ne_of_lt (Nat.lt_of_lt_of_le B2.lt hg_)
   have q_g3_g8 := Nat.ne_of_lt (Nat.lt_of_lt_of_le B3.lt hg_)
   have q_g4_g8 := Nat.ne_of_lt (Nat.lt_of_lt_of_le B4.lt hg_)
   have q_g5_g8 := Nat.ne_of_lt (Nat.lt_of_lt_of_le B5.lt hg_)
   have lo_g8 := Nat.le_trans (H5).size hg_
   clear hg_
   have q_g7_g8 := MV.ne B7 B8
   refine wput #[.pointer (some ⟨g1, 0, none⟩), .map (some g7), .int .i64 0, .int .i64 B] row_impl_seeker B8 (by rfl) (by rfl) (by kernel_rfl) ?_
   intro w8 B8_ X1
   clear B8; have B8 := B8_; clear B8_
   refine wpList_nil (then_normal ?_)
   refine wp_seq ?_
   refine wsr ?_
   refine wv (.int .i64 0) ?_
   refine wpList_nil (then_normal ?_)
   refine wp_block ?_
   replace B1 := X1.blk (B1.ext E7) q_g1_g8
   replace B2 := X1.blk (B2.ext E7) q_g2_g8
   replace B3 := X1.blk (B3.ext E7) q_g3_g8
   replace B4 := X1.blk (B4.ext E7) q_g4_g8
   replace B5 := X1.blk (B5.ext E7) q_g5_g8
   replace B7 := X1.mv B7 q_g7_g8
   have H6 := X1.ext w lo_g8 (H5.trans E7)
   refine wp_loop_k (fun m1 a wl1 => ∃ (q : Nat) (lk_ : Int), m1 = 21 - q ∧ q ≤ 21 ∧ fwI F w0 l B x y q lk_ ∧ Ext w wl1 ∧ Blk wl1 g1 32 F.cells ∧ Blk wl1 g2 2 #[.int .i64 w0] ∧ Blk wl1 g3 2 #[.int .i64 l] ∧ Blk wl1 g4 43 #[.int .u64 x, .int .u64 y] ∧ Blk wl1 g5 2 #[.int .i64 B] ∧ MV wl1 g7 (.agg #[.int .u64 0, .int .u64 0]) (cvV F w0 l) ∧ Blk wl1 g8 74 #[.pointer (some ⟨g1, 0, none⟩), .map (some g7), .int .i64 lk_, .int .i64 B] ∧ (∃ J1 : Nat → Value, a = ⟨#[.agg F.cells, .int .i64 w0, .int .i64 l, .agg #[.int .u64 x, .int .u64 y], .int .i64 B, .pointer (some ⟨g1, 0, none⟩), .pointer (some ⟨g2, 0, none⟩), .pointer (some ⟨g3, 0, none⟩), .pointer (some ⟨g4, 0, none⟩), .pointer (some ⟨g5, 0, none⟩), J1 10, J1 11, J1 12, .int .i64 (code F ((inB w0 1 1000 && inB l 1 1000) && inB B 0 20000)), .pointer (some ⟨g8, 0, none⟩), J1 15, J1 16, J1 17, .func (.func 31) #[] #[.pointer (some ⟨g2, 0, none⟩), .pointer (some ⟨g3, 0, none⟩), .pointer (some ⟨g5, 0, none⟩)], .int .i64 (code F ((inB w0 1 1000 && inB l 1 1000) && inB B 0 20000)), .int .i64 (code F ((inB w0 1 1000 && inB l 1 1000) && inB B 0 20000)), .bool ((code F ((inB w0 1 1000 && inB l 1 1000) && inB B 0 20000)) != 0), undef, .int .i64 w0, .int .i64 l, .map (some g6), .int .i64 B, .agg #[.pointer (some ⟨g1, 0, none⟩), .map (some g7), .int .i64 0, .int .i64 B], .int .i64 (q : Int), J1 29, J1 30, J1 31, J1 32, J1 33, J1 34, J1 35, J1 36, J1 37, J1 38, J1 39, J1 40, J1 41, J1 42, J1 43, J1 44, J1 45, J1 46, J1 47, J1 48], []⟩)) (21) ?_ ?_
   · refine ⟨0, 0, rfl, ?_, ?_, H6, B1, B2, B3, B4, B5, B7, B8, exJ (by kernel_rfl)⟩
     · omega
     · exact fwI_0 (by omega)
   intro m1 a wl1 hI
   obtain ⟨q, lk_, rfl, hi_, hI, HL1, B1, B2, B3, B4, B5, B7, B8, J1, rfl⟩ := hI
   refine wsr ?_
   refine wv (.bool (decide ((q : Int) < 21))) ?_
   refine wpList_nil (then_normal ?_)
   refine wp_seq ?_
   refine wsplit (decide ((q : Int) < 21)) (fun h2 => ?_) (fun h2 => ?_)
   · skip
     have h2d := dT h2
     refine wp_skip ?_
     refine then_normal ?_
     refine wp_seq ?_
     refine wp_block ?_
     refine wsr ?_
     refine wv (.int .i64 (q : Int)) ?_
     refine wv (.int .i64 (q : Int)) ?_
     refine wpList_nil (then_normal ?_)
     refine wsr ?_
     refine wrow row_impl_Cells B4 (by rfl) ?_
     refine wcl (soilOf_any F hF g1 _ x y (by first | assumption | exact okP.w2 hok | exact okP.w2 (cvP_ok _) | exact okP.w2 (setC_ok 100 (Nat.le_refl _))) _ B1) ?_
     intro w9 E8
     have H7 := HL1.trans E8
     replace B1 := B1.ext E8
     replace B2 := B2.ext E8
     replace B3 := B3.ext E8
     replace B4 := B4.ext E8
     replace B5 := B5.ext E8
     replace B7 := B7.ext E8
     replace B8 := B8.ext E8
     refine wbsl 0 #[] slt__int64 ?_
     intro g9 w10 B9 E9 hg_
     have q_g1_g9 := Nat.ne_of_lt (Nat.lt_of_lt_of_le B1.lt hg_)
     have q_g2_g9 := Nat.ne_of_lt (Nat.lt_of_lt_of_le B2.lt hg_)
     have q_g3_g9 := Nat.ne_of_lt (Nat.lt_of_lt_of_le B3.lt hg_)
     have q_g4_g9 := Nat.ne_of_lt (Nat.lt_of_lt_of_le B4.lt hg_)
     have q_g5_g9 := Nat.ne_of_lt (Nat.lt_of_lt_of_le B5.lt hg_)
     have q_g7_g9 := Nat.ne_of_lt (Nat.lt_of_lt_of_le B7.lt hg_)
     have q_g8_g9 := Nat.ne_of_lt (Nat.lt_of_lt_of_le B8.lt hg_)
     have lo_g9 := Nat.le_trans (H7).size hg_
     have S1 : SlI #[] 0 0 .i64 [] := SlI.nil
     refine wv (.int .i64 (q : Int)) ?_
     have H8 := H7.trans E9
     refine split_bool ((seekF F w0 l B q (gr0 F x y) [] lk_).fd.isSome) (fun h3 => ?_) (fun h3 => ?_)
     · skip
       replace B8 := B8.ext E9
       replace B1 := B1.ext E9
       replace B7 := B7.ext E9
       replace B2 := B2.ext E9
       replace B3 := B3.ext E9
       replace B4 := B4.ext E9
       replace B5 := B5.ext E9
       refine wskT (r := seekF F w0 l B q (gr0 F x y) [] lk_) (seek_any F w0 l B (by omega) q hF _ g1 _ g7 g8 (bo0 x (setC F (fun c_ => F.k c_.toNat == 0) 100).1) (bo1 y (setC F (fun c_ => F.k c_.toNat == 0) 100).2) ([] : List Int) 0 g9 0 #[] (q : Int) lk_ rfl (gr0_ok hwx hwy) S1 (by omega) q_g1_g8 q_g7_g8 (Ne.symm q_g8_g9) hI.1 hI.2.1 B1 B7 B8 B9) h3 ?_
       intro g10 n1 cap1 cs1 w11 B8_ X2 B10 S2 n2 or1
       clear B8; have B8 := B8_; clear B8_
       have lo_g10 := Wr.lo or1 lo_g9 (H8).size
       refine wv (.tuple #[.slice (some ⟨g10, 0, none⟩) n1 cap1, .bool (!(seekF F w0 l B q (gr0 F x y) [] lk_).ov)]) ?_
       refine wv (.slice (some ⟨g10, 0, none⟩) n1 cap1) ?_
       refine wv (.bool (!(seekF F w0 l B q (gr0 F x y) [] lk_).ov)) ?_
       refine wv (.slice (some ⟨g10, 0, none⟩) n1 cap1) ?_
       refine wv (.bool (!(seekF F w0 l B q (gr0 F x y) [] lk_).ov)) ?_
       refine wpList_nil (then_normal ?_)
       refine wp_block ?_
       refine wsr ?_
       refine wv (.bool (!(seekF F w0 l B q (gr0 F x y) [] lk_).ov)) ?_
       refine wvv (.bool (!(!(seekF F w0 l B q (gr0 F x y) [] lk_).ov))) (.bool ((seekF F w0 l B q (gr0 F x y) [] lk_).ov)) (by simp) ?_
       refine wv (.bool ((seekF F w0 l B q (gr0 F x y) [] lk_).ov)) ?_
       refine wpList_nil (then_normal ?_)
       have H9 := X2.ext w lo_g8 H8
       refine wsplit ((seekF F w0 l B q (gr0 F x y) [] lk_).ov) (fun h4 => ?_) (fun h4 => ?_)
       · skip
         refine wsr ?_
         refine wv (.slice none 0 0) ?_
         refine wv (.int .i64 0) ?_
         refine wv (.int .i64 7) ?_
         refine wpList_nil (then_normal ?_)
         refine wp_ret ?_
         refine block_ret (block_ret (then_ret (then_ret (block_ret (then_ret ?_)))))
         refine ret3 (.slice none 0 0) (.int .i64 0) (.int .i64 7) rfl ?_ ?_ ?_ rfl ?_
         · exact resT (by kernel_rfl)
         · exact resT (by kernel_rfl)
         · exact resT (by kernel_rfl)
         have ec_ : (7 : Int) = fwK F w0 l B x y := (fwK_t (by assumption) (fwI_o hI (by omega) (by first | assumption | exact nt_f (by assumption) | exact nt_t (by assumption)))).symm
         have en_ : fwK F w0 l B x y ≠ 0 := by rw [← ec_]; decide
         rw [ec_]
         exact .inr ⟨en_, rfl, H9⟩
       · skip
         refine wsr ?_
         refine wv (.slice (some ⟨g10, 0, none⟩) n1 cap1) ?_
         refine wv (.bool true) ?_
         refine wv (.bool true) ?_
         refine wpList_nil (then_normal ?_)
         refine wct ?_
         refine wp_seq ?_
         refine wp_frame (a' := ⟨#[.agg F.cells, .int .i64 w0, .int .i64 l, .agg #[.int .u64 x, .int .u64 y], .int .i64 B, .pointer (some ⟨g1, 0, none⟩), .pointer (some ⟨g2, 0, none⟩), .pointer (some ⟨g3, 0, none⟩), .pointer (some ⟨g4, 0, none⟩), .pointer (some ⟨g5, 0, none⟩), J1 10, J1 11, J1 12, .int .i64 (code F ((inB w0 1 1000 && inB l 1 1000) && inB B 0 20000)), .pointer (some ⟨g8, 0, none⟩), .int .i64 (q : Int), .slice (some ⟨g10, 0, none⟩) n1 cap1, .bool (!(seekF F w0 l B q (gr0 F x y) [] lk_).ov), .func (.func 31) #[] #[.pointer (some ⟨g2, 0, none⟩), .pointer (some ⟨g3, 0, none⟩), .pointer (some ⟨g5, 0, none⟩)], .int .i64 (code F ((inB w0 1 1000 && inB l 1 1000) && inB B 0 20000)), .int .i64 (code F ((inB w0 1 1000 && inB l 1 1000) && inB B 0 20000)), .bool ((code F ((inB w0 1 1000 && inB l 1 1000) && inB B 0 20000)) != 0), undef, .int .i64 w0, .int .i64 l, .map (some g6), .int .i64 B, .agg #[.pointer (some ⟨g1, 0, none⟩), .map (some g7), .int .i64 0, .int .i64 B], .int .i64 (q : Int), .bool (decide ((q : Int) < 21)), .int .i64 (q : Int), .tuple #[.slice (some ⟨g10, 0, none⟩) n1 cap1, .bool (!(seekF F w0 l B q (gr0 F x y) [] lk_).ov)], .agg #[.int .u64 x, .int .u64 y], .agg #[.int .u64 (bo0 x (setC F (fun c_ => F.k c_.toNat == 0) 100).1), .int .u64 (bo1 y (setC F (fun c_ => F.k c_.toNat == 0) 100).2)], .slice (some ⟨g9, 0, none⟩) 0 0, .int .i64 (q : Int), .tuple #[.slice (some ⟨g10, 0, none⟩) n1 cap1, .bool (!(seekF F w0 l B q (gr0 F x y) [] lk_).ov)], .slice (some ⟨g10, 0, none⟩) n1 cap1, .bool (!(seekF F w0 l B q (gr0 F x y) [] lk_).ov), .bool ((seekF F w0 l B q (gr0 F x y) [] lk_).ov), .bool (!(seekF F w0 l B q (gr0 F x y) [] lk_).ov), .bool ((seekF F w0 l B q (gr0 F x y) [] lk_).ov), .bool true, .slice (some ⟨g10, 0, none⟩) n1 cap1, .bool true, J1 45, J1 46, J1 47, J1 48], []⟩) (by kernel_rfl) ?_
         replace B1 := X2.blk B1 q_g1_g8
         replace B7 := X2.mv B7 q_g7_g8
         refine region_go 6 [45, 46, 47, 10, 11, 12] [[], [], [1], [0], [2], []]
          (fun i_ => ([.val (.slice (some ⟨g10, 0, none⟩) n1 cap1), .val (.pointer (some ⟨g8, 2, none⟩)), .val (.int .i64 ((seekF F w0 l B q (gr0 F x y) [] lk_).lk)), .val (.slice (some ⟨g10, 0, none⟩) n1 cap1), .val (.int .i64 ((seekF F w0 l B q (gr0 F x y) [] lk_).lk)), .val (.int .i64 0)] : List Fct).getD i_ .any)
          (by kernel_rfl) (by kernel_rfl) (by decide) (by simp) rfl (all_succ (all_succ (all_succ (all_succ (all_succ (all_succ all_zero ?_) ?_) ?_) ?_) ?_) ?_) ?_
         · refine step0 rfl rfl rfl (fun wr hw => ?_)
           exact OpRun.val (.slice (some ⟨g10, 0, none⟩) n1 cap1) (.slice (some ⟨g10, 0, none⟩) n1 cap1) (by kernel_rfl) rfl ⟨Ext.refl _, rfl⟩
         · refine step0 rfl rfl rfl (fun wr hw => ?_)
           exact OpRun.val (.pointer (some ⟨g8, 2, none⟩)) (.pointer (some ⟨g8, 2, none⟩)) (by kernel_rfl) rfl ⟨Ext.refl _, rfl⟩
         · refine step1 rfl rfl rfl rfl (fun u0 wr hw h0 => ?_)
           cases h0
           exact OpRun.cell (g := g8) (off := 2) (v := .int .i64 ((seekF F w0 l B q (gr0 F x y) [] lk_).lk)) scal_int64 rfl (by kernel_rfl) ((B8.ext hw).get (rfl)) ⟨Ext.refl _, rfl⟩
         · refine step1 rfl rfl rfl rfl (fun u0 wr hw h0 => ?_)
           cases h0
           exact OpRun.val (.slice (some ⟨g10, 0, none⟩) n1 cap1) (.slice (some ⟨g10, 0, none⟩) n1 cap1) (by kernel_rfl) rfl ⟨Ext.refl _, rfl⟩
         · refine step1 rfl rfl rfl rfl (fun u0 wr hw h0 => ?_)
           cases h0
           exact OpRun.val (.int .i64 ((seekF F w0 l B q (gr0 F x y) [] lk_).lk)) (.int .i64 ((seekF F w0 l B q (gr0 F x y) [] lk_).lk)) (by kernel_rfl) rfl ⟨Ext.refl _, rfl⟩
         · refine step0 rfl rfl rfl (fun wr hw => ?_)
           exact OpRun.val (.int .i64 0) (.int .i64 0) (by kernel_rfl) rfl ⟨Ext.refl _, rfl⟩
         refine end6 (fun u0 u1 u2 u3 u4 u5 w12 E10 f0 f1 f2 f3 f4 f5 => ?_)
         cases f0
         cases f1
         cases f2
         cases f3
         cases f4
         cases f5
         refine wpList_nil (then_normal ?_)
         refine wp_ret ?_
         refine block_ret (block_ret (then_ret (then_ret (block_ret (then_ret ?_)))))
         refine ret3 (.slice (some ⟨g10, 0, none⟩) n1 cap1) (.int .i64 ((seekF F w0 l B q (gr0 F x y) [] lk_).lk)) (.int .i64 0) rfl ?_ ?_ ?_ rfl ?_
         · exact resT (by kernel_rfl)
         · exact resT (by kernel_rfl)
         · exact resT (by kernel_rfl)
         have H10 := H9.trans E10
         replace B10 := B10.ext E10
         have ht_ := fwI_f hI (by omega) (by first | assumption | exact nt_f (by assumption) | exact nt_t (by assumption)) (by first | assumption | exact nt_f (by assumption) | exact nt_t (by assumption))
         exact .inl ⟨fwK_t (by assumption) ht_, g10, n1, cap1, cs1, congrArg (fun z_ => Ending.returned (.tuple #[_, .int .i64 z_, _])) (fwL_t ht_), B10, S2.of_eq (fwX_t ht_), H10, lo_g10⟩
     · skip
       replace B8 := B8.ext E9
       replace B1 := B1.ext E9
       replace B7 := B7.ext E9
       replace B2 := B2.ext E9
       replace B3 := B3.ext E9
       replace B4 := B4.ext E9
       replace B5 := B5.ext E9
       refine wskF (r := seekF F w0 l B q (gr0 F x y) [] lk_) (seek_any F w0 l B (by omega) q hF _ g1 _ g7 g8 (bo0 x (setC F (fun c_ => F.k c_.toNat == 0) 100).1) (bo1 y (setC F (fun c_ => F.k c_.toNat == 0) 100).2) ([] : List Int) 0 g9 0 #[] (q : Int) lk_ rfl (gr0_ok hwx hwy) S1 (by omega) q_g1_g8 q_g7_g8 (Ne.symm q_g8_g9) hI.1 hI.2.1 B1 B7 B8 B9) h3 ?_
       intro w13 B8_ X3
       clear B8; have B8 := B8_; clear B8_
       refine wv (.tuple #[.slice none 0 0, .bool (!(seekF F w0 l B q (gr0 F x y) [] lk_).ov)]) ?_
       refine wv (.slice none 0 0) ?_
       refine wv (.bool (!(seekF F w0 l B q (gr0 F x y) [] lk_).ov)) ?_
       refine wv (.slice none 0 0) ?_
       refine wv (.bool (!(seekF F w0 l B q (gr0 F x y) [] lk_).ov)) ?_
       refine wpList_nil (then_normal ?_)
       refine wp_block ?_
       refine wsr ?_
       refine wv (.bool (!(seekF F w0 l B q (gr0 F x y) [] lk_).ov)) ?_
       refine wvv (.bool (!(!(seekF F w0 l B q (gr0 F x y) [] lk_).ov))) (.bool ((seekF F w0 l B q (gr0 F x y) [] lk_).ov)) (by simp) ?_
       refine wv (.bool ((seekF F w0 l B q (gr0 F x y) [] lk_).ov)) ?_
       refine wpList_nil (then_normal ?_)
       have H11 := X3.ext w lo_g8 H8
       refine wsplit ((seekF F w0 l B q (gr0 F x y) [] lk_).ov) (fun h5 => ?_) (fun h5 => ?_)
       · skip
         refine wsr ?_
         refine wv (.slice none 0 0) ?_
         refine wv (.int .i64 0) ?_
         refine wv (.int .i64 7) ?_
         refine wpList_nil (then_normal ?_)
         refine wp_ret ?_
         refine block_ret (block_ret (then_ret (then_ret (block_ret (then_ret ?_)))))
         refine ret3 (.slice none 0 0) (.int .i64 0) (.int .i64 7) rfl ?_ ?_ ?_ rfl ?_
         · exact resT (by kernel_rfl)
         · exact resT (by kernel_rfl)
         · exact resT (by kernel_rfl)
         have ec_ : (7 : Int) = fwK F w0 l B x y := (fwK_t (by assumption) (fwI_o hI (by omega) (by first | assumption | exact nt_f (by assumption) | exact nt_t (by assumption)))).symm
         have en_ : fwK F w0 l B x y ≠ 0 := by rw [← ec_]; decide
         rw [ec_]
         exact .inr ⟨en_, rfl, H11⟩
       · skip
         refine wsr ?_
         refine wv (.slice none 0 0) ?_
         refine wv (.bool false) ?_
         refine wv (.bool false) ?_
         refine wpList_nil (then_normal ?_)
         refine wcf ?_
         refine wp_skip ?_
         refine block_normal (block_normal (then_normal ?_))
         refine wp_region_lit ?_
         refine wi64 ((q : Int) + 1) ?_
         refine wv (.int .i64 ((q : Int) + 1)) ?_
         refine wpList_nil (then_normal ?_)
         replace B1 := X3.blk B1 q_g1_g8
         replace B2 := X3.blk B2 q_g2_g8
         replace B3 := X3.blk B3 q_g3_g8
         replace B4 := X3.blk B4 q_g4_g8
         replace B5 := X3.blk B5 q_g5_g8
         replace B7 := X3.mv B7 q_g7_g8
         refine ⟨_, ?_, q + 1, (seekF F w0 l B q (gr0 F x y) [] lk_).lk, rfl, ?_, ?_, H11, B1, B2, B3, B4, B5, B7, B8, exJ (by kernel_rfl)⟩
         · omega
         · omega
         · exact fwI_s hI (by omega) (by first | assumption | exact nt_f (by assumption)) (by assumption)
   · skip
     have h2d := dF h2
     refine wp_exit ?_
     refine then_exit ?_
     refine then_exit ?_
     refine block_exit ?_
     refine then_normal ?_
     refine wsr ?_
     refine wv (.slice none 0 0) ?_
     refine wv (.int .i64 0) ?_
     refine wv (.int .i64 6) ?_
     refine wpList_nil (then_normal ?_)
     refine wp_ret ?_
     refine ret3 (.slice none 0 0) (.int .i64 0) (.int .i64 6) rfl ?_ ?_ ?_ rfl ?_
     · exact resT (by kernel_rfl)
     · exact resT (by kernel_rfl)
     · exact resT (by kernel_rfl)
     have ec_ : (6 : Int) = fwK F w0 l B x y := (fwK_t (by assumption) (fwI_e hI (by omega))).symm
     have en_ : fwK F w0 l B x y ≠ 0 := by rw [← ec_]; decide
     rw [ec_]
     exact .inr ⟨en_, rfl, HL1⟩

end Go.Proofs.Ytldlaohefgianaa
