/-
  For all arguments, the law FnExactFewestPlaces returns true; its arguments read as they did. No conditions.
-/
import Derived.Test.YtldlaohefgianaaRows
import Derived.Test.YtldlaohefgianaaFn25
import Derived.Test.YtldlaohefgianaaRowk
import Derived.WalkKit
import Derived.ProofKit
import Derived.OpenShut
import Derived.ShutString
import Derived.ChangeOld
import Derived.Below
import Derived.SizedLaws
namespace Go.Proofs.Ytldlaohefgianaa
open Go.ChangeShapes Go.WideShapes Go.ChangeAt Go.RowKit
open Go.ChangeMaps (open_string shut_string)
set_option linter.unusedVariables false
theorem ownKnob_none : ownKnob Try.prog.godebug = none := by kernel_rfl
theorem laidOut_ : laidOutB Try.prog = true := by kernel_rfl
section
set_option maxHeartbeats 4000000
set_option maxRecDepth 100000
attribute [local irreducible] wpList Code.wp
--# walk FnExactFewestPlaces
theorem FnExactFewestPlaces_walk (F : Fld) (hF : F.wf) (m : Int) (l : Int) (x y : Int) (B : Int) (hwx : wrd x) (hwy : wrd y) (w : World) :
 Calls Try.prog 4 #[.agg F.cells, .int .i64 m, .int .i64 l, .agg #[.int .u64 x, .int .u64 y], .int .i64 B] w fun e w' => e = .returned (.bool true) ∧ Ext w w' := by
 refine calls_of_wp Try.func4 rfl ?_
 refine wp_frame (a' := ⟨#[.agg F.cells, .int .i64 m, .int .i64 l, .agg #[.int .u64 x, .int .u64 y], .int .i64 B, undef, undef, undef, undef, undef, undef, undef, undef, undef, undef, undef, undef, undef, undef, undef, undef, undef, undef, undef, undef, undef, undef, undef, undef, undef, undef, undef, undef, undef, undef, undef, undef, undef, undef, undef, undef, undef, undef, undef, undef, undef, undef, undef, undef, undef, undef, undef, undef, undef, undef, undef, undef, undef, undef, undef, undef, undef, undef, undef, undef, undef, undef, undef, undef, undef, undef, undef, undef, undef, undef, undef, undef, undef, undef, undef, undef, undef, undef, undef, undef, undef, undef, undef, undef, undef, undef, undef, undef, undef, undef, undef, undef, undef, undef, undef, undef, undef, undef, undef, undef], []⟩) (by kernel_rfl) ?_
 refine wsr ?_
 refine wbox F.cells ?_
 intro g1 w1 B1 E1 hg_
 have lo_g1 := Nat.le_trans ((Ext.refl w)).size hg_
 have H1 := (Ext.refl w).trans E1
 refine wbox #[.int .u64 x, .int .u64 y] ?_
 intro g2 w2 B2 E2 hg_
 have q_g1_g2 := Nat.ne_of_lt (Nat.lt_of_lt_of_le B1.lt hg_)
 have lo_g2 := Nat.le_trans (H1).size hg_
 refine wv (.bool false) ?_
 refine wpList_nil (then_normal ?_)
 refine wp_seq ?_
 refine wp_frame (a' := ⟨#[.agg F.cells, .int .i64 m, .int .i64 l, .agg #[.int .u64 x, .int .u64 y], .int .i64 B, .pointer (some ⟨g1, 0, none⟩), undef, undef, .pointer (some ⟨g2, 0, none⟩), undef, .bool false, undef, undef, undef, undef, undef, undef, undef, undef, undef, undef, undef, undef, undef, undef, undef, undef, undef, undef, undef, undef, undef, undef, undef, undef, undef, undef, undef, undef, undef, undef, undef, undef, undef, undef, undef, undef, undef, undef, undef, undef, undef, undef, undef, undef, undef, undef, undef, undef, undef, undef, undef, undef, undef, undef, undef, undef, undef, undef, undef, undef, undef, undef, undef, undef, undef, undef, undef, undef, undef, undef, undef, undef, undef, undef, undef, undef, undef, undef, undef, undef, undef, undef, undef, undef, undef, undef, undef, undef, undef, undef, undef, undef, undef, undef], []⟩) (by kernel_rfl) ?_
 replace B1 := B1.ext E2
 have H2 := H1.trans E2
 refine split_bool (fwK F m l B x y == 0) (fun h1 => ?_) (fun h1 => ?_)
 · skip
   have h1d := eT h1
   have fx1 := fwX_length (F := F) (w := m) (l := l) (B := B) (tx := x) (ty := y)
   refine region_go 15 [23, 24, 25, 26, 27, 28, 29, 30, 22, 31, 32, 33, 11, 12, 13] [[], [0], [], [], [], [4], [], [1, 2, 3, 5, 6], [7], [8], [8], [8], [9], [10], [11]]
    (fun i_ => ([.val (.agg F.cells), .val (.agg F.cells), .val (.int .i64 m), .val (.int .i64 l), .val (.agg #[.int .u64 x, .int .u64 y]), .val (.agg #[.int .u64 x, .int .u64 y]), .val (.int .i64 B), .lstm w2.heap.size 2 .i64 (fwX F m l B x y) (fun v => .tuple #[v, .int .i64 (fwL F m l B x y), .int .i64 0]), .lstm w2.heap.size 2 .i64 (fwX F m l B x y) (fun v => .tuple #[v, .int .i64 (fwL F m l B x y), .int .i64 0]), .lst w2.heap.size 2 .i64 (fwX F m l B x y), .val (.int .i64 (fwL F m l B x y)), .val (.int .i64 0), .lst w2.heap.size 2 .i64 (fwX F m l B x y), .val (.int .i64 (fwL F m l B x y)), .val (.int .i64 0)] : List Fct).getD i_ .any)
    (by kernel_rfl) (by kernel_rfl) (by decide) (by simp) rfl (all_succ (all_succ (all_succ (all_succ (all_succ (all_succ (all_succ (all_succ (all_succ (all_succ (all_succ (all_succ (all_succ (all_succ (all_succ all_zero ?_) ?_) ?_) ?_) ?_) ?_) ?_) ?_) ?_) ?_) ?_) ?_) ?_) ?_) ?_) ?_
   · refine step0 rfl rfl rfl (fun wr hw => ?_)
     with_reducible refine OpRun.row (x := (.tmp 5)) row_laws_Field (B1.ext hw) ?_ ?_ ?_ ?_
     · exact Fld.size_cells _
     · rfl
     · kernel_rfl
     · exact ⟨Ext.refl _, rfl⟩
   · refine step1 rfl rfl rfl rfl (fun u0 wr hw h0 => ?_)
     cases h0
     exact OpRun.call 6 #[.agg F.cells] (by kernel_rfl) ((toField_any F hF _).mono fun e w1 ⟨he, hb⟩ => ⟨_, he, hb, rfl⟩)
   · refine step0 rfl rfl rfl (fun wr hw => ?_)
     exact OpRun.val (.int .i64 m) (.int .i64 m) (by kernel_rfl) rfl ⟨Ext.refl _, rfl⟩
   · refine step0 rfl rfl rfl (fun wr hw => ?_)
     exact OpRun.val (.int .i64 l) (.int .i64 l) (by kernel_rfl) rfl ⟨Ext.refl _, rfl⟩
   · refine step0 rfl rfl rfl (fun wr hw => ?_)
     with_reducible refine OpRun.row (x := (.tmp 8)) row__2_uint64 (B2.ext hw) ?_ ?_ ?_ ?_
     · rfl
     · rfl
     · kernel_rfl
     · exact ⟨Ext.refl _, rfl⟩
   · refine step1 rfl rfl rfl rfl (fun u0 wr hw h0 => ?_)
     cases h0
     exact OpRun.call 13 #[.agg #[.int .u64 x, .int .u64 y]] (by kernel_rfl) ((toCells_any x y _).mono fun e w1 ⟨he, hb⟩ => ⟨_, he, hb, rfl⟩)
   · refine step0 rfl rfl rfl (fun wr hw => ?_)
     exact OpRun.val (.int .i64 B) (.int .i64 B) (by kernel_rfl) rfl ⟨Ext.refl _, rfl⟩
   · refine step5 rfl rfl rfl rfl rfl rfl rfl rfl (fun u0 u1 u2 u3 u4 wr hw h0 h1 h2 h3 h4 => ?_)
     cases h0
     cases h1
     cases h2
     cases h3
     cases h4
     exact OpRun.call 12 #[.agg F.cells, .int .i64 m, .int .i64 l, .agg #[.int .u64 x, .int .u64 y], .int .i64 B] (by kernel_rfl) ((sFewestPlaces_t F hF m l x y B (by assumption) (by assumption) _ (eT h1)).mono fun e w1 ⟨_, _, _, _, he, hb, hs, hE, hg⟩ => by obtain rfl := hs.len; exact ⟨_, he, hE, _, _, _, rfl, Nat.le_trans hw.size hg, hb, hs⟩)
   · refine step1 rfl rfl rfl rfl (fun u0 wr hw h0 => ?_)
     obtain ⟨g3, cap1, cs1, rfl, hgn0, hbn0, S1⟩ := h0
     exact OpRun.val (.tuple #[.slice (some ⟨g3, 0, none⟩) ((fwX F m l B x y).length) cap1, .int .i64 (fwL F m l B x y), .int .i64 0]) (.tuple #[.slice (some ⟨g3, 0, none⟩) ((fwX F m l B x y).length) cap1, .int .i64 (fwL F m l B x y), .int .i64 0]) (by kernel_rfl) rfl ⟨Ext.refl _, g3, cap1, cs1, rfl, hgn0, hbn0, S1⟩
   · refine step1 rfl rfl rfl rfl (fun u0 wr hw h0 => ?_)
     obtain ⟨g4, cap2, cs2, rfl, hgn0, hbn0, S2⟩ := h0
     exact OpRun.val (.slice (some ⟨g4, 0, none⟩) ((fwX F m l B x y).length) cap2) (.slice (some ⟨g4, 0, none⟩) ((fwX F m l B x y).length) cap2) (by kernel_rfl) rfl ⟨Ext.refl _, g4, cap2, cs2, rfl, hgn0, hbn0, S2⟩
   · refine step1 rfl rfl rfl rfl (fun u0 wr hw h0 => ?_)
     obtain ⟨g4, cap2, cs2, rfl, hgn0, hbn0, S2⟩ := h0
     exact OpRun.val (.int .i64 (fwL F m l B x y)) (.int .i64 (fwL F m l B x y)) (by kernel_rfl) rfl ⟨Ext.refl _, rfl⟩
   · refine step1 rfl rfl rfl rfl (fun u0 wr hw h0 => ?_)
     obtain ⟨g4, cap2, cs2, rfl, hgn0, hbn0, S2⟩ := h0
     exact OpRun.val (.int .i64 0) (.int .i64 0) (by kernel_rfl) rfl ⟨Ext.refl _, rfl⟩
   · refine step1 rfl rfl rfl rfl (fun u0 wr hw h0 => ?_)
     obtain ⟨g5, cap3, cs3, rfl, hgn0, hbn0, S3⟩ := h0
     exact OpRun.val (.slice (some ⟨g5, 0, none⟩) ((fwX F m l B x y).length) cap3) (.slice (some ⟨g5, 0, none⟩) ((fwX F m l B x y).length) cap3) (by kernel_rfl) rfl ⟨Ext.refl _, g5, cap3, cs3, rfl, hgn0, hbn0, S3⟩
   · refine step1 rfl rfl rfl rfl (fun u0 wr hw h0 => ?_)
     cases h0
     exact OpRun.val (.int .i64 (fwL F m l B x y)) (.int .i64 (fwL F m l B x y)) (by kernel_rfl) rfl ⟨Ext.refl _, rfl⟩
   · refine step1 rfl rfl rfl rfl (fun u0 wr hw h0 => ?_)
     cases h0
     exact OpRun.val (.int .i64 0) (.int .i64 0) (by kernel_rfl) rfl ⟨Ext.refl _, rfl⟩
   refine end15 (fun u0 u1 u2 u3 u4 u5 u6 u7 u8 u9 u10 u11 u12 u13 u14 w3 E3 f0 f1 f2 f3 f4 f5 f6 f7 f8 f9 f10 f11 f12 f13 f14 => ?_)
   cases f0
   cases f1
   cases f2
   cases f3
   cases f4
   cases f5
   cases f6
   obtain ⟨g3, cap1, cs1, rfl, hg_, B3, S1⟩ := f7
   clear hg_
   obtain ⟨g4, cap2, cs2, rfl, hg_, B4, S2⟩ := f8
   clear hg_
   obtain ⟨g5, cap3, cs3, rfl, hg_, B5, S3⟩ := f9
   clear hg_
   cases f10
   cases f11
   obtain ⟨g6, cap4, cs4, rfl, hg_, B6, S4⟩ := f12
   have q_g1_g6 := Nat.ne_of_lt (Nat.lt_of_lt_of_le B1.lt hg_)
   have q_g2_g6 := Nat.ne_of_lt (Nat.lt_of_lt_of_le B2.lt hg_)
   have lo_g6 := Nat.le_trans (H2).size hg_
   clear hg_
   cases f13
   cases f14
   refine wpList_nil (then_normal ?_)
   refine wp_seq ?_
   refine wp_frame (a' := ⟨#[.agg F.cells, .int .i64 m, .int .i64 l, .agg #[.int .u64 x, .int .u64 y], .int .i64 B, .pointer (some ⟨g1, 0, none⟩), undef, undef, .pointer (some ⟨g2, 0, none⟩), undef, .bool false, .slice (some ⟨g6, 0, none⟩) ((fwX F m l B x y).length) cap4, .int .i64 (fwL F m l B x y), .int .i64 0, undef, undef, undef, undef, undef, undef, undef, undef, .tuple #[.slice (some ⟨g4, 0, none⟩) ((fwX F m l B x y).length) cap2, .int .i64 (fwL F m l B x y), .int .i64 0], .agg F.cells, .agg F.cells, .int .i64 m, .int .i64 l, .agg #[.int .u64 x, .int .u64 y], .agg #[.int .u64 x, .int .u64 y], .int .i64 B, .tuple #[.slice (some ⟨g3, 0, none⟩) ((fwX F m l B x y).length) cap1, .int .i64 (fwL F m l B x y), .int .i64 0], .slice (some ⟨g5, 0, none⟩) ((fwX F m l B x y).length) cap3, .int .i64 (fwL F m l B x y), .int .i64 0, undef, undef, undef, undef, undef, undef, undef, undef, undef, undef, undef, undef, undef, undef, undef, undef, undef, undef, undef, undef, undef, undef, undef, undef, undef, undef, undef, undef, undef, undef, undef, undef, undef, undef, undef, undef, undef, undef, undef, undef, undef, undef, undef, undef, undef, undef, undef, undef, undef, undef, undef, undef, undef, undef, undef, undef, undef, undef, undef, undef, undef, undef, undef, undef, undef, undef, undef, undef, undef, undef, undef], []⟩) (by kernel_rfl) ?_
   replace B1 := B1.ext E3
   replace B2 := B2.ext E3
   have fx2 := fwX_length (F := F) (w := m) (l := l) (B := B) (tx := x) (ty := y)
   have H3 := H2.trans E3
   refine region_go 15 [35, 36, 37, 38, 39, 40, 41, 42, 34, 43, 44, 45, 14, 15, 16] [[], [0], [], [], [], [4], [], [1, 2, 3, 5, 6], [7], [8], [8], [8], [9], [10], [11]]
    (fun i_ => ([.val (.agg F.cells), .val (.agg F.cells), .val (.int .i64 m), .val (.int .i64 l), .val (.agg #[.int .u64 x, .int .u64 y]), .val (.agg #[.int .u64 x, .int .u64 y]), .val (.int .i64 B), .lstm w3.heap.size 2 .i64 (fwX F m l B x y) (fun v => .tuple #[v, .int .i64 (fwL F m l B x y), .int .i64 0]), .lstm w3.heap.size 2 .i64 (fwX F m l B x y) (fun v => .tuple #[v, .int .i64 (fwL F m l B x y), .int .i64 0]), .lst w3.heap.size 2 .i64 (fwX F m l B x y), .val (.int .i64 (fwL F m l B x y)), .val (.int .i64 0), .lst w3.heap.size 2 .i64 (fwX F m l B x y), .val (.int .i64 (fwL F m l B x y)), .val (.int .i64 0)] : List Fct).getD i_ .any)
    (by kernel_rfl) (by kernel_rfl) (by decide) (by simp) rfl (all_succ (all_succ (all_succ (all_succ (all_succ (all_succ (all_succ (all_succ (all_succ (all_succ (all_succ (all_succ (all_succ (all_succ (all_succ all_zero ?_) ?_) ?_) ?_) ?_) ?_) ?_) ?_) ?_) ?_) ?_) ?_) ?_) ?_) ?_) ?_
   · refine step0 rfl rfl rfl (fun wr hw => ?_)
     with_reducible refine OpRun.row (x := (.tmp 5)) row_laws_Field (B1.ext hw) ?_ ?_ ?_ ?_
     · exact Fld.size_cells _
     · rfl
     · kernel_rfl
     · exact ⟨Ext.refl _, rfl⟩
   · refine step1 rfl rfl rfl rfl (fun u0 wr hw h0 => ?_)
     cases h0
     exact OpRun.call 6 #[.agg F.cells] (by kernel_rfl) ((toField_any F hF _).mono fun e w1 ⟨he, hb⟩ => ⟨_, he, hb, rfl⟩)
   · refine step0 rfl rfl rfl (fun wr hw => ?_)
     exact OpRun.val (.int .i64 m) (.int .i64 m) (by kernel_rfl) rfl ⟨Ext.refl _, rfl⟩
   · refine step0 rfl rfl rfl (fun wr hw => ?_)
     exact OpRun.val (.int .i64 l) (.int .i64 l) (by kernel_rfl) rfl ⟨Ext.refl _, rfl⟩
   · refine step0 rfl rfl rfl (fun wr hw => ?_)
     with_reducible refine OpRun.row (x := (.tmp 8)) row__2_uint64 (B2.ext hw) ?_ ?_ ?_ ?_
     · rfl
     · rfl
     · kernel_rfl
     · exact ⟨Ext.refl _, rfl⟩
   · refine step1 rfl rfl rfl rfl (fun u0 wr hw h0 => ?_)
     cases h0
     exact OpRun.call 13 #[.agg #[.int .u64 x, .int .u64 y]] (by kernel_rfl) ((toCells_any x y _).mono fun e w1 ⟨he, hb⟩ => ⟨_, he, hb, rfl⟩)
   · refine step0 rfl rfl rfl (fun wr hw => ?_)
     exact OpRun.val (.int .i64 B) (.int .i64 B) (by kernel_rfl) rfl ⟨Ext.refl _, rfl⟩
   · refine step5 rfl rfl rfl rfl rfl rfl rfl rfl (fun u0 u1 u2 u3 u4 wr hw h0 h1 h2 h3 h4 => ?_)
     cases h0
     cases h1
     cases h2
     cases h3
     cases h4
     exact OpRun.call 14 #[.agg F.cells, .int .i64 m, .int .i64 l, .agg #[.int .u64 x, .int .u64 y], .int .i64 B] (by kernel_rfl) ((iFewestPlaces_t F hF m l x y B (by assumption) (by assumption) _ (eT h1)).mono fun e w1 ⟨_, _, _, _, he, hb, hs, hE, hg⟩ => by obtain rfl := hs.len; exact ⟨_, he, hE, _, _, _, rfl, Nat.le_trans hw.size hg, hb, hs⟩)
   · refine step1 rfl rfl rfl rfl (fun u0 wr hw h0 => ?_)
     obtain ⟨g7, cap5, cs5, rfl, hgn0, hbn0, S5⟩ := h0
     exact OpRun.val (.tuple #[.slice (some ⟨g7, 0, none⟩) ((fwX F m l B x y).length) cap5, .int .i64 (fwL F m l B x y), .int .i64 0]) (.tuple #[.slice (some ⟨g7, 0, none⟩) ((fwX F m l B x y).length) cap5, .int .i64 (fwL F m l B x y), .int .i64 0]) (by kernel_rfl) rfl ⟨Ext.refl _, g7, cap5, cs5, rfl, hgn0, hbn0, S5⟩
   · refine step1 rfl rfl rfl rfl (fun u0 wr hw h0 => ?_)
     obtain ⟨g8, cap6, cs6, rfl, hgn0, hbn0, S6⟩ := h0
     exact OpRun.val (.slice (some ⟨g8, 0, none⟩) ((fwX F m l B x y).length) cap6) (.slice (some ⟨g8, 0, none⟩) ((fwX F m l B x y).length) cap6) (by kernel_rfl) rfl ⟨Ext.refl _, g8, cap6, cs6, rfl, hgn0, hbn0, S6⟩
   · refine step1 rfl rfl rfl rfl (fun u0 wr hw h0 => ?_)
     obtain ⟨g8, cap6, cs6, rfl, hgn0, hbn0, S6⟩ := h0
     exact OpRun.val (.int .i64 (fwL F m l B x y)) (.int .i64 (fwL F m l B x y)) (by kernel_rfl) rfl ⟨Ext.refl _, rfl⟩
   · refine step1 rfl rfl rfl rfl (fun u0 wr hw h0 => ?_)
     obtain ⟨g8, cap6, cs6, rfl, hgn0, hbn0, S6⟩ := h0
     exact OpRun.val (.int .i64 0) (.int .i64 0) (by kernel_rfl) rfl ⟨Ext.refl _, rfl⟩
   · refine step1 rfl rfl rfl rfl (fun u0 wr hw h0 => ?_)
     obtain ⟨g9, cap7, cs7, rfl, hgn0, hbn0, S7⟩ := h0
     exact OpRun.val (.slice (some ⟨g9, 0, none⟩) ((fwX F m l B x y).length) cap7) (.slice (some ⟨g9, 0, none⟩) ((fwX F m l B x y).length) cap7) (by kernel_rfl) rfl ⟨Ext.refl _, g9, cap7, cs7, rfl, hgn0, hbn0, S7⟩
   · refine step1 rfl rfl rfl rfl (fun u0 wr hw h0 => ?_)
     cases h0
     exact OpRun.val (.int .i64 (fwL F m l B x y)) (.int .i64 (fwL F m l B x y)) (by kernel_rfl) rfl ⟨Ext.refl _, rfl⟩
   · refine step1 rfl rfl rfl rfl (fun u0 wr hw h0 => ?_)
     cases h0
     exact OpRun.val (.int .i64 0) (.int .i64 0) (by kernel_rfl) rfl ⟨Ext.refl _, rfl⟩
   refine end15 (fun u0 u1 u2 u3 u4 u5 u6 u7 u8 u9 u10 u11 u12 u13 u14 w4 E4 f0 f1 f2 f3 f4 f5 f6 f7 f8 f9 f10 f11 f12 f13 f14 => ?_)
   cases f0
   cases f1
   cases f2
   cases f3
   cases f4
   cases f5
   cases f6
   obtain ⟨g7, cap5, cs5, rfl, hg_, B7, S5⟩ := f7
   clear hg_
   obtain ⟨g8, cap6, cs6, rfl, hg_, B8, S6⟩ := f8
   clear hg_
   obtain ⟨g9, cap7, cs7, rfl, hg_, B9, S7⟩ := f9
   clear hg_
   cases f10
   cases f11
   obtain ⟨g10, cap8, cs8, rfl, hg_, B10, S8⟩ := f12
   have q_g1_g10 := Nat.ne_of_lt (Nat.lt_of_lt_of_le B1.lt hg_)
   have q_g2_g10 := Nat.ne_of_lt (Nat.lt_of_lt_of_le B2.lt hg_)
   have q_g6_g10 := Nat.ne_of_lt (Nat.lt_of_lt_of_le B6.lt hg_)
   have lo_g10 := Nat.le_trans (H3).size hg_
   clear hg_
   cases f13
   cases f14
   refine wpList_nil (then_normal ?_)
   refine wp_seq ?_
   refine wsr ?_
   refine wv (.slice (some ⟨g10, 0, none⟩) ((fwX F m l B x y).length) cap8) ?_
   refine wv (.slice (some ⟨g6, 0, none⟩) ((fwX F m l B x y).length) cap4) ?_
   replace B6 := B6.ext E4
   refine wcl (eqInt64S_same (fwX F m l B x y) g10 cap8 cs8 S8 g6 cap4 cs4 S4 (by omega) _ B10 B6) ?_
   intro w5 E5
   refine wv (.bool false) ?_
   refine wv (.bool false) ?_
   refine wv (.int .i64 (fwL F m l B x y)) ?_
   refine wv (.int .i64 (fwL F m l B x y)) ?_
   refine wvv (.bool ((fwL F m l B x y) != (fwL F m l B x y))) (.bool false) (by simp) ?_
   refine wv (.bool false) ?_
   refine wv (.bool false) ?_
   refine wv (.int .i64 0) ?_
   refine wv (.int .i64 0) ?_
   refine wvv (.bool (0 != 0)) (.bool false) (by simp) ?_
   refine wv (.bool false) ?_
   refine wpList_nil (then_normal ?_)
   refine wcf ?_
   refine wp_skip ?_
   refine then_normal ?_
   refine wsr ?_
   refine wv (.int .i64 1) ?_
   refine wpList_nil (then_normal ?_)
   refine wsr ?_
   refine wv (.slice (some ⟨g10, 0, none⟩) ((fwX F m l B x y).length) cap8) ?_
   refine wv (.int .i64 1) ?_
   replace B10 := B10.ext E5
   refine wclx (fun v_ w_ => ∃ cs' ys, v_ = .int .i64 (1 + ((fwX F m l B x y).length : Int)) ∧ Blk w_ g10 2 cs' ∧ SlI cs' (fwX F m l B x y).length cap8 .i64 ys ∧ (ys.length = (fwX F m l B x y).length ∧ ∀ j, j < (fwX F m l B x y).length → atI ys j = 1 + (j : Int)) ∧ Wr g10 w5 w_) (markInt64S_any (fwX F m l B x y) g10 cap8 cs8 S8 1 (by omega) (by omega) _ B10) (fun e_ w_ ⟨c_, y_, h_, r_⟩ => ⟨_, h_, c_, y_, rfl, r_⟩) ?_
   rintro v_ w6 ⟨cs9, ys1, rfl, B10_, S9, hm1, X1⟩
   clear B10; have B10 := B10_; clear B10_
   refine wv (.int .i64 (1 + ((fwX F m l B x y).length : Int))) ?_
   refine wpList_nil (then_normal ?_)
   refine wp_frame (a' := ⟨#[.agg F.cells, .int .i64 m, .int .i64 l, .agg #[.int .u64 x, .int .u64 y], .int .i64 B, .pointer (some ⟨g1, 0, none⟩), undef, undef, .pointer (some ⟨g2, 0, none⟩), undef, .bool false, .slice (some ⟨g6, 0, none⟩) ((fwX F m l B x y).length) cap4, .int .i64 (fwL F m l B x y), .int .i64 0, .slice (some ⟨g10, 0, none⟩) ((fwX F m l B x y).length) cap8, .int .i64 (fwL F m l B x y), .int .i64 0, .int .i64 (1 + ((fwX F m l B x y).length : Int)), undef, undef, undef, undef, .tuple #[.slice (some ⟨g4, 0, none⟩) ((fwX F m l B x y).length) cap2, .int .i64 (fwL F m l B x y), .int .i64 0], .agg F.cells, .agg F.cells, .int .i64 m, .int .i64 l, .agg #[.int .u64 x, .int .u64 y], .agg #[.int .u64 x, .int .u64 y], .int .i64 B, .tuple #[.slice (some ⟨g3, 0, none⟩) ((fwX F m l B x y).length) cap1, .int .i64 (fwL F m l B x y), .int .i64 0], .slice (some ⟨g5, 0, none⟩) ((fwX F m l B x y).length) cap3, .int .i64 (fwL F m l B x y), .int .i64 0, .tuple #[.slice (some ⟨g8, 0, none⟩) ((fwX F m l B x y).length) cap6, .int .i64 (fwL F m l B x y), .int .i64 0], .agg F.cells, .agg F.cells, .int .i64 m, .int .i64 l, .agg #[.int .u64 x, .int .u64 y], .agg #[.int .u64 x, .int .u64 y], .int .i64 B, .tuple #[.slice (some ⟨g7, 0, none⟩) ((fwX F m l B x y).length) cap5, .int .i64 (fwL F m l B x y), .int .i64 0], .slice (some ⟨g9, 0, none⟩) ((fwX F m l B x y).length) cap7, .int .i64 (fwL F m l B x y), .int .i64 0, .slice (some ⟨g10, 0, none⟩) ((fwX F m l B x y).length) cap8, .slice (some ⟨g6, 0, none⟩) ((fwX F m l B x y).length) cap4, .bool true, .bool false, .bool false, .int .i64 (fwL F m l B x y), .int .i64 (fwL F m l B x y), .bool false, .bool false, .bool false, .int .i64 0, .int .i64 0, .bool false, .bool false, .slice (some ⟨g10, 0, none⟩) ((fwX F m l B x y).length) cap8, .int .i64 1, .int .i64 (1 + ((fwX F m l B x y).length : Int)), undef, undef, undef, undef, undef, undef, undef, undef, undef, undef, undef, undef, undef, undef, undef, undef, undef, undef, undef, undef, undef, undef, undef, undef, undef, undef, undef, undef, undef, undef, undef, undef, undef, undef, undef, undef, undef, undef, undef, undef, undef, undef], []⟩) (by kernel_rfl) ?_
   refine wsr ?_
   refine wv (.int .i64 1) ?_
   refine wpList_nil (then_normal ?_)
   refine wsr ?_
   refine wv (.slice (some ⟨g10, 0, none⟩) ((fwX F m l B x y).length) cap8) ?_
   refine wv (.int .i64 1) ?_
   refine wcl (heldInt64S_any ys1 ((fwX F m l B x y).length) g10 cap8 cs9 S9 1 (by omega) (by omega) hm1.2 _ B10) ?_
   intro w7 E6
   refine wv (.int .i64 (1 + ((fwX F m l B x y).length : Int))) ?_
   refine wpList_nil (then_normal ?_)
   refine wp_seq ?_
   refine wsr ?_
   refine wv (.int .i64 (1 + ((fwX F m l B x y).length : Int))) ?_
   refine wv (.bool (decide ((1 + ((fwX F m l B x y).length : Int)) < 0))) ?_
   refine wpList_nil (then_normal ?_)
   have H4 := (X1.ext w lo_g10 ((H3.trans E4).trans E5)).trans E6
   refine wsplit (decide ((1 + ((fwX F m l B x y).length : Int)) < 0)) (fun h2 => ?_) (fun h2 => ?_)
   · skip
     have h2d := dT h2
     refine wsr ?_
     refine wv (.bool false) ?_
     refine wpList_nil (then_normal ?_)
     refine wp_ret ?_
     refine then_ret ?_
     refine ret1 (.bool true) rfl ?_ rfl ?_
     · refine (resT (v := .bool false) (by kernel_rfl)).trans ?_
       refine congrArg Value.bool ?_
       exfalso; omega
     exact ⟨rfl, H4⟩
   · skip
     have h2d := dF h2
     refine wp_skip ?_
     refine then_normal ?_
     refine wp_seq ?_
     refine wsr ?_
     refine wv (.int .i64 (1 + ((fwX F m l B x y).length : Int))) ?_
     refine wv (.int .i64 (1 + ((fwX F m l B x y).length : Int))) ?_
     refine wvv (.bool ((1 + ((fwX F m l B x y).length : Int)) != (1 + ((fwX F m l B x y).length : Int)))) (.bool false) (by simp) ?_
     refine wpList_nil (then_normal ?_)
     refine wcf ?_
     refine wp_skip ?_
     refine then_normal ?_
     refine wp_seq ?_
     refine wp_frame (a' := ⟨#[.agg F.cells, .int .i64 m, .int .i64 l, .agg #[.int .u64 x, .int .u64 y], .int .i64 B, .pointer (some ⟨g1, 0, none⟩), undef, undef, .pointer (some ⟨g2, 0, none⟩), undef, .bool false, .slice (some ⟨g6, 0, none⟩) ((fwX F m l B x y).length) cap4, .int .i64 (fwL F m l B x y), .int .i64 0, .slice (some ⟨g10, 0, none⟩) ((fwX F m l B x y).length) cap8, .int .i64 (fwL F m l B x y), .int .i64 0, .int .i64 (1 + ((fwX F m l B x y).length : Int)), .int .i64 (1 + ((fwX F m l B x y).length : Int)), undef, undef, undef, .tuple #[.slice (some ⟨g4, 0, none⟩) ((fwX F m l B x y).length) cap2, .int .i64 (fwL F m l B x y), .int .i64 0], .agg F.cells, .agg F.cells, .int .i64 m, .int .i64 l, .agg #[.int .u64 x, .int .u64 y], .agg #[.int .u64 x, .int .u64 y], .int .i64 B, .tuple #[.slice (some ⟨g3, 0, none⟩) ((fwX F m l B x y).length) cap1, .int .i64 (fwL F m l B x y), .int .i64 0], .slice (some ⟨g5, 0, none⟩) ((fwX F m l B x y).length) cap3, .int .i64 (fwL F m l B x y), .int .i64 0, .tuple #[.slice (some ⟨g8, 0, none⟩) ((fwX F m l B x y).length) cap6, .int .i64 (fwL F m l B x y), .int .i64 0], .agg F.cells, .agg F.cells, .int .i64 m, .int .i64 l, .agg #[.int .u64 x, .int .u64 y], .agg #[.int .u64 x, .int .u64 y], .int .i64 B, .tuple #[.slice (some ⟨g7, 0, none⟩) ((fwX F m l B x y).length) cap5, .int .i64 (fwL F m l B x y), .int .i64 0], .slice (some ⟨g9, 0, none⟩) ((fwX F m l B x y).length) cap7, .int .i64 (fwL F m l B x y), .int .i64 0, .slice (some ⟨g10, 0, none⟩) ((fwX F m l B x y).length) cap8, .slice (some ⟨g6, 0, none⟩) ((fwX F m l B x y).length) cap4, .bool true, .bool false, .bool false, .int .i64 (fwL F m l B x y), .int .i64 (fwL F m l B x y), .bool false, .bool false, .bool false, .int .i64 0, .int .i64 0, .bool false, .bool false, .slice (some ⟨g10, 0, none⟩) ((fwX F m l B x y).length) cap8, .int .i64 1, .int .i64 (1 + ((fwX F m l B x y).length : Int)), .slice (some ⟨g10, 0, none⟩) ((fwX F m l B x y).length) cap8, .int .i64 1, .int .i64 (1 + ((fwX F m l B x y).length : Int)), .int .i64 (1 + ((fwX F m l B x y).length : Int)), .bool (decide ((1 + ((fwX F m l B x y).length : Int)) < 0)), .int .i64 (1 + ((fwX F m l B x y).length : Int)), .int .i64 (1 + ((fwX F m l B x y).length : Int)), .bool false, undef, undef, undef, undef, undef, undef, undef, undef, undef, undef, undef, undef, undef, undef, undef, undef, undef, undef, undef, undef, undef, undef, undef, undef, undef, undef, undef, undef, undef, undef, undef, undef, undef, undef], []⟩) (by kernel_rfl) ?_
     replace B1 := (X1.blk ((B1.ext E4).ext E5) q_g1_g10).ext E6
     replace B2 := (X1.blk ((B2.ext E4).ext E5) q_g2_g10).ext E6
     have fx3 := fwX_length (F := F) (w := m) (l := l) (B := B) (tx := x) (ty := y)
     replace B6 := (X1.blk (B6.ext E5) q_g6_g10).ext E6
     replace B10 := B10.ext E6
     refine region_go 15 [72, 73, 74, 75, 76, 77, 78, 79, 71, 80, 81, 82, 19, 20, 21] [[], [0], [], [], [], [4], [], [1, 2, 3, 5, 6], [7], [8], [8], [8], [9], [10], [11]]
      (fun i_ => ([.val (.agg F.cells), .val (.agg F.cells), .val (.int .i64 m), .val (.int .i64 l), .val (.agg #[.int .u64 x, .int .u64 y]), .val (.agg #[.int .u64 x, .int .u64 y]), .val (.int .i64 B), .lstm w7.heap.size 2 .i64 (fwX F m l B x y) (fun v => .tuple #[v, .int .i64 (fwL F m l B x y), .int .i64 0]), .lstm w7.heap.size 2 .i64 (fwX F m l B x y) (fun v => .tuple #[v, .int .i64 (fwL F m l B x y), .int .i64 0]), .lst w7.heap.size 2 .i64 (fwX F m l B x y), .val (.int .i64 (fwL F m l B x y)), .val (.int .i64 0), .lst w7.heap.size 2 .i64 (fwX F m l B x y), .val (.int .i64 (fwL F m l B x y)), .val (.int .i64 0)] : List Fct).getD i_ .any)
      (by kernel_rfl) (by kernel_rfl) (by decide) (by simp) rfl (all_succ (all_succ (all_succ (all_succ (all_succ (all_succ (all_succ (all_succ (all_succ (all_succ (all_succ (all_succ (all_succ (all_succ (all_succ all_zero ?_) ?_) ?_) ?_) ?_) ?_) ?_) ?_) ?_) ?_) ?_) ?_) ?_) ?_) ?_) ?_
     · refine step0 rfl rfl rfl (fun wr hw => ?_)
       with_reducible refine OpRun.row (x := (.tmp 5)) row_laws_Field (B1.ext hw) ?_ ?_ ?_ ?_
       · exact Fld.size_cells _
       · rfl
       · kernel_rfl
       · exact ⟨Ext.refl _, rfl⟩
     · refine step1 rfl rfl rfl rfl (fun u0 wr hw h0 => ?_)
       cases h0
       exact OpRun.call 6 #[.agg F.cells] (by kernel_rfl) ((toField_any F hF _).mono fun e w1 ⟨he, hb⟩ => ⟨_, he, hb, rfl⟩)
     · refine step0 rfl rfl rfl (fun wr hw => ?_)
       exact OpRun.val (.int .i64 m) (.int .i64 m) (by kernel_rfl) rfl ⟨Ext.refl _, rfl⟩
     · refine step0 rfl rfl rfl (fun wr hw => ?_)
       exact OpRun.val (.int .i64 l) (.int .i64 l) (by kernel_rfl) rfl ⟨Ext.refl _, rfl⟩
     · refine step0 rfl rfl rfl (fun wr hw => ?_)
       with_reducible refine OpRun.row (x := (.tmp 8)) row__2_uint64 (B2.ext hw) ?_ ?_ ?_ ?_
       · rfl
       · rfl
       · kernel_rfl
       · exact ⟨Ext.refl _, rfl⟩
     · refine step1 rfl rfl rfl rfl (fun u0 wr hw h0 => ?_)
       cases h0
       exact OpRun.call 13 #[.agg #[.int .u64 x, .int .u64 y]] (by kernel_rfl) ((toCells_any x y _).mono fun e w1 ⟨he, hb⟩ => ⟨_, he, hb, rfl⟩)
     · refine step0 rfl rfl rfl (fun wr hw => ?_)
       exact OpRun.val (.int .i64 B) (.int .i64 B) (by kernel_rfl) rfl ⟨Ext.refl _, rfl⟩
     · refine step5 rfl rfl rfl rfl rfl rfl rfl rfl (fun u0 u1 u2 u3 u4 wr hw h0 h1 h2 h3 h4 => ?_)
       cases h0
       cases h1
       cases h2
       cases h3
       cases h4
       exact OpRun.call 14 #[.agg F.cells, .int .i64 m, .int .i64 l, .agg #[.int .u64 x, .int .u64 y], .int .i64 B] (by kernel_rfl) ((iFewestPlaces_t F hF m l x y B (by assumption) (by assumption) _ (eT h1)).mono fun e w1 ⟨_, _, _, _, he, hb, hs, hE, hg⟩ => by obtain rfl := hs.len; exact ⟨_, he, hE, _, _, _, rfl, Nat.le_trans hw.size hg, hb, hs⟩)
     · refine step1 rfl rfl rfl rfl (fun u0 wr hw h0 => ?_)
       obtain ⟨g11, cap9, cs10, rfl, hgn0, hbn0, S10⟩ := h0
       exact OpRun.val (.tuple #[.slice (some ⟨g11, 0, none⟩) ((fwX F m l B x y).length) cap9, .int .i64 (fwL F m l B x y), .int .i64 0]) (.tuple #[.slice (some ⟨g11, 0, none⟩) ((fwX F m l B x y).length) cap9, .int .i64 (fwL F m l B x y), .int .i64 0]) (by kernel_rfl) rfl ⟨Ext.refl _, g11, cap9, cs10, rfl, hgn0, hbn0, S10⟩
     · refine step1 rfl rfl rfl rfl (fun u0 wr hw h0 => ?_)
       obtain ⟨g12, cap10, cs11, rfl, hgn0, hbn0, S11⟩ := h0
       exact OpRun.val (.slice (some ⟨g12, 0, none⟩) ((fwX F m l B x y).length) cap10) (.slice (some ⟨g12, 0, none⟩) ((fwX F m l B x y).length) cap10) (by kernel_rfl) rfl ⟨Ext.refl _, g12, cap10, cs11, rfl, hgn0, hbn0, S11⟩
     · refine step1 rfl rfl rfl rfl (fun u0 wr hw h0 => ?_)
       obtain ⟨g12, cap10, cs11, rfl, hgn0, hbn0, S11⟩ := h0
       exact OpRun.val (.int .i64 (fwL F m l B x y)) (.int .i64 (fwL F m l B x y)) (by kernel_rfl) rfl ⟨Ext.refl _, rfl⟩
     · refine step1 rfl rfl rfl rfl (fun u0 wr hw h0 => ?_)
       obtain ⟨g12, cap10, cs11, rfl, hgn0, hbn0, S11⟩ := h0
       exact OpRun.val (.int .i64 0) (.int .i64 0) (by kernel_rfl) rfl ⟨Ext.refl _, rfl⟩
     · refine step1 rfl rfl rfl rfl (fun u0 wr hw h0 => ?_)
       obtain ⟨g13, cap11, cs12, rfl, hgn0, hbn0, S12⟩ := h0
       exact OpRun.val (.slice (some ⟨g13, 0, none⟩) ((fwX F m l B x y).length) cap11) (.slice (some ⟨g13, 0, none⟩) ((fwX F m l B x y).length) cap11) (by kernel_rfl) rfl ⟨Ext.refl _, g13, cap11, cs12, rfl, hgn0, hbn0, S12⟩
     · refine step1 rfl rfl rfl rfl (fun u0 wr hw h0 => ?_)
       cases h0
       exact OpRun.val (.int .i64 (fwL F m l B x y)) (.int .i64 (fwL F m l B x y)) (by kernel_rfl) rfl ⟨Ext.refl _, rfl⟩
     · refine step1 rfl rfl rfl rfl (fun u0 wr hw h0 => ?_)
       cases h0
       exact OpRun.val (.int .i64 0) (.int .i64 0) (by kernel_rfl) rfl ⟨Ext.refl _, rfl⟩
     refine end15 (fun u0 u1 u2 u3 u4 u5 u6 u7 u8 u9 u10 u11 u12 u13 u14 w8 E7 f0 f1 f2 f3 f4 f5 f6 f7 f8 f9 f10 f11 f12 f13 f14 => ?_)
     cases f0
     cases f1
     cases f2
     cases f3
     cases f4
     cases f5
     cases f6
     obtain ⟨g11, cap9, cs10, rfl, hg_, B11, S10⟩ := f7
     clear hg_
     obtain ⟨g12, cap10, cs11, rfl, hg_, B12, S11⟩ := f8
     clear hg_
     obtain ⟨g13, cap11, cs12, rfl, hg_, B13, S12⟩ := f9
     clear hg_
     cases f10
     cases f11
     obtain ⟨g14, cap12, cs13, rfl, hg_, B14, S13⟩ := f12
     have q_g1_g14 := Nat.ne_of_lt (Nat.lt_of_lt_of_le B1.lt hg_)
     have q_g2_g14 := Nat.ne_of_lt (Nat.lt_of_lt_of_le B2.lt hg_)
     have q_g6_g14 := Nat.ne_of_lt (Nat.lt_of_lt_of_le B6.lt hg_)
     have q_g10_g14 := Nat.ne_of_lt (Nat.lt_of_lt_of_le B10.lt hg_)
     have lo_g14 := Nat.le_trans (H4).size hg_
     clear hg_
     cases f13
     cases f14
     refine wpList_nil (then_normal ?_)
     refine wp_seq ?_
     refine wsr ?_
     refine wv (.slice (some ⟨g14, 0, none⟩) ((fwX F m l B x y).length) cap12) ?_
     refine wv (.slice (some ⟨g6, 0, none⟩) ((fwX F m l B x y).length) cap4) ?_
     replace B6 := B6.ext E7
     refine wcl (eqInt64S_same (fwX F m l B x y) g14 cap12 cs13 S13 g6 cap4 cs4 S4 (by omega) _ B14 B6) ?_
     intro w9 E8
     refine wv (.bool false) ?_
     refine wv (.bool false) ?_
     refine wv (.int .i64 (fwL F m l B x y)) ?_
     refine wv (.int .i64 (fwL F m l B x y)) ?_
     refine wvv (.bool ((fwL F m l B x y) != (fwL F m l B x y))) (.bool false) (by simp) ?_
     refine wv (.bool false) ?_
     refine wv (.bool false) ?_
     refine wv (.int .i64 0) ?_
     refine wv (.int .i64 0) ?_
     refine wvv (.bool (0 != 0)) (.bool false) (by simp) ?_
     refine wv (.bool false) ?_
     refine wpList_nil (then_normal ?_)
     refine wcf ?_
     refine wp_skip ?_
     refine then_normal ?_
     refine wsr ?_
     refine wv (.int .i64 1) ?_
     refine wpList_nil (then_normal ?_)
     refine wsr ?_
     refine wv (.slice (some ⟨g10, 0, none⟩) ((fwX F m l B x y).length) cap8) ?_
     refine wv (.int .i64 1) ?_
     replace B10 := (B10.ext E7).ext E8
     refine wcl (heldInt64S_any ys1 ((fwX F m l B x y).length) g10 cap8 cs9 S9 1 (by omega) (by omega) hm1.2 _ B10) ?_
     intro w10 E9
     refine wv (.int .i64 (1 + ((fwX F m l B x y).length : Int))) ?_
     refine wpList_nil (then_normal ?_)
     refine wp_frame (a' := ⟨#[.agg F.cells, .int .i64 m, .int .i64 l, .agg #[.int .u64 x, .int .u64 y], .int .i64 B, .pointer (some ⟨g1, 0, none⟩), undef, undef, .pointer (some ⟨g2, 0, none⟩), undef, .bool false, .slice (some ⟨g6, 0, none⟩) ((fwX F m l B x y).length) cap4, .int .i64 (fwL F m l B x y), .int .i64 0, .slice (some ⟨g10, 0, none⟩) ((fwX F m l B x y).length) cap8, .int .i64 (fwL F m l B x y), .int .i64 0, .int .i64 (1 + ((fwX F m l B x y).length : Int)), .int .i64 (1 + ((fwX F m l B x y).length : Int)), .slice (some ⟨g14, 0, none⟩) ((fwX F m l B x y).length) cap12, .int .i64 (fwL F m l B x y), .int .i64 0, .tuple #[.slice (some ⟨g4, 0, none⟩) ((fwX F m l B x y).length) cap2, .int .i64 (fwL F m l B x y), .int .i64 0], .agg F.cells, .agg F.cells, .int .i64 m, .int .i64 l, .agg #[.int .u64 x, .int .u64 y], .agg #[.int .u64 x, .int .u64 y], .int .i64 B, .tuple #[.slice (some ⟨g3, 0, none⟩) ((fwX F m l B x y).length) cap1, .int .i64 (fwL F m l B x y), .int .i64 0], .slice (some ⟨g5, 0, none⟩) ((fwX F m l B x y).length) cap3, .int .i64 (fwL F m l B x y), .int .i64 0, .tuple #[.slice (some ⟨g8, 0, none⟩) ((fwX F m l B x y).length) cap6, .int .i64 (fwL F m l B x y), .int .i64 0], .agg F.cells, .agg F.cells, .int .i64 m, .int .i64 l, .agg #[.int .u64 x, .int .u64 y], .agg #[.int .u64 x, .int .u64 y], .int .i64 B, .tuple #[.slice (some ⟨g7, 0, none⟩) ((fwX F m l B x y).length) cap5, .int .i64 (fwL F m l B x y), .int .i64 0], .slice (some ⟨g9, 0, none⟩) ((fwX F m l B x y).length) cap7, .int .i64 (fwL F m l B x y), .int .i64 0, .slice (some ⟨g10, 0, none⟩) ((fwX F m l B x y).length) cap8, .slice (some ⟨g6, 0, none⟩) ((fwX F m l B x y).length) cap4, .bool true, .bool false, .bool false, .int .i64 (fwL F m l B x y), .int .i64 (fwL F m l B x y), .bool false, .bool false, .bool false, .int .i64 0, .int .i64 0, .bool false, .bool false, .slice (some ⟨g10, 0, none⟩) ((fwX F m l B x y).length) cap8, .int .i64 1, .int .i64 (1 + ((fwX F m l B x y).length : Int)), .slice (some ⟨g10, 0, none⟩) ((fwX F m l B x y).length) cap8, .int .i64 1, .int .i64 (1 + ((fwX F m l B x y).length : Int)), .int .i64 (1 + ((fwX F m l B x y).length : Int)), .bool (decide ((1 + ((fwX F m l B x y).length : Int)) < 0)), .int .i64 (1 + ((fwX F m l B x y).length : Int)), .int .i64 (1 + ((fwX F m l B x y).length : Int)), .bool false, .tuple #[.slice (some ⟨g12, 0, none⟩) ((fwX F m l B x y).length) cap10, .int .i64 (fwL F m l B x y), .int .i64 0], .agg F.cells, .agg F.cells, .int .i64 m, .int .i64 l, .agg #[.int .u64 x, .int .u64 y], .agg #[.int .u64 x, .int .u64 y], .int .i64 B, .tuple #[.slice (some ⟨g11, 0, none⟩) ((fwX F m l B x y).length) cap9, .int .i64 (fwL F m l B x y), .int .i64 0], .slice (some ⟨g13, 0, none⟩) ((fwX F m l B x y).length) cap11, .int .i64 (fwL F m l B x y), .int .i64 0, .slice (some ⟨g14, 0, none⟩) ((fwX F m l B x y).length) cap12, .slice (some ⟨g6, 0, none⟩) ((fwX F m l B x y).length) cap4, .bool true, .bool false, .bool false, .int .i64 (fwL F m l B x y), .int .i64 (fwL F m l B x y), .bool false, .bool false, .bool false, .int .i64 0, .int .i64 0, .bool false, .bool false, .slice (some ⟨g10, 0, none⟩) ((fwX F m l B x y).length) cap8, .int .i64 1, .int .i64 (1 + ((fwX F m l B x y).length : Int)), undef, undef, undef, undef, undef], []⟩) (by kernel_rfl) ?_
     refine wp_seq ?_
     refine wsr ?_
     refine wv (.int .i64 (1 + ((fwX F m l B x y).length : Int))) ?_
     refine wv (.bool (decide ((1 + ((fwX F m l B x y).length : Int)) < 0))) ?_
     refine wbl 101 false h2 ?_
     refine wpList_nil (then_normal ?_)
     refine wcf ?_
     refine wp_skip ?_
     refine then_normal ?_
     refine wp_seq ?_
     refine wsr ?_
     refine wv (.int .i64 (1 + ((fwX F m l B x y).length : Int))) ?_
     refine wv (.int .i64 (1 + ((fwX F m l B x y).length : Int))) ?_
     refine wvv (.bool ((1 + ((fwX F m l B x y).length : Int)) != (1 + ((fwX F m l B x y).length : Int)))) (.bool false) (by simp) ?_
     refine wpList_nil (then_normal ?_)
     refine wcf ?_
     refine wp_skip ?_
     refine then_normal ?_
     refine wsr ?_
     refine wv (.bool true) ?_
     refine wpList_nil (then_normal ?_)
     refine wp_ret ?_
     have H5 := ((H4.trans E7).trans E8).trans E9
     refine ret1 (.bool true) rfl ?_ rfl ?_
     · exact resT (by kernel_rfl)
     exact ⟨rfl, H5⟩
 · skip
   have h1d := eF h1
   refine region_go 15 [23, 24, 25, 26, 27, 28, 29, 30, 22, 31, 32, 33, 11, 12, 13] [[], [0], [], [], [], [4], [], [1, 2, 3, 5, 6], [7], [8], [8], [8], [9], [10], [11]]
    (fun i_ => ([.val (.agg F.cells), .val (.agg F.cells), .val (.int .i64 m), .val (.int .i64 l), .val (.agg #[.int .u64 x, .int .u64 y]), .val (.agg #[.int .u64 x, .int .u64 y]), .val (.int .i64 B), .lstm w2.heap.size 2 .i64 ([] : List Int) (fun v => .tuple #[v, .int .i64 0, .int .i64 (fwK F m l B x y)]), .lstm w2.heap.size 2 .i64 ([] : List Int) (fun v => .tuple #[v, .int .i64 0, .int .i64 (fwK F m l B x y)]), .lst w2.heap.size 2 .i64 ([] : List Int), .val (.int .i64 0), .val (.int .i64 (fwK F m l B x y)), .lst w2.heap.size 2 .i64 ([] : List Int), .val (.int .i64 0), .val (.int .i64 (fwK F m l B x y))] : List Fct).getD i_ .any)
    (by kernel_rfl) (by kernel_rfl) (by decide) (by simp) rfl (all_succ (all_succ (all_succ (all_succ (all_succ (all_succ (all_succ (all_succ (all_succ (all_succ (all_succ (all_succ (all_succ (all_succ (all_succ all_zero ?_) ?_) ?_) ?_) ?_) ?_) ?_) ?_) ?_) ?_) ?_) ?_) ?_) ?_) ?_) ?_
   · refine step0 rfl rfl rfl (fun wr hw => ?_)
     with_reducible refine OpRun.row (x := (.tmp 5)) row_laws_Field (B1.ext hw) ?_ ?_ ?_ ?_
     · exact Fld.size_cells _
     · rfl
     · kernel_rfl
     · exact ⟨Ext.refl _, rfl⟩
   · refine step1 rfl rfl rfl rfl (fun u0 wr hw h0 => ?_)
     cases h0
     exact OpRun.call 6 #[.agg F.cells] (by kernel_rfl) ((toField_any F hF _).mono fun e w1 ⟨he, hb⟩ => ⟨_, he, hb, rfl⟩)
   · refine step0 rfl rfl rfl (fun wr hw => ?_)
     exact OpRun.val (.int .i64 m) (.int .i64 m) (by kernel_rfl) rfl ⟨Ext.refl _, rfl⟩
   · refine step0 rfl rfl rfl (fun wr hw => ?_)
     exact OpRun.val (.int .i64 l) (.int .i64 l) (by kernel_rfl) rfl ⟨Ext.refl _, rfl⟩
   · refine step0 rfl rfl rfl (fun wr hw => ?_)
     with_reducible refine OpRun.row (x := (.tmp 8)) row__2_uint64 (B2.ext hw) ?_ ?_ ?_ ?_
     · rfl
     · rfl
     · kernel_rfl
     · exact ⟨Ext.refl _, rfl⟩
   · refine step1 rfl rfl rfl rfl (fun u0 wr hw h0 => ?_)
     cases h0
     exact OpRun.call 13 #[.agg #[.int .u64 x, .int .u64 y]] (by kernel_rfl) ((toCells_any x y _).mono fun e w1 ⟨he, hb⟩ => ⟨_, he, hb, rfl⟩)
   · refine step0 rfl rfl rfl (fun wr hw => ?_)
     exact OpRun.val (.int .i64 B) (.int .i64 B) (by kernel_rfl) rfl ⟨Ext.refl _, rfl⟩
   · refine step5 rfl rfl rfl rfl rfl rfl rfl rfl (fun u0 u1 u2 u3 u4 wr hw h0 h1 h2 h3 h4 => ?_)
     cases h0
     cases h1
     cases h2
     cases h3
     cases h4
     exact OpRun.call 12 #[.agg F.cells, .int .i64 m, .int .i64 l, .agg #[.int .u64 x, .int .u64 y], .int .i64 B] (by kernel_rfl) ((sFewestPlaces_f F hF m l x y B (by assumption) (by assumption) _ (eF h1)).mono fun e w1 ⟨_, _, _, _, he, hb, hs, hE, hg⟩ => by obtain rfl := hs.len; exact ⟨_, he, hE, _, _, _, rfl, Nat.le_trans hw.size hg, hb, hs⟩)
   · refine step1 rfl rfl rfl rfl (fun u0 wr hw h0 => ?_)
     obtain ⟨g15, cap13, cs14, rfl, hgn0, hbn0, S14⟩ := h0
     exact OpRun.val (.tuple #[.slice (some ⟨g15, 0, none⟩) (([] : List Int).length) cap13, .int .i64 0, .int .i64 (fwK F m l B x y)]) (.tuple #[.slice (some ⟨g15, 0, none⟩) (([] : List Int).length) cap13, .int .i64 0, .int .i64 (fwK F m l B x y)]) (by kernel_rfl) rfl ⟨Ext.refl _, g15, cap13, cs14, rfl, hgn0, hbn0, S14⟩
   · refine step1 rfl rfl rfl rfl (fun u0 wr hw h0 => ?_)
     obtain ⟨g16, cap14, cs15, rfl, hgn0, hbn0, S15⟩ := h0
     exact OpRun.val (.slice (some ⟨g16, 0, none⟩) (([] : List Int).length) cap14) (.slice (some ⟨g16, 0, none⟩) (([] : List Int).length) cap14) (by kernel_rfl) rfl ⟨Ext.refl _, g16, cap14, cs15, rfl, hgn0, hbn0, S15⟩
   · refine step1 rfl rfl rfl rfl (fun u0 wr hw h0 => ?_)
     obtain ⟨g16, cap14, cs15, rfl, hgn0, hbn0, S15⟩ := h0
     exact OpRun.val (.int .i64 0) (.int .i64 0) (by kernel_rfl) rfl ⟨Ext.refl _, rfl⟩
   · refine step1 rfl rfl rfl rfl (fun u0 wr hw h0 => ?_)
     obtain ⟨g16, cap14, cs15, rfl, hgn0, hbn0, S15⟩ := h0
     exact OpRun.val (.int .i64 (fwK F m l B x y)) (.int .i64 (fwK F m l B x y)) (by kernel_rfl) rfl ⟨Ext.refl _, rfl⟩
   · refine step1 rfl rfl rfl rfl (fun u0 wr hw h0 => ?_)
     obtain ⟨g17, cap15, cs16, rfl, hgn0, hbn0, S16⟩ := h0
     exact OpRun.val (.slice (some ⟨g17, 0, none⟩) (([] : List Int).length) cap15) (.slice (some ⟨g17, 0, none⟩) (([] : List Int).length) cap15) (by kernel_rfl) rfl ⟨Ext.refl _, g17, cap15, cs16, rfl, hgn0, hbn0, S16⟩
   · refine step1 rfl rfl rfl rfl (fun u0 wr hw h0 => ?_)
     cases h0
     exact OpRun.val (.int .i64 0) (.int .i64 0) (by kernel_rfl) rfl ⟨Ext.refl _, rfl⟩
   · refine step1 rfl rfl rfl rfl (fun u0 wr hw h0 => ?_)
     cases h0
     exact OpRun.val (.int .i64 (fwK F m l B x y)) (.int .i64 (fwK F m l B x y)) (by kernel_rfl) rfl ⟨Ext.refl _, rfl⟩
   refine end15 (fun u0 u1 u2 u3 u4 u5 u6 u7 u8 u9 u10 u11 u12 u13 u14 w11 E10 f0 f1 f2 f3 f4 f5 f6 f7 f8 f9 f10 f11 f12 f13 f14 => ?_)
   cases f0
   cases f1
   cases f2
   cases f3
   cases f4
   cases f5
   cases f6
   obtain ⟨g15, cap13, cs14, rfl, hg_, B15, S14⟩ := f7
   clear hg_
   obtain ⟨g16, cap14, cs15, rfl, hg_, B16, S15⟩ := f8
   clear hg_
   obtain ⟨g17, cap15, cs16, rfl, hg_, B17, S16⟩ := f9
   clear hg_
   cases f10
   cases f11
   obtain ⟨g18, cap16, cs17, rfl, hg_, B18, S17⟩ := f12
   have q_g1_g18 := Nat.ne_of_lt (Nat.lt_of_lt_of_le B1.lt hg_)
   have q_g2_g18 := Nat.ne_of_lt (Nat.lt_of_lt_of_le B2.lt hg_)
   have lo_g18 := Nat.le_trans (H2).size hg_
   clear hg_
   cases f13
   cases f14
   refine wpList_nil (then_normal ?_)
   refine wp_seq ?_
   refine wp_frame (a' := ⟨#[.agg F.cells, .int .i64 m, .int .i64 l, .agg #[.int .u64 x, .int .u64 y], .int .i64 B, .pointer (some ⟨g1, 0, none⟩), undef, undef, .pointer (some ⟨g2, 0, none⟩), undef, .bool false, .slice (some ⟨g18, 0, none⟩) (([] : List Int).length) cap16, .int .i64 0, .int .i64 (fwK F m l B x y), undef, undef, undef, undef, undef, undef, undef, undef, .tuple #[.slice (some ⟨g16, 0, none⟩) (([] : List Int).length) cap14, .int .i64 0, .int .i64 (fwK F m l B x y)], .agg F.cells, .agg F.cells, .int .i64 m, .int .i64 l, .agg #[.int .u64 x, .int .u64 y], .agg #[.int .u64 x, .int .u64 y], .int .i64 B, .tuple #[.slice (some ⟨g15, 0, none⟩) (([] : List Int).length) cap13, .int .i64 0, .int .i64 (fwK F m l B x y)], .slice (some ⟨g17, 0, none⟩) (([] : List Int).length) cap15, .int .i64 0, .int .i64 (fwK F m l B x y), undef, undef, undef, undef, undef, undef, undef, undef, undef, undef, undef, undef, undef, undef, undef, undef, undef, undef, undef, undef, undef, undef, undef, undef, undef, undef, undef, undef, undef, undef, undef, undef, undef, undef, undef, undef, undef, undef, undef, undef, undef, undef, undef, undef, undef, undef, undef, undef, undef, undef, undef, undef, undef, undef, undef, undef, undef, undef, undef, undef, undef, undef, undef, undef, undef, undef, undef, undef, undef, undef, undef], []⟩) (by kernel_rfl) ?_
   replace B1 := B1.ext E10
   replace B2 := B2.ext E10
   refine region_go 15 [35, 36, 37, 38, 39, 40, 41, 42, 34, 43, 44, 45, 14, 15, 16] [[], [0], [], [], [], [4], [], [1, 2, 3, 5, 6], [7], [8], [8], [8], [9], [10], [11]]
    (fun i_ => ([.val (.agg F.cells), .val (.agg F.cells), .val (.int .i64 m), .val (.int .i64 l), .val (.agg #[.int .u64 x, .int .u64 y]), .val (.agg #[.int .u64 x, .int .u64 y]), .val (.int .i64 B), .val (.tuple #[.slice none 0 0, .int .i64 0, .int .i64 (fwK F m l B x y)]), .val (.tuple #[.slice none 0 0, .int .i64 0, .int .i64 (fwK F m l B x y)]), .val (.slice none 0 0), .val (.int .i64 0), .val (.int .i64 (fwK F m l B x y)), .val (.slice none 0 0), .val (.int .i64 0), .val (.int .i64 (fwK F m l B x y))] : List Fct).getD i_ .any)
    (by kernel_rfl) (by kernel_rfl) (by decide) (by simp) rfl (all_succ (all_succ (all_succ (all_succ (all_succ (all_succ (all_succ (all_succ (all_succ (all_succ (all_succ (all_succ (all_succ (all_succ (all_succ all_zero ?_) ?_) ?_) ?_) ?_) ?_) ?_) ?_) ?_) ?_) ?_) ?_) ?_) ?_) ?_) ?_
   · refine step0 rfl rfl rfl (fun wr hw => ?_)
     with_reducible refine OpRun.row (x := (.tmp 5)) row_laws_Field (B1.ext hw) ?_ ?_ ?_ ?_
     · exact Fld.size_cells _
     · rfl
     · kernel_rfl
     · exact ⟨Ext.refl _, rfl⟩
   · refine step1 rfl rfl rfl rfl (fun u0 wr hw h0 => ?_)
     cases h0
     exact OpRun.call 6 #[.agg F.cells] (by kernel_rfl) ((toField_any F hF _).mono fun e w1 ⟨he, hb⟩ => ⟨_, he, hb, rfl⟩)
   · refine step0 rfl rfl rfl (fun wr hw => ?_)
     exact OpRun.val (.int .i64 m) (.int .i64 m) (by kernel_rfl) rfl ⟨Ext.refl _, rfl⟩
   · refine step0 rfl rfl rfl (fun wr hw => ?_)
     exact OpRun.val (.int .i64 l) (.int .i64 l) (by kernel_rfl) rfl ⟨Ext.refl _, rfl⟩
   · refine step0 rfl rfl rfl (fun wr hw => ?_)
     with_reducible refine OpRun.row (x := (.tmp 8)) row__2_uint64 (B2.ext hw) ?_ ?_ ?_ ?_
     · rfl
     · rfl
     · kernel_rfl
     · exact ⟨Ext.refl _, rfl⟩
   · refine step1 rfl rfl rfl rfl (fun u0 wr hw h0 => ?_)
     cases h0
     exact OpRun.call 13 #[.agg #[.int .u64 x, .int .u64 y]] (by kernel_rfl) ((toCells_any x y _).mono fun e w1 ⟨he, hb⟩ => ⟨_, he, hb, rfl⟩)
   · refine step0 rfl rfl rfl (fun wr hw => ?_)
     exact OpRun.val (.int .i64 B) (.int .i64 B) (by kernel_rfl) rfl ⟨Ext.refl _, rfl⟩
   · refine step5 rfl rfl rfl rfl rfl rfl rfl rfl (fun u0 u1 u2 u3 u4 wr hw h0 h1 h2 h3 h4 => ?_)
     cases h0
     cases h1
     cases h2
     cases h3
     cases h4
     exact OpRun.call 14 #[.agg F.cells, .int .i64 m, .int .i64 l, .agg #[.int .u64 x, .int .u64 y], .int .i64 B] (by kernel_rfl) ((iFewestPlaces_f F hF m l x y B (by assumption) (by assumption) _ (eF h1)).mono fun e w1 ⟨he, hb⟩ => ⟨_, he, hb, rfl⟩)
   · refine step1 rfl rfl rfl rfl (fun u0 wr hw h0 => ?_)
     cases h0
     exact OpRun.val (.tuple #[.slice none 0 0, .int .i64 0, .int .i64 (fwK F m l B x y)]) (.tuple #[.slice none 0 0, .int .i64 0, .int .i64 (fwK F m l B x y)]) (by kernel_rfl) rfl ⟨Ext.refl _, rfl⟩
   · refine step1 rfl rfl rfl rfl (fun u0 wr hw h0 => ?_)
     cases h0
     exact OpRun.val (.slice none 0 0) (.slice none 0 0) (by kernel_rfl) rfl ⟨Ext.refl _, rfl⟩
   · refine step1 rfl rfl rfl rfl (fun u0 wr hw h0 => ?_)
     cases h0
     exact OpRun.val (.int .i64 0) (.int .i64 0) (by kernel_rfl) rfl ⟨Ext.refl _, rfl⟩
   · refine step1 rfl rfl rfl rfl (fun u0 wr hw h0 => ?_)
     cases h0
     exact OpRun.val (.int .i64 (fwK F m l B x y)) (.int .i64 (fwK F m l B x y)) (by kernel_rfl) rfl ⟨Ext.refl _, rfl⟩
   · refine step1 rfl rfl rfl rfl (fun u0 wr hw h0 => ?_)
     cases h0
     exact OpRun.val (.slice none 0 0) (.slice none 0 0) (by kernel_rfl) rfl ⟨Ext.refl _, rfl⟩
   · refine step1 rfl rfl rfl rfl (fun u0 wr hw h0 => ?_)
     cases h0
     exact OpRun.val (.int .i64 0) (.int .i64 0) (by kernel_rfl) rfl ⟨Ext.refl _, rfl⟩
   · refine step1 rfl rfl rfl rfl (fun u0 wr hw h0 => ?_)
     cases h0
     exact OpRun.val (.int .i64 (fwK F m l B x y)) (.int .i64 (fwK F m l B x y)) (by kernel_rfl) rfl ⟨Ext.refl _, rfl⟩
   refine end15 (fun u0 u1 u2 u3 u4 u5 u6 u7 u8 u9 u10 u11 u12 u13 u14 w12 E11 f0 f1 f2 f3 f4 f5 f6 f7 f8 f9 f10 f11 f12 f13 f14 => ?_)
   cases f0
   cases f1
   cases f2
   cases f3
   cases f4
   cases f5
   cases f6
   cases f7
   cases f8
   cases f9
   cases f10
   cases f11
   cases f12
   cases f13
   cases f14
   refine wpList_nil (then_normal ?_)
   refine wp_seq ?_
   refine wsr ?_
   refine wv (.slice none 0 0) ?_
   refine wv (.slice (some ⟨g18, 0, none⟩) (([] : List Int).length) cap16) ?_
   replace B18 := B18.ext E11
   refine wcl (eqInt64S_nil g18 cap16 _) ?_
   intro w13 E12
   refine wv (.bool false) ?_
   refine wv (.bool false) ?_
   refine wv (.int .i64 0) ?_
   refine wv (.int .i64 0) ?_
   refine wvv (.bool (0 != 0)) (.bool false) (by simp) ?_
   refine wv (.bool false) ?_
   refine wv (.bool false) ?_
   refine wv (.int .i64 (fwK F m l B x y)) ?_
   refine wv (.int .i64 (fwK F m l B x y)) ?_
   refine wvv (.bool ((fwK F m l B x y) != (fwK F m l B x y))) (.bool false) (by simp) ?_
   refine wv (.bool false) ?_
   refine wpList_nil (then_normal ?_)
   refine wcf ?_
   refine wp_skip ?_
   refine then_normal ?_
   refine wsr ?_
   refine wv (.int .i64 1) ?_
   refine wpList_nil (then_normal ?_)
   refine wsr ?_
   refine wv (.slice none 0 0) ?_
   refine wv (.int .i64 1) ?_
   refine wcl (markInt64S_nil 1 _) ?_
   intro w14 E13
   refine wv (.int .i64 1) ?_
   refine wpList_nil (then_normal ?_)
   refine wp_frame (a' := ⟨#[.agg F.cells, .int .i64 m, .int .i64 l, .agg #[.int .u64 x, .int .u64 y], .int .i64 B, .pointer (some ⟨g1, 0, none⟩), undef, undef, .pointer (some ⟨g2, 0, none⟩), undef, .bool false, .slice (some ⟨g18, 0, none⟩) (([] : List Int).length) cap16, .int .i64 0, .int .i64 (fwK F m l B x y), .slice none 0 0, .int .i64 0, .int .i64 (fwK F m l B x y), .int .i64 1, undef, undef, undef, undef, .tuple #[.slice (some ⟨g16, 0, none⟩) (([] : List Int).length) cap14, .int .i64 0, .int .i64 (fwK F m l B x y)], .agg F.cells, .agg F.cells, .int .i64 m, .int .i64 l, .agg #[.int .u64 x, .int .u64 y], .agg #[.int .u64 x, .int .u64 y], .int .i64 B, .tuple #[.slice (some ⟨g15, 0, none⟩) (([] : List Int).length) cap13, .int .i64 0, .int .i64 (fwK F m l B x y)], .slice (some ⟨g17, 0, none⟩) (([] : List Int).length) cap15, .int .i64 0, .int .i64 (fwK F m l B x y), .tuple #[.slice none 0 0, .int .i64 0, .int .i64 (fwK F m l B x y)], .agg F.cells, .agg F.cells, .int .i64 m, .int .i64 l, .agg #[.int .u64 x, .int .u64 y], .agg #[.int .u64 x, .int .u64 y], .int .i64 B, .tuple #[.slice none 0 0, .int .i64 0, .int .i64 (fwK F m l B x y)], .slice none 0 0, .int .i64 0, .int .i64 (fwK F m l B x y), .slice none 0 0, .slice (some ⟨g18, 0, none⟩) (([] : List Int).length) cap16, .bool true, .bool false, .bool false, .int .i64 0, .int .i64 0, .bool false, .bool false, .bool false, .int .i64 (fwK F m l B x y), .int .i64 (fwK F m l B x y), .bool false, .bool false, .slice none 0 0, .int .i64 1, .int .i64 1, undef, undef, undef, undef, undef, undef, undef, undef, undef, undef, undef, undef, undef, undef, undef, undef, undef, undef, undef, undef, undef, undef, undef, undef, undef, undef, undef, undef, undef, undef, undef, undef, undef, undef, undef, undef, undef, undef, undef, undef, undef, undef], []⟩) (by kernel_rfl) ?_
   refine wsr ?_
   refine wv (.int .i64 1) ?_
   refine wpList_nil (then_normal ?_)
   refine wsr ?_
   refine wv (.slice none 0 0) ?_
   refine wv (.int .i64 1) ?_
   refine wcl (heldInt64S_nil 1 _) ?_
   intro w15 E14
   refine wv (.int .i64 1) ?_
   refine wpList_nil (then_normal ?_)
   refine wp_seq ?_
   refine wsr ?_
   refine wv (.int .i64 1) ?_
   refine wv (.bool false) ?_
   refine wpList_nil (then_normal ?_)
   refine wcf ?_
   refine wp_skip ?_
   refine then_normal ?_
   refine wp_seq ?_
   refine wsr ?_
   refine wv (.int .i64 1) ?_
   refine wv (.int .i64 1) ?_
   refine wvv (.bool (1 != 1)) (.bool false) (by simp) ?_
   refine wpList_nil (then_normal ?_)
   refine wcf ?_
   refine wp_skip ?_
   refine then_normal ?_
   refine wp_seq ?_
   refine wp_frame (a' := ⟨#[.agg F.cells, .int .i64 m, .int .i64 l, .agg #[.int .u64 x, .int .u64 y], .int .i64 B, .pointer (some ⟨g1, 0, none⟩), undef, undef, .pointer (some ⟨g2, 0, none⟩), undef, .bool false, .slice (some ⟨g18, 0, none⟩) (([] : List Int).length) cap16, .int .i64 0, .int .i64 (fwK F m l B x y), .slice none 0 0, .int .i64 0, .int .i64 (fwK F m l B x y), .int .i64 1, .int .i64 1, undef, undef, undef, .tuple #[.slice (some ⟨g16, 0, none⟩) (([] : List Int).length) cap14, .int .i64 0, .int .i64 (fwK F m l B x y)], .agg F.cells, .agg F.cells, .int .i64 m, .int .i64 l, .agg #[.int .u64 x, .int .u64 y], .agg #[.int .u64 x, .int .u64 y], .int .i64 B, .tuple #[.slice (some ⟨g15, 0, none⟩) (([] : List Int).length) cap13, .int .i64 0, .int .i64 (fwK F m l B x y)], .slice (some ⟨g17, 0, none⟩) (([] : List Int).length) cap15, .int .i64 0, .int .i64 (fwK F m l B x y), .tuple #[.slice none 0 0, .int .i64 0, .int .i64 (fwK F m l B x y)], .agg F.cells, .agg F.cells, .int .i64 m, .int .i64 l, .agg #[.int .u64 x, .int .u64 y], .agg #[.int .u64 x, .int .u64 y], .int .i64 B, .tuple #[.slice none 0 0, .int .i64 0, .int .i64 (fwK F m l B x y)], .slice none 0 0, .int .i64 0, .int .i64 (fwK F m l B x y), .slice none 0 0, .slice (some ⟨g18, 0, none⟩) (([] : List Int).length) cap16, .bool true, .bool false, .bool false, .int .i64 0, .int .i64 0, .bool false, .bool false, .bool false, .int .i64 (fwK F m l B x y), .int .i64 (fwK F m l B x y), .bool false, .bool false, .slice none 0 0, .int .i64 1, .int .i64 1, .slice none 0 0, .int .i64 1, .int .i64 1, .int .i64 1, .bool false, .int .i64 1, .int .i64 1, .bool false, undef, undef, undef, undef, undef, undef, undef, undef, undef, undef, undef, undef, undef, undef, undef, undef, undef, undef, undef, undef, undef, undef, undef, undef, undef, undef, undef, undef, undef, undef, undef, undef, undef, undef], []⟩) (by kernel_rfl) ?_
   replace B1 := (((B1.ext E11).ext E12).ext E13).ext E14
   replace B2 := (((B2.ext E11).ext E12).ext E13).ext E14
   refine region_go 15 [72, 73, 74, 75, 76, 77, 78, 79, 71, 80, 81, 82, 19, 20, 21] [[], [0], [], [], [], [4], [], [1, 2, 3, 5, 6], [7], [8], [8], [8], [9], [10], [11]]
    (fun i_ => ([.val (.agg F.cells), .val (.agg F.cells), .val (.int .i64 m), .val (.int .i64 l), .val (.agg #[.int .u64 x, .int .u64 y]), .val (.agg #[.int .u64 x, .int .u64 y]), .val (.int .i64 B), .val (.tuple #[.slice none 0 0, .int .i64 0, .int .i64 (fwK F m l B x y)]), .val (.tuple #[.slice none 0 0, .int .i64 0, .int .i64 (fwK F m l B x y)]), .val (.slice none 0 0), .val (.int .i64 0), .val (.int .i64 (fwK F m l B x y)), .val (.slice none 0 0), .val (.int .i64 0), .val (.int .i64 (fwK F m l B x y))] : List Fct).getD i_ .any)
    (by kernel_rfl) (by kernel_rfl) (by decide) (by simp) rfl (all_succ (all_succ (all_succ (all_succ (all_succ (all_succ (all_succ (all_succ (all_succ (all_succ (all_succ (all_succ (all_succ (all_succ (all_succ all_zero ?_) ?_) ?_) ?_) ?_) ?_) ?_) ?_) ?_) ?_) ?_) ?_) ?_) ?_) ?_) ?_
   · refine step0 rfl rfl rfl (fun wr hw => ?_)
     with_reducible refine OpRun.row (x := (.tmp 5)) row_laws_Field (B1.ext hw) ?_ ?_ ?_ ?_
     · exact Fld.size_cells _
     · rfl
     · kernel_rfl
     · exact ⟨Ext.refl _, rfl⟩
   · refine step1 rfl rfl rfl rfl (fun u0 wr hw h0 => ?_)
     cases h0
     exact OpRun.call 6 #[.agg F.cells] (by kernel_rfl) ((toField_any F hF _).mono fun e w1 ⟨he, hb⟩ => ⟨_, he, hb, rfl⟩)
   · refine step0 rfl rfl rfl (fun wr hw => ?_)
     exact OpRun.val (.int .i64 m) (.int .i64 m) (by kernel_rfl) rfl ⟨Ext.refl _, rfl⟩
   · refine step0 rfl rfl rfl (fun wr hw => ?_)
     exact OpRun.val (.int .i64 l) (.int .i64 l) (by kernel_rfl) rfl ⟨Ext.refl _, rfl⟩
   · refine step0 rfl rfl rfl (fun wr hw => ?_)
     with_reducible refine OpRun.row (x := (.tmp 8)) row__2_uint64 (B2.ext hw) ?_ ?_ ?_ ?_
     · rfl
     · rfl
     · kernel_rfl
     · exact ⟨Ext.refl _, rfl⟩
   · refine step1 rfl rfl rfl rfl (fun u0 wr hw h0 => ?_)
     cases h0
     exact OpRun.call 13 #[.agg #[.int .u64 x, .int .u64 y]] (by kernel_rfl) ((toCells_any x y _).mono fun e w1 ⟨he, hb⟩ => ⟨_, he, hb, rfl⟩)
   · refine step0 rfl rfl rfl (fun wr hw => ?_)
     exact OpRun.val (.int .i64 B) (.int .i64 B) (by kernel_rfl) rfl ⟨Ext.refl _, rfl⟩
   · refine step5 rfl rfl rfl rfl rfl rfl rfl rfl (fun u0 u1 u2 u3 u4 wr hw h0 h1 h2 h3 h4 => ?_)
     cases h0
     cases h1
     cases h2
     cases h3
     cases h4
     exact OpRun.call 14 #[.agg F.cells, .int .i64 m, .int .i64 l, .agg #[.int .u64 x, .int .u64 y], .int .i64 B] (by kernel_rfl) ((iFewestPlaces_f F hF m l x y B (by assumption) (by assumption) _ (eF h1)).mono fun e w1 ⟨he, hb⟩ => ⟨_, he, hb, rfl⟩)
   · refine step1 rfl rfl rfl rfl (fun u0 wr hw h0 => ?_)
     cases h0
     exact OpRun.val (.tuple #[.slice none 0 0, .int .i64 0, .int .i64 (fwK F m l B x y)]) (.tuple #[.slice none 0 0, .int .i64 0, .int .i64 (fwK F m l B x y)]) (by kernel_rfl) rfl ⟨Ext.refl _, rfl⟩
   · refine step1 rfl rfl rfl rfl (fun u0 wr hw h0 => ?_)
     cases h0
     exact OpRun.val (.slice none 0 0) (.slice none 0 0) (by kernel_rfl) rfl ⟨Ext.refl _, rfl⟩
   · refine step1 rfl rfl rfl rfl (fun u0 wr hw h0 => ?_)
     cases h0
     exact OpRun.val (.int .i64 0) (.int .i64 0) (by kernel_rfl) rfl ⟨Ext.refl _, rfl⟩
   · refine step1 rfl rfl rfl rfl (fun u0 wr hw h0 => ?_)
     cases h0
     exact OpRun.val (.int .i64 (fwK F m l B x y)) (.int .i64 (fwK F m l B x y)) (by kernel_rfl) rfl ⟨Ext.refl _, rfl⟩
   · refine step1 rfl rfl rfl rfl (fun u0 wr hw h0 => ?_)
     cases h0
     exact OpRun.val (.slice none 0 0) (.slice none 0 0) (by kernel_rfl) rfl ⟨Ext.refl _, rfl⟩
   · refine step1 rfl rfl rfl rfl (fun u0 wr hw h0 => ?_)
     cases h0
     exact OpRun.val (.int .i64 0) (.int .i64 0) (by kernel_rfl) rfl ⟨Ext.refl _, rfl⟩
   · refine step1 rfl rfl rfl rfl (fun u0 wr hw h0 => ?_)
     cases h0
     exact OpRun.val (.int .i64 (fwK F m l B x y)) (.int .i64 (fwK F m l B x y)) (by kernel_rfl) rfl ⟨Ext.refl _, rfl⟩
   refine end15 (fun u0 u1 u2 u3 u4 u5 u6 u7 u8 u9 u10 u11 u12 u13 u14 w16 E15 f0 f1 f2 f3 f4 f5 f6 f7 f8 f9 f10 f11 f12 f13 f14 => ?_)
   cases f0
   cases f1
   cases f2
   cases f3
   cases f4
   cases f5
   cases f6
   cases f7
   cases f8
   cases f9
   cases f10
   cases f11
   cases f12
   cases f13
   cases f14
   refine wpList_nil (then_normal ?_)
   refine wp_seq ?_
   refine wsr ?_
   refine wv (.slice none 0 0) ?_
   refine wv (.slice (some ⟨g18, 0, none⟩) (([] : List Int).length) cap16) ?_
   replace B18 := (((B18.ext E12).ext E13).ext E14).ext E15
   refine wcl (eqInt64S_nil g18 cap16 _) ?_
   intro w17 E16
   refine wv (.bool false) ?_
   refine wv (.bool false) ?_
   refine wv (.int .i64 0) ?_
   refine wv (.int .i64 0) ?_
   refine wvv (.bool (0 != 0)) (.bool false) (by simp) ?_
   refine wv (.bool false) ?_
   refine wv (.bool false) ?_
   refine wv (.int .i64 (fwK F m l B x y)) ?_
   refine wv (.int .i64 (fwK F m l B x y)) ?_
   refine wvv (.bool ((fwK F m l B x y) != (fwK F m l B x y))) (.bool false) (by simp) ?_
   refine wv (.bool false) ?_
   refine wpList_nil (then_normal ?_)
   refine wcf ?_
   refine wp_skip ?_
   refine then_normal ?_
   refine wsr ?_
   refine wv (.int .i64 1) ?_
   refine wpList_nil (then_normal ?_)
   refine wsr ?_
   refine wv (.slice none 0 0) ?_
   refine wv (.int .i64 1) ?_
   refine wcl (heldInt64S_nil 1 _) ?_
   intro w18 E17
   refine wv (.int .i64 1) ?_
   refine wpList_nil (then_normal ?_)
   refine wp_frame (a' := ⟨#[.agg F.cells, .int .i64 m, .int .i64 l, .agg #[.int .u64 x, .int .u64 y], .int .i64 B, .pointer (some ⟨g1, 0, none⟩), undef, undef, .pointer (some ⟨g2, 0, none⟩), undef, .bool false, .slice (some ⟨g18, 0, none⟩) (([] : List Int).length) cap16, .int .i64 0, .int .i64 (fwK F m l B x y), .slice none 0 0, .int .i64 0, .int .i64 (fwK F m l B x y), .int .i64 1, .int .i64 1, .slice none 0 0, .int .i64 0, .int .i64 (fwK F m l B x y), .tuple #[.slice (some ⟨g16, 0, none⟩) (([] : List Int).length) cap14, .int .i64 0, .int .i64 (fwK F m l B x y)], .agg F.cells, .agg F.cells, .int .i64 m, .int .i64 l, .agg #[.int .u64 x, .int .u64 y], .agg #[.int .u64 x, .int .u64 y], .int .i64 B, .tuple #[.slice (some ⟨g15, 0, none⟩) (([] : List Int).length) cap13, .int .i64 0, .int .i64 (fwK F m l B x y)], .slice (some ⟨g17, 0, none⟩) (([] : List Int).length) cap15, .int .i64 0, .int .i64 (fwK F m l B x y), .tuple #[.slice none 0 0, .int .i64 0, .int .i64 (fwK F m l B x y)], .agg F.cells, .agg F.cells, .int .i64 m, .int .i64 l, .agg #[.int .u64 x, .int .u64 y], .agg #[.int .u64 x, .int .u64 y], .int .i64 B, .tuple #[.slice none 0 0, .int .i64 0, .int .i64 (fwK F m l B x y)], .slice none 0 0, .int .i64 0, .int .i64 (fwK F m l B x y), .slice none 0 0, .slice (some ⟨g18, 0, none⟩) (([] : List Int).length) cap16, .bool true, .bool false, .bool false, .int .i64 0, .int .i64 0, .bool false, .bool false, .bool false, .int .i64 (fwK F m l B x y), .int .i64 (fwK F m l B x y), .bool false, .bool false, .slice none 0 0, .int .i64 1, .int .i64 1, .slice none 0 0, .int .i64 1, .int .i64 1, .int .i64 1, .bool false, .int .i64 1, .int .i64 1, .bool false, .tuple #[.slice none 0 0, .int .i64 0, .int .i64 (fwK F m l B x y)], .agg F.cells, .agg F.cells, .int .i64 m, .int .i64 l, .agg #[.int .u64 x, .int .u64 y], .agg #[.int .u64 x, .int .u64 y], .int .i64 B, .tuple #[.slice none 0 0, .int .i64 0, .int .i64 (fwK F m l B x y)], .slice none 0 0, .int .i64 0, .int .i64 (fwK F m l B x y), .slice none 0 0, .slice (some ⟨g18, 0, none⟩) (([] : List Int).length) cap16, .bool true, .bool false, .bool false, .int .i64 0, .int .i64 0, .bool false, .bool false, .bool false, .int .i64 (fwK F m l B x y), .int .i64 (fwK F m l B x y), .bool false, .bool false, .slice none 0 0, .int .i64 1, .int .i64 1, undef, undef, undef, undef, undef], []⟩) (by kernel_rfl) ?_
   refine wp_seq ?_
   refine wsr ?_
   refine wv (.int .i64 1) ?_
   refine wv (.bool false) ?_
   refine wpList_nil (then_normal ?_)
   refine wcf ?_
   refine wp_skip ?_
   refine then_normal ?_
   refine wp_seq ?_
   refine wsr ?_
   refine wv (.int .i64 1) ?_
   refine wv (.int .i64 1) ?_
   refine wvv (.bool (1 != 1)) (.bool false) (by simp) ?_
   refine wpList_nil (then_normal ?_)
   refine wcf ?_
   refine wp_skip ?_
   refine then_normal ?_
   refine wsr ?_
   refine wv (.bool true) ?_
   refine wpList_nil (then_normal ?_)
   refine wp_ret ?_
   have H6 := (((((((H2.trans E10).trans E11).trans E12).trans E13).trans E14).trans E15).trans E16).trans E17
   refine ret1 (.bool true) rfl ?_ rfl ?_
   · exact resT (by kernel_rfl)
   exact ⟨rfl, H6⟩
end
--# row FnExactFewestPlaces
set_option maxRecDepth 100000 in
theorem fnExactFewestPlaces_lifted (os : Os) (started : os.Started) (H : Type) (enc : TypeId × Value → H) :
    ReturnsInHanded {} Try.checked os 4 .any (Rows.fnExactFewestPlacesSpec.pre6 enc Try.prog Try.f4 Rows.fnExactFewestPlacesRow.domain false) (Rows.fnExactFewestPlacesSpec.post enc Try.prog Try.f4 false true false false) := by
  refine returnsInHanded_of_change (C := Try.checked) ownKnob_none started (by kernel_rfl) Try.func4
    (ChangeSpec.witness6 (enc := enc) (C := Try.checked) false ⟨#[], #[.agg Try.zeroCells27, .int .i64 0, .int .i64 0, .agg #[.int .u64 0, .int .u64 0], .int .i64 0], []⟩ 8 (by kernel_rfl) (by kernel_rfl) (by kernel_rfl) (by kernel_rfl)) ?_
  intro W base args ds gs before hval0 hW hcnd _
  have hval : ∀ (j : Nat) t v, Try.f4.params[j]? = some t → args[j]? = some v → Value.okWide Try.prog W .any base t v := hval0
  have hW' := hW
  obtain ⟨p, q, hA0, hV, rfl, hfz, hnd⟩ := hW
  have hA : DataW.TrodAll enc Try.prog W 0 (fun _ => true) true Try.f4.params.toList args.toList ds p := hA0
  rw [Try.params4] at hA hval
  obtain ⟨v0, vs0, d0, ds0, p0, q0, hargs, rfl, rfl, h0, r0⟩ := trodAll_cons hA
  obtain ⟨v1, vs1, d1, ds1, p1, q1, rfl, rfl, rfl, h1, r1⟩ := trodAll_cons r0
  obtain ⟨v2, vs2, d2, ds2, p2, q2, rfl, rfl, rfl, h2, r2⟩ := trodAll_cons r1
  obtain ⟨v3, vs3, d3, ds3, p3, q3, rfl, rfl, rfl, h3, r3⟩ := trodAll_cons r2
  obtain ⟨v4, vs4, d4, ds4, p4, q4, rfl, rfl, rfl, h4, r4⟩ := trodAll_cons r3
  obtain ⟨rfl, rfl, rfl⟩ := trodAll_nil r4
  obtain rfl : args = #[v0, v1, v2, v3, v4] := by cases args; simp_all
  obtain ⟨rfl, rfl⟩ := trodVars_none hV
  have k0 := h0
  have lt0 : ∀ x ∈ p0, x.block < W.heap.size := by obtain ⟨m, hm⟩ := k0; exact DataW.trod_lt m _ _ _ hm
  obtain ⟨F, rfl, hF⟩ := open_field Try.underlying27 (by kernel_rfl) (by kernel_rfl) Try.underlying22 Try.underlying5 Try.underlying24 (hval 0 27 v0 rfl rfl)
  have k1 := h1
  have lt1 : ∀ x ∈ p1, x.block < W.heap.size := by obtain ⟨m, hm⟩ := k1; exact DataW.trod_lt m _ _ _ hm
  obtain ⟨m, rfl, rfl, rfl, wm⟩ := open_int Try.underlying2 (hval 1 2 v1 rfl rfl) h1
  have hbm := bounds_i64 wm
  have k2 := h2
  have lt2 : ∀ x ∈ p2, x.block < W.heap.size := by obtain ⟨m, hm⟩ := k2; exact DataW.trod_lt m _ _ _ hm
  obtain ⟨l, rfl, rfl, rfl, wl⟩ := open_int Try.underlying2 (hval 2 2 v2 rfl rfl) h2
  have hbl := bounds_i64 wl
  have k3 := h3
  have lt3 : ∀ x ∈ p3, x.block < W.heap.size := by obtain ⟨m, hm⟩ := k3; exact DataW.trod_lt m _ _ _ hm
  obtain ⟨x, y, rfl, hbx, hby⟩ := open_cells Try.underlying39 Try.underlying38 (by kernel_rfl) (by kernel_rfl) (hval 3 39 v3 rfl rfl) h3
  have k4 := h4
  have lt4 : ∀ x ∈ p4, x.block < W.heap.size := by obtain ⟨m, hm⟩ := k4; exact DataW.trod_lt m _ _ _ hm
  obtain ⟨B, rfl, rfl, rfl, wB⟩ := open_int Try.underlying2 (hval 4 2 v4 rfl rfl) h4
  have hbB := bounds_i64 wB
  clear hA0 hval0
  refine (FnExactFewestPlaces_walk F hF m l x y B hbx hby W).mono fun e W' ⟨he, hx⟩ => ?_
  have bel := hx.below
  subst he
  exact ⟨_, rfl, _, _, _, [], _, [], hW', trodAll_mk1 (shut_bool Try.underlying4 _), (trodAll_cons_mk (Below.trod laidOut_ (by kernel_rfl) (of_decide_eq_true (by kernel_rfl)) k0 bel lt0) (trodAll_cons_mk (Below.trod laidOut_ (by kernel_rfl) (of_decide_eq_true (by kernel_rfl)) k1 bel lt1) (trodAll_cons_mk (Below.trod laidOut_ (by kernel_rfl) (of_decide_eq_true (by kernel_rfl)) k2 bel lt2) (trodAll_cons_mk (Below.trod laidOut_ (by kernel_rfl) (of_decide_eq_true (by kernel_rfl)) k3 bel lt3) (trodAll_cons_mk (Below.trod laidOut_ (by kernel_rfl) (of_decide_eq_true (by kernel_rfl)) k4 bel lt4) trodAll_mk0))))), rfl, bel.frame _, fun h => by cases h⟩
theorem fnExactFewestPlaces_holds : Rows.FnExactFewestPlacesSaid :=
  OpenClaim.holds_of_wide 4 Try.f4 rfl rfl rfl rfl rfl rfl rfl ⟨rfl, rfl, rfl, rfl, rfl⟩ rfl rfl rfl rfl rfl (by kernel_rfl) Try.func4 (by kernel_rfl)
    (of_decide_eq_true (by kernel_rfl)) (by unfold Func.isWrapper; first | (rw [if_pos (by decide +kernel)]; kernel_rfl) | (rw [if_neg (by decide +kernel)]; exact ⟨rfl, rfl⟩))
    (fun os started H enc _ => fnExactFewestPlaces_lifted os started H enc)
end Go.Proofs.Ytldlaohefgianaa
