/-
  For all arguments, the law FnExactCheckPlaces returns true; its arguments read as they did. No conditions.
-/
import Derived.Test.YtbjcloilcpoafaaRows
import Derived.Test.YtbjcloilcpoafaaFn16
import Derived.Test.YtbjcloilcpoafaaRowk
import Derived.WalkKit
import Derived.ProofKit
import Derived.OpenShut
import Derived.ShutString
import Derived.ChangeOld
import Derived.Below
import Derived.SizedLaws
namespace Go.Proofs.Ytbjcloilcpoafaa
open Go.ChangeShapes Go.WideShapes Go.ChangeAt Go.RowKit
open Go.ChangeMaps (open_string shut_string)
set_option linter.unusedVariables false
theorem ownKnob_none : ownKnob Try.prog.godebug = none := by kernel_rfl
theorem laidOut_ : laidOutB Try.prog = true := by kernel_rfl
section
set_option maxHeartbeats 4000000
set_option maxRecDepth 100000
attribute [local irreducible] wpList Code.wp
--# walk FnExactCheckPlaces
theorem FnExactCheckPlaces_walk (F : Fld) (hF : F.wf) (m : Int) (l : Int) (x y : Int) (xs : List Int) (v : Value) (hwx : wrd x) (hwy : wrd y) (w : World) (hin : SlIn w v .i64 xs) :
 Calls Try.prog 10 #[.agg F.cells, .int .i64 m, .int .i64 l, .agg #[.int .u64 x, .int .u64 y], v] w fun e w' => e = .returned (.bool true) ∧ Ext w w' := by
 refine calls_of_wp Try.func10 rfl ?_
 refine wp_frame (a' := ⟨#[.agg F.cells, .int .i64 m, .int .i64 l, .agg #[.int .u64 x, .int .u64 y], v, undef, undef, undef, undef, undef, undef, undef, undef, undef, undef, undef, undef, undef, undef, undef, undef, undef, undef, undef, undef, undef, undef, undef, undef, undef, undef, undef, undef, undef, undef, undef, undef, undef, undef, undef, undef, undef, undef, undef, undef, undef, undef, undef, undef, undef, undef, undef, undef, undef, undef, undef, undef], []⟩) (by kernel_rfl) ?_
 refine wsr ?_
 refine wbox F.cells ?_
 intro g1 w1 B1 E1 _
 refine wbox #[.int .u64 x, .int .u64 y] ?_
 intro g2 w2 B2 E2 _
 refine wv (.bool false) ?_
 refine wpList_nil (then_normal ?_)
 refine wp_seq ?_
 refine wsr ?_
 refine wv v ?_
 have H1 := ((Ext.refl w).trans E1).trans E2
 refine wlen (SlIn.ext hin H1) ⟨_, slt__int64.1⟩ ?_
 refine wv (.bool (decide (1048576 < (xs.length : Int)))) ?_
 refine wpList_nil (then_normal ?_)
 refine wsplit (decide (1048576 < (xs.length : Int))) (fun h1 => ?_) (fun h1 => ?_)
 · skip
   have h1d := dT h1
   refine wsr ?_
   refine wv (.bool true) ?_
   refine wpList_nil (then_normal ?_)
   refine wp_ret ?_
   refine then_ret ?_
   refine ret1 (.bool true) rfl ?_ rfl ?_
   · exact resT (by kernel_rfl)
   exact ⟨rfl, H1⟩
 · skip
   have h1d := dF h1
   refine wp_skip ?_
   refine then_normal ?_
   refine wp_seq ?_
   refine wp_frame (a' := ⟨#[.agg F.cells, .int .i64 m, .int .i64 l, .agg #[.int .u64 x, .int .u64 y], v, .pointer (some ⟨g1, 0, none⟩), undef, undef, .pointer (some ⟨g2, 0, none⟩), undef, .bool false, undef, undef, undef, undef, undef, v, .int .i64 (xs.length : Int), .bool (decide (1048576 < (xs.length : Int))), undef, undef, undef, undef, undef, undef, undef, undef, undef, undef, undef, undef, undef, undef, undef, undef, undef, undef, undef, undef, undef, undef, undef, undef, undef, undef, undef, undef, undef, undef, undef, undef, undef, undef, undef, undef, undef, undef], []⟩) (by kernel_rfl) ?_
   replace B1 := B1.ext E2
   refine region_go 14 [20, 21, 22, 23, 24, 25, 26, 27, 28, 19, 29, 30, 11, 12] [[], [0], [], [], [], [4], [], [6], [1, 2, 3, 5, 7], [8], [9], [9], [10], [11]]
    (fun i_ => ([.val (.agg F.cells), .val (.agg F.cells), .val (.int .i64 m), .val (.int .i64 l), .val (.agg #[.int .u64 x, .int .u64 y]), .val (.agg #[.int .u64 x, .int .u64 y]), .val v, .lst w2.heap.size 2 .i64 xs, .val (.tuple #[.bool (ckB F m l x y xs), .int .i64 (code F (inB m 1 1000 && inB l 1 1000))]), .val (.tuple #[.bool (ckB F m l x y xs), .int .i64 (code F (inB m 1 1000 && inB l 1 1000))]), .val (.bool (ckB F m l x y xs)), .val (.int .i64 (code F (inB m 1 1000 && inB l 1 1000))), .val (.bool (ckB F m l x y xs)), .val (.int .i64 (code F (inB m 1 1000 && inB l 1 1000)))] : List Fct).getD i_ .any)
    (by kernel_rfl) (by kernel_rfl) (by decide) (by simp) rfl (all_succ (all_succ (all_succ (all_succ (all_succ (all_succ (all_succ (all_succ (all_succ (all_succ (all_succ (all_succ (all_succ (all_succ all_zero ?_) ?_) ?_) ?_) ?_) ?_) ?_) ?_) ?_) ?_) ?_) ?_) ?_) ?_) ?_
   · refine step0 rfl rfl rfl (fun wr hw => ?_)
     with_reducible refine OpRun.row (x := (.tmp 5)) row_laws_Field (B1.ext hw) ?_ ?_ ?_ ?_
     · exact Fld.size_cells _
     · rfl
     · kernel_rfl
     · exact ⟨Ext.refl _, rfl⟩
   · refine step1 rfl rfl rfl rfl (fun u0 wr hw h0 => ?_)
     cases h0
     exact OpRun.call 30 #[.agg F.cells] (by kernel_rfl) ((toField_any F hF _).mono fun e w1 ⟨he, hb⟩ => ⟨_, he, hb, rfl⟩)
   · refine step0 rfl rfl rfl (fun wr hw => ?_)
     exact OpRun.val (.int .i64 m) (.int .i64 m) (by kernel_rfl) rfl ⟨Ext.refl _, rfl⟩
   · refine step0 rfl rfl rfl (fun wr hw => ?_)
     exact OpRun.val (.int .i64 l) (.int .i64 l) (by kernel_rfl) rfl ⟨Ext.refl _, rfl⟩
   · refine step0 rfl rfl rfl (fun wr hw => ?_)
     with_reducible refine OpRun.row (x := (.tmp 8)) row__2_uint64 (B2.ext hw) ?_ ?_ ?_ ?_
     · rfl
     · rfl
     · kernel_rfl
     · exact ⟨Ext.refl _, rfl⟩
   · refine step1 rfl rfl rfl rfl (fun u0 wr hw h0 => ?_)
     cases h0
     exact OpRun.call 38 #[.agg #[.int .u64 x, .int .u64 y]] (by kernel_rfl) ((toCells_any x y _).mono fun e w1 ⟨he, hb⟩ => ⟨_, he, hb, rfl⟩)
   · refine step0 rfl rfl rfl (fun wr hw => ?_)
     exact OpRun.val v v (by kernel_rfl) rfl ⟨Ext.refl _, rfl⟩
   · refine step1 rfl rfl rfl rfl (fun u0 wr hw h0 => ?_)
     cases h0
     exact OpRun.call 16 #[v] (by kernel_rfl) ((toInt64S_any xs v (by omega) _ (SlIn.ext hin (H1.trans hw))).mono fun e w1 ⟨_, _, _, _, he, hb, hs, hE, hg⟩ => by obtain rfl := hs.len; exact ⟨_, he, hE, _, _, _, rfl, Nat.le_trans hw.size hg, hb, hs⟩)
   · refine step5 rfl rfl rfl rfl rfl rfl rfl rfl (fun u0 u1 u2 u3 u4 wr hw h0 h1 h2 h3 h4 => ?_)
     cases h0
     cases h1
     cases h2
     cases h3
     obtain ⟨g3, cap1, cs1, rfl, hgn4, hbn4, S1⟩ := h4
     exact OpRun.call 37 #[.agg F.cells, .int .i64 m, .int .i64 l, .agg #[.int .u64 x, .int .u64 y], .slice (some ⟨g3, 0, none⟩) xs.length cap1] (by kernel_rfl) ((sCheckPlaces_any F hF m l x y xs xs.length g3 cap1 cs1 S1 (by omega) (by assumption) (by assumption) _ hbn4).mono fun e w1 ⟨he, hb⟩ => ⟨_, he, hb, rfl⟩)
   · refine step1 rfl rfl rfl rfl (fun u0 wr hw h0 => ?_)
     cases h0
     exact OpRun.val (.tuple #[.bool (ckB F m l x y xs), .int .i64 (code F (inB m 1 1000 && inB l 1 1000))]) (.tuple #[.bool (ckB F m l x y xs), .int .i64 (code F (inB m 1 1000 && inB l 1 1000))]) (by kernel_rfl) rfl ⟨Ext.refl _, rfl⟩
   · refine step1 rfl rfl rfl rfl (fun u0 wr hw h0 => ?_)
     cases h0
     exact OpRun.val (.bool (ckB F m l x y xs)) (.bool (ckB F m l x y xs)) (by kernel_rfl) rfl ⟨Ext.refl _, rfl⟩
   · refine step1 rfl rfl rfl rfl (fun u0 wr hw h0 => ?_)
     cases h0
     exact OpRun.val (.int .i64 (code F (inB m 1 1000 && inB l 1 1000))) (.int .i64 (code F (inB m 1 1000 && inB l 1 1000))) (by kernel_rfl) rfl ⟨Ext.refl _, rfl⟩
   · refine step1 rfl rfl rfl rfl (fun u0 wr hw h0 => ?_)
     cases h0
     exact OpRun.val (.bool (ckB F m l x y xs)) (.bool (ckB F m l x y xs)) (by kernel_rfl) rfl ⟨Ext.refl _, rfl⟩
   · refine step1 rfl rfl rfl rfl (fun u0 wr hw h0 => ?_)
     cases h0
     exact OpRun.val (.int .i64 (code F (inB m 1 1000 && inB l 1 1000))) (.int .i64 (code F (inB m 1 1000 && inB l 1 1000))) (by kernel_rfl) rfl ⟨Ext.refl _, rfl⟩
   refine end14 (fun u0 u1 u2 u3 u4 u5 u6 u7 u8 u9 u10 u11 u12 u13 w3 E3 f0 f1 f2 f3 f4 f5 f6 f7 f8 f9 f10 f11 f12 f13 => ?_)
   cases f0
   cases f1
   cases f2
   cases f3
   cases f4
   cases f5
   cases f6
   obtain ⟨g3, cap1, cs1, rfl, hg_, B3, S1⟩ := f7
   clear hg_
   cases f8
   cases f9
   cases f10
   cases f11
   cases f12
   cases f13
   refine wpList_nil (then_normal ?_)
   refine wsr ?_
   refine wv v ?_
   have H2 := H1.trans E3
   replace B1 := B1.ext E3
   replace B2 := B2.ext E3
   refine wcli (toInt64S_any xs v (by omega) _ (SlIn.ext hin H2)) ?_
   intro g4 cap2 cs2 w4 B4 S2 E4 hg_
   have lo_g4 := Nat.le_trans (H2).size hg_
   refine wv (.slice (some ⟨g4, 0, none⟩) xs.length cap2) ?_
   refine wpList_nil (then_normal ?_)
   refine wp_seq ?_
   refine wp_frame (a' := ⟨#[.agg F.cells, .int .i64 m, .int .i64 l, .agg #[.int .u64 x, .int .u64 y], v, .pointer (some ⟨g1, 0, none⟩), undef, undef, .pointer (some ⟨g2, 0, none⟩), undef, .bool false, .bool (ckB F m l x y xs), .int .i64 (code F (inB m 1 1000 && inB l 1 1000)), .slice (some ⟨g4, 0, none⟩) xs.length cap2, undef, undef, v, .int .i64 (xs.length : Int), .bool (decide (1048576 < (xs.length : Int))), .tuple #[.bool (ckB F m l x y xs), .int .i64 (code F (inB m 1 1000 && inB l 1 1000))], .agg F.cells, .agg F.cells, .int .i64 m, .int .i64 l, .agg #[.int .u64 x, .int .u64 y], .agg #[.int .u64 x, .int .u64 y], v, .slice (some ⟨g3, 0, none⟩) xs.length cap1, .tuple #[.bool (ckB F m l x y xs), .int .i64 (code F (inB m 1 1000 && inB l 1 1000))], .bool (ckB F m l x y xs), .int .i64 (code F (inB m 1 1000 && inB l 1 1000)), v, .slice (some ⟨g4, 0, none⟩) xs.length cap2, undef, undef, undef, undef, undef, undef, undef, undef, undef, undef, undef, undef, undef, undef, undef, undef, undef, undef, undef, undef, undef, undef, undef, undef], []⟩) (by kernel_rfl) ?_
   replace B1 := B1.ext E4
   replace B2 := B2.ext E4
   refine region_go 13 [34, 35, 36, 37, 38, 39, 40, 41, 33, 42, 43, 14, 15] [[], [0], [], [], [], [4], [], [1, 2, 3, 5, 6], [7], [8], [8], [9], [10]]
    (fun i_ => ([.val (.agg F.cells), .val (.agg F.cells), .val (.int .i64 m), .val (.int .i64 l), .val (.agg #[.int .u64 x, .int .u64 y]), .val (.agg #[.int .u64 x, .int .u64 y]), .val (.slice (some ⟨g4, 0, none⟩) xs.length cap2), .val (.tuple #[.bool (ckB F m l x y xs), .int .i64 (code F (inB m 1 1000 && inB l 1 1000))]), .val (.tuple #[.bool (ckB F m l x y xs), .int .i64 (code F (inB m 1 1000 && inB l 1 1000))]), .val (.bool (ckB F m l x y xs)), .val (.int .i64 (code F (inB m 1 1000 && inB l 1 1000))), .val (.bool (ckB F m l x y xs)), .val (.int .i64 (code F (inB m 1 1000 && inB l 1 1000)))] : List Fct).getD i_ .any)
    (by kernel_rfl) (by kernel_rfl) (by decide) (by simp) rfl (all_succ (all_succ (all_succ (all_succ (all_succ (all_succ (all_succ (all_succ (all_succ (all_succ (all_succ (all_succ (all_succ all_zero ?_) ?_) ?_) ?_) ?_) ?_) ?_) ?_) ?_) ?_) ?_) ?_) ?_) ?_
   · refine step0 rfl rfl rfl (fun wr hw => ?_)
     with_reducible refine OpRun.row (x := (.tmp 5)) row_laws_Field (B1.ext hw) ?_ ?_ ?_ ?_
     · exact Fld.size_cells _
     · rfl
     · kernel_rfl
     · exact ⟨Ext.refl _, rfl⟩
   · refine step1 rfl rfl rfl rfl (fun u0 wr hw h0 => ?_)
     cases h0
     exact OpRun.call 30 #[.agg F.cells] (by kernel_rfl) ((toField_any F hF _).mono fun e w1 ⟨he, hb⟩ => ⟨_, he, hb, rfl⟩)
   · refine step0 rfl rfl rfl (fun wr hw => ?_)
     exact OpRun.val (.int .i64 m) (.int .i64 m) (by kernel_rfl) rfl ⟨Ext.refl _, rfl⟩
   · refine step0 rfl rfl rfl (fun wr hw => ?_)
     exact OpRun.val (.int .i64 l) (.int .i64 l) (by kernel_rfl) rfl ⟨Ext.refl _, rfl⟩
   · refine step0 rfl rfl rfl (fun wr hw => ?_)
     with_reducible refine OpRun.row (x := (.tmp 8)) row__2_uint64 (B2.ext hw) ?_ ?_ ?_ ?_
     · rfl
     · rfl
     · kernel_rfl
     · exact ⟨Ext.refl _, rfl⟩
   · refine step1 rfl rfl rfl rfl (fun u0 wr hw h0 => ?_)
     cases h0
     exact OpRun.call 38 #[.agg #[.int .u64 x, .int .u64 y]] (by kernel_rfl) ((toCells_any x y _).mono fun e w1 ⟨he, hb⟩ => ⟨_, he, hb, rfl⟩)
   · refine step0 rfl rfl rfl (fun wr hw => ?_)
     exact OpRun.val (.slice (some ⟨g4, 0, none⟩) xs.length cap2) (.slice (some ⟨g4, 0, none⟩) xs.length cap2) (by kernel_rfl) rfl ⟨Ext.refl _, rfl⟩
   · refine step5 rfl rfl rfl rfl rfl rfl rfl rfl (fun u0 u1 u2 u3 u4 wr hw h0 h1 h2 h3 h4 => ?_)
     cases h0
     cases h1
     cases h2
     cases h3
     cases h4
     exact OpRun.call 39 #[.agg F.cells, .int .i64 m, .int .i64 l, .agg #[.int .u64 x, .int .u64 y], .slice (some ⟨g4, 0, none⟩) xs.length cap2] (by kernel_rfl) ((iCheckPlaces_any F hF m l x y xs xs.length g4 cap2 cs2 S2 (by omega) (by assumption) (by assumption) _ (B4.ext hw)).mono fun e w1 ⟨he, hb⟩ => ⟨_, he, hb, rfl⟩)
   · refine step1 rfl rfl rfl rfl (fun u0 wr hw h0 => ?_)
     cases h0
     exact OpRun.val (.tuple #[.bool (ckB F m l x y xs), .int .i64 (code F (inB m 1 1000 && inB l 1 1000))]) (.tuple #[.bool (ckB F m l x y xs), .int .i64 (code F (inB m 1 1000 && inB l 1 1000))]) (by kernel_rfl) rfl ⟨Ext.refl _, rfl⟩
   · refine step1 rfl rfl rfl rfl (fun u0 wr hw h0 => ?_)
     cases h0
     exact OpRun.val (.bool (ckB F m l x y xs)) (.bool (ckB F m l x y xs)) (by kernel_rfl) rfl ⟨Ext.refl _, rfl⟩
   · refine step1 rfl rfl rfl rfl (fun u0 wr hw h0 => ?_)
     cases h0
     exact OpRun.val (.int .i64 (code F (inB m 1 1000 && inB l 1 1000))) (.int .i64 (code F (inB m 1 1000 && inB l 1 1000))) (by kernel_rfl) rfl ⟨Ext.refl _, rfl⟩
   · refine step1 rfl rfl rfl rfl (fun u0 wr hw h0 => ?_)
     cases h0
     exact OpRun.val (.bool (ckB F m l x y xs)) (.bool (ckB F m l x y xs)) (by kernel_rfl) rfl ⟨Ext.refl _, rfl⟩
   · refine step1 rfl rfl rfl rfl (fun u0 wr hw h0 => ?_)
     cases h0
     exact OpRun.val (.int .i64 (code F (inB m 1 1000 && inB l 1 1000))) (.int .i64 (code F (inB m 1 1000 && inB l 1 1000))) (by kernel_rfl) rfl ⟨Ext.refl _, rfl⟩
   refine end13 (fun u0 u1 u2 u3 u4 u5 u6 u7 u8 u9 u10 u11 u12 w5 E5 f0 f1 f2 f3 f4 f5 f6 f7 f8 f9 f10 f11 f12 => ?_)
   cases f0
   cases f1
   cases f2
   cases f3
   cases f4
   cases f5
   cases f6
   cases f7
   cases f8
   cases f9
   cases f10
   cases f11
   cases f12
   refine wpList_nil (then_normal ?_)
   refine wp_seq ?_
   refine wsr ?_
   refine wv (.bool (ckB F m l x y xs)) ?_
   refine wv (.bool (ckB F m l x y xs)) ?_
   refine wvv (.bool ((ckB F m l x y xs) != (ckB F m l x y xs))) (.bool false) (by simp) ?_
   refine wv (.bool false) ?_
   refine wv (.int .i64 (code F (inB m 1 1000 && inB l 1 1000))) ?_
   refine wv (.int .i64 (code F (inB m 1 1000 && inB l 1 1000))) ?_
   refine wvv (.bool ((code F (inB m 1 1000 && inB l 1 1000)) != (code F (inB m 1 1000 && inB l 1 1000)))) (.bool false) (by simp) ?_
   refine wv (.bool false) ?_
   refine wpList_nil (then_normal ?_)
   refine wcf ?_
   refine wp_skip ?_
   refine then_normal ?_
   refine wp_seq ?_
   refine wsr ?_
   refine wv (.slice (some ⟨g4, 0, none⟩) xs.length cap2) ?_
   refine wv v ?_
   have H3 := (H2.trans E4).trans E5
   replace B1 := B1.ext E5
   replace B2 := B2.ext E5
   replace B3 := (B3.ext E4).ext E5
   replace B4 := B4.ext E5
   refine wcli (toInt64S_any xs v (by omega) _ (SlIn.ext hin H3)) ?_
   intro g5 cap3 cs3 w6 B5 S3 E6 hg_
   have lo_g5 := Nat.le_trans (H3).size hg_
   replace B4 := B4.ext E6
   refine wcl (eqInt64S_same xs g4 cap2 cs2 S2 g5 cap3 cs3 S3 (by omega) _ B4 B5) ?_
   intro w7 E7
   refine wv (.bool false) ?_
   refine wpList_nil (then_normal ?_)
   refine wcf ?_
   refine wp_skip ?_
   refine then_normal ?_
   refine wsr ?_
   refine wv (.bool true) ?_
   refine wpList_nil (then_normal ?_)
   refine wp_ret ?_
   have H4 := (H3.trans E6).trans E7
   refine ret1 (.bool true) rfl ?_ rfl ?_
   · exact resT (by kernel_rfl)
   exact ⟨rfl, H4⟩
end
--# row FnExactCheckPlaces
set_option maxRecDepth 100000 in
theorem fnExactCheckPlaces_lifted (os : Os) (started : os.Started) (H : Type) (enc : TypeId × Value → H) :
    ReturnsInHanded {} Try.checked os 10 .any (Rows.fnExactCheckPlacesSpec.pre6 enc Try.prog Try.f10 Rows.fnExactCheckPlacesRow.domain false) (Rows.fnExactCheckPlacesSpec.post enc Try.prog Try.f10 false true false false) := by
  refine returnsInHanded_of_change (C := Try.checked) ownKnob_none started (by kernel_rfl) Try.func10
    (ChangeSpec.witness6 (enc := enc) (C := Try.checked) false ⟨#[], #[.agg Try.zeroCells44, .int .i64 0, .int .i64 0, .agg #[.int .u64 0, .int .u64 0], .slice none 0 0], []⟩ 8 (by kernel_rfl) (by kernel_rfl) (by kernel_rfl) (by kernel_rfl)) ?_
  intro W base args ds gs before hval0 hW hcnd _
  have hval : ∀ (j : Nat) t v, Try.f10.params[j]? = some t → args[j]? = some v → Value.okWide Try.prog W .any base t v := hval0
  have hW' := hW
  obtain ⟨p, q, hA0, hV, rfl, hfz, hnd⟩ := hW
  have hA : DataW.TrodAll enc Try.prog W 0 (fun _ => true) true Try.f10.params.toList args.toList ds p := hA0
  rw [Try.params10] at hA hval
  obtain ⟨v0, vs0, d0, ds0, p0, q0, hargs, rfl, rfl, h0, r0⟩ := trodAll_cons hA
  obtain ⟨v1, vs1, d1, ds1, p1, q1, rfl, rfl, rfl, h1, r1⟩ := trodAll_cons r0
  obtain ⟨v2, vs2, d2, ds2, p2, q2, rfl, rfl, rfl, h2, r2⟩ := trodAll_cons r1
  obtain ⟨v3, vs3, d3, ds3, p3, q3, rfl, rfl, rfl, h3, r3⟩ := trodAll_cons r2
  obtain ⟨v4, vs4, d4, ds4, p4, q4, rfl, rfl, rfl, h4, r4⟩ := trodAll_cons r3
  obtain ⟨rfl, rfl, rfl⟩ := trodAll_nil r4
  obtain rfl : args = #[v0, v1, v2, v3, v4] := by cases args; simp_all
  obtain ⟨rfl, rfl⟩ := trodVars_none hV
  have k0 := h0
  have lt0 : ∀ x ∈ p0, x.block < W.heap.size := by obtain ⟨m, hm⟩ := k0; exact DataW.trod_lt m _ _ _ hm
  obtain ⟨F, rfl, hF⟩ := open_field Try.underlying44 (by kernel_rfl) (by kernel_rfl) Try.underlying39 Try.underlying5 Try.underlying41 (hval 0 44 v0 rfl rfl)
  have k1 := h1
  have lt1 : ∀ x ∈ p1, x.block < W.heap.size := by obtain ⟨m, hm⟩ := k1; exact DataW.trod_lt m _ _ _ hm
  obtain ⟨m, rfl, rfl, rfl, wm⟩ := open_int Try.underlying2 (hval 1 2 v1 rfl rfl) h1
  have hbm := bounds_i64 wm
  have k2 := h2
  have lt2 : ∀ x ∈ p2, x.block < W.heap.size := by obtain ⟨m, hm⟩ := k2; exact DataW.trod_lt m _ _ _ hm
  obtain ⟨l, rfl, rfl, rfl, wl⟩ := open_int Try.underlying2 (hval 2 2 v2 rfl rfl) h2
  have hbl := bounds_i64 wl
  have k3 := h3
  have lt3 : ∀ x ∈ p3, x.block < W.heap.size := by obtain ⟨m, hm⟩ := k3; exact DataW.trod_lt m _ _ _ hm
  obtain ⟨x, y, rfl, hbx, hby⟩ := open_cells Try.underlying46 Try.underlying45 (by kernel_rfl) (by kernel_rfl) (hval 3 46 v3 rfl rfl) h3
  have k4 := h4
  have lt4 : ∀ x ∈ p4, x.block < W.heap.size := by obtain ⟨m, hm⟩ := k4; exact DataW.trod_lt m _ _ _ hm
  obtain ⟨xs, hin4, hwl4⟩ := open_slin (k := .i64) Try.underlying22 Try.underlying2 (by kernel_rfl) (hval 4 22 v4 rfl rfl) h4
  clear hA0 hval0
  refine (FnExactCheckPlaces_walk F hF m l x y xs v4 hbx hby W hin4).mono fun e W' ⟨he, hx⟩ => ?_
  have bel := hx.below
  subst he
  exact ⟨_, rfl, _, _, _, [], _, [], hW', trodAll_mk1 (shut_bool Try.underlying4 _), (trodAll_cons_mk (Below.trod laidOut_ (by kernel_rfl) (of_decide_eq_true (by kernel_rfl)) k0 bel lt0) (trodAll_cons_mk (Below.trod laidOut_ (by kernel_rfl) (of_decide_eq_true (by kernel_rfl)) k1 bel lt1) (trodAll_cons_mk (Below.trod laidOut_ (by kernel_rfl) (of_decide_eq_true (by kernel_rfl)) k2 bel lt2) (trodAll_cons_mk (Below.trod laidOut_ (by kernel_rfl) (of_decide_eq_true (by kernel_rfl)) k3 bel lt3) (trodAll_cons_mk (Below.trod laidOut_ (by kernel_rfl) (of_decide_eq_true (by kernel_rfl)) k4 bel lt4) trodAll_mk0))))), rfl, bel.frame _, fun h => by cases h⟩
theorem fnExactCheckPlaces_holds : Rows.FnExactCheckPlacesSaid :=
  OpenClaim.holds_of_wide 10 Try.f10 rfl rfl rfl rfl rfl rfl rfl ⟨rfl, rfl, rfl, rfl, rfl⟩ rfl rfl rfl rfl rfl (by kernel_rfl) Try.func10 (by kernel_rfl)
    (of_decide_eq_true (by kernel_rfl)) (by unfold Func.isWrapper; first | (rw [if_pos (by decide +kernel)]; kernel_rfl) | (rw [if_neg (by decide +kernel)]; exact ⟨rfl, rfl⟩))
    (fun os started H enc _ => fnExactCheckPlaces_lifted os started H enc)
end Go.Proofs.Ytbjcloilcpoafaa
