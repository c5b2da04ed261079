/-
  For all arguments, the law FnExactValidFears returns true; its arguments read as they did. No conditions.
-/
import Derived.Test.YthiiampknelbjaaRows
import Derived.Test.YthiiampknelbjaaFn7
import Derived.Test.YthiiampknelbjaaRowk
import Derived.WalkKit
import Derived.ProofKit
import Derived.OpenShut
import Derived.ShutString
import Derived.ChangeOld
import Derived.Below
import Derived.SizedLaws
namespace Go.Proofs.Ythiiampknelbjaa
open Go.ChangeShapes Go.WideShapes Go.ChangeAt Go.RowKit
open Go.ChangeMaps (open_string shut_string)
set_option linter.unusedVariables false
theorem ownKnob_none : ownKnob Try.prog.godebug = none := by kernel_rfl
theorem laidOut_ : laidOutB Try.prog = true := by kernel_rfl
section
set_option maxHeartbeats 4000000
set_option maxRecDepth 100000
attribute [local irreducible] wpList Code.wp
--# walk FnExactValidFears
theorem FnExactValidFears_walk (F : Fld) (hF : F.wf) (f : Nat → Int) (hf : ∀ i, i < 100 → -32768 ≤ f i ∧ f i ≤ 32767) (w : World) :
 Calls Try.prog 9 #[.agg F.cells, .agg (arr 100 .i16 f)] w fun e w' => e = .returned (.bool true) ∧ Ext w w' := by
 refine calls_of_wp Try.func9 rfl ?_
 refine wp_frame (a' := ⟨#[.agg F.cells, .agg (arr 100 .i16 f), undef, undef, undef, undef, undef, undef, undef, undef, undef, undef, undef, undef, undef, undef, undef, undef, undef, undef], []⟩) (by kernel_rfl) ?_
 refine wsr ?_
 refine wbox F.cells ?_
 intro g1 w1 B1 E1 _
 refine wbox (arr 100 .i16 f) ?_
 intro g2 w2 B2 E2 _
 refine wv (.bool false) ?_
 refine wpList_nil (then_normal ?_)
 refine wp_seq ?_
 refine wp_frame (a' := ⟨#[.agg F.cells, .agg (arr 100 .i16 f), .pointer (some ⟨g1, 0, none⟩), .pointer (some ⟨g2, 0, none⟩), .bool false, undef, undef, undef, undef, undef, undef, undef, undef, undef, undef, undef, undef, undef, undef, undef], []⟩) (by kernel_rfl) ?_
 replace B1 := B1.ext E2
 refine region_go 6 [7, 8, 9, 10, 11, 5] [[], [0], [], [2], [1, 3], [4]]
  (fun i_ => ([.val (.agg F.cells), .val (.agg F.cells), .val (.agg (arr 100 .i16 f)), .val (.agg (arr 100 .i16 f)), .val (.bool (okB F && feaB F f)), .val (.bool (okB F && feaB F f))] : List Fct).getD i_ .any)
  (by kernel_rfl) (by kernel_rfl) (by decide) (by simp) rfl (all_succ (all_succ (all_succ (all_succ (all_succ (all_succ all_zero ?_) ?_) ?_) ?_) ?_) ?_) ?_
 · refine step0 rfl rfl rfl (fun wr hw => ?_)
   with_reducible refine OpRun.row (x := (.tmp 2)) row_laws_Field (B1.ext hw) ?_ ?_ ?_ ?_
   · exact Fld.size_cells _
   · rfl
   · kernel_rfl
   · exact ⟨Ext.refl _, rfl⟩
 · refine step1 rfl rfl rfl rfl (fun u0 wr hw h0 => ?_)
   cases h0
   exact OpRun.call 16 #[.agg F.cells] (by kernel_rfl) ((toField_any F hF _).mono fun e w1 ⟨he, hb⟩ => ⟨_, he, hb, rfl⟩)
 · refine step0 rfl rfl rfl (fun wr hw => ?_)
   with_reducible refine OpRun.row (x := (.tmp 3)) row__100_int16 (B2.ext hw) ?_ ?_ ?_ ?_
   · exact size_arr _ _ _
   · rfl
   · kernel_rfl
   · exact ⟨Ext.refl _, rfl⟩
 · refine step1 rfl rfl rfl rfl (fun u0 wr hw h0 => ?_)
   cases h0
   exact OpRun.call 35 #[.agg (arr 100 .i16 f)] (by kernel_rfl) ((toFears_any f _).mono fun e w1 ⟨he, hb⟩ => ⟨_, he, hb, rfl⟩)
 · refine step2 rfl rfl rfl rfl rfl (fun u0 u1 wr hw h0 h1 => ?_)
   cases h0
   cases h1
   exact OpRun.call 34 #[.agg F.cells, .agg (arr 100 .i16 f)] (by kernel_rfl) ((sValidFears_any F hF f hf _).mono fun e w1 ⟨he, hb⟩ => ⟨_, he, hb, rfl⟩)
 · refine step1 rfl rfl rfl rfl (fun u0 wr hw h0 => ?_)
   cases h0
   exact OpRun.val (.bool (okB F && feaB F f)) (.bool (okB F && feaB F f)) (by kernel_rfl) rfl ⟨Ext.refl _, rfl⟩
 refine end6 (fun u0 u1 u2 u3 u4 u5 w3 E3 f0 f1 f2 f3 f4 f5 => ?_)
 cases f0
 cases f1
 cases f2
 cases f3
 cases f4
 cases f5
 refine wpList_nil (then_normal ?_)
 refine wp_seq ?_
 refine wp_frame (a' := ⟨#[.agg F.cells, .agg (arr 100 .i16 f), .pointer (some ⟨g1, 0, none⟩), .pointer (some ⟨g2, 0, none⟩), .bool false, .bool (okB F && feaB F f), undef, .agg F.cells, .agg F.cells, .agg (arr 100 .i16 f), .agg (arr 100 .i16 f), .bool (okB F && feaB F f), undef, undef, undef, undef, undef, undef, undef, undef], []⟩) (by kernel_rfl) ?_
 replace B1 := B1.ext E3
 replace B2 := B2.ext E3
 refine region_go 6 [12, 13, 14, 15, 16, 6] [[], [0], [], [2], [1, 3], [4]]
  (fun i_ => ([.val (.agg F.cells), .val (.agg F.cells), .val (.agg (arr 100 .i16 f)), .val (.agg (arr 100 .i16 f)), .val (.bool (okB F && feaB F f)), .val (.bool (okB F && feaB F f))] : List Fct).getD i_ .any)
  (by kernel_rfl) (by kernel_rfl) (by decide) (by simp) rfl (all_succ (all_succ (all_succ (all_succ (all_succ (all_succ all_zero ?_) ?_) ?_) ?_) ?_) ?_) ?_
 · refine step0 rfl rfl rfl (fun wr hw => ?_)
   with_reducible refine OpRun.row (x := (.tmp 2)) row_laws_Field (B1.ext hw) ?_ ?_ ?_ ?_
   · exact Fld.size_cells _
   · rfl
   · kernel_rfl
   · exact ⟨Ext.refl _, rfl⟩
 · refine step1 rfl rfl rfl rfl (fun u0 wr hw h0 => ?_)
   cases h0
   exact OpRun.call 16 #[.agg F.cells] (by kernel_rfl) ((toField_any F hF _).mono fun e w1 ⟨he, hb⟩ => ⟨_, he, hb, rfl⟩)
 · refine step0 rfl rfl rfl (fun wr hw => ?_)
   with_reducible refine OpRun.row (x := (.tmp 3)) row__100_int16 (B2.ext hw) ?_ ?_ ?_ ?_
   · exact size_arr _ _ _
   · rfl
   · kernel_rfl
   · exact ⟨Ext.refl _, rfl⟩
 · refine step1 rfl rfl rfl rfl (fun u0 wr hw h0 => ?_)
   cases h0
   exact OpRun.call 35 #[.agg (arr 100 .i16 f)] (by kernel_rfl) ((toFears_any f _).mono fun e w1 ⟨he, hb⟩ => ⟨_, he, hb, rfl⟩)
 · refine step2 rfl rfl rfl rfl rfl (fun u0 u1 wr hw h0 h1 => ?_)
   cases h0
   cases h1
   exact OpRun.call 36 #[.agg F.cells, .agg (arr 100 .i16 f)] (by kernel_rfl) ((iValidFears_any F hF f hf _).mono fun e w1 ⟨he, hb⟩ => ⟨_, he, hb, rfl⟩)
 · refine step1 rfl rfl rfl rfl (fun u0 wr hw h0 => ?_)
   cases h0
   exact OpRun.val (.bool (okB F && feaB F f)) (.bool (okB F && feaB F f)) (by kernel_rfl) rfl ⟨Ext.refl _, rfl⟩
 refine end6 (fun u0 u1 u2 u3 u4 u5 w4 E4 f0 f1 f2 f3 f4 f5 => ?_)
 cases f0
 cases f1
 cases f2
 cases f3
 cases f4
 cases f5
 refine wpList_nil (then_normal ?_)
 refine wp_seq ?_
 refine wsr ?_
 refine wv (.bool (okB F && feaB F f)) ?_
 refine wv (.bool (okB F && feaB F f)) ?_
 refine wvv (.bool ((okB F && feaB F f) != (okB F && feaB F f))) (.bool false) (by simp) ?_
 refine wpList_nil (then_normal ?_)
 refine wcf ?_
 refine wp_skip ?_
 refine then_normal ?_
 refine wsr ?_
 refine wv (.bool true) ?_
 refine wpList_nil (then_normal ?_)
 refine wp_ret ?_
 have H1 := ((((Ext.refl w).trans E1).trans E2).trans E3).trans E4
 refine ret1 (.bool true) rfl ?_ rfl ?_
 · exact resT (by kernel_rfl)
 exact ⟨rfl, H1⟩
end
--# row FnExactValidFears
set_option maxRecDepth 100000 in
theorem fnExactValidFears_lifted (os : Os) (started : os.Started) (H : Type) (enc : TypeId × Value → H) :
    ReturnsInHanded {} Try.checked os 9 .any (Rows.fnExactValidFearsSpec.pre6 enc Try.prog Try.f9 Rows.fnExactValidFearsRow.domain false) (Rows.fnExactValidFearsSpec.post enc Try.prog Try.f9 false true false false) := by
  refine returnsInHanded_of_change (C := Try.checked) ownKnob_none started (by kernel_rfl) Try.func9
    (ChangeSpec.witness6 (enc := enc) (C := Try.checked) false ⟨#[], #[.agg Try.zeroCells27, .agg Try.zeroCells25], []⟩ 8 (by kernel_rfl) (by kernel_rfl) (by kernel_rfl) (by kernel_rfl)) ?_
  intro W base args ds gs before hval0 hW hcnd _
  have hval : ∀ (j : Nat) t v, Try.f9.params[j]? = some t → args[j]? = some v → Value.okWide Try.prog W .any base t v := hval0
  have hW' := hW
  obtain ⟨p, q, hA0, hV, rfl, hfz, hnd⟩ := hW
  have hA : DataW.TrodAll enc Try.prog W 0 (fun _ => true) true Try.f9.params.toList args.toList ds p := hA0
  rw [Try.params9] at hA hval
  obtain ⟨v0, vs0, d0, ds0, p0, q0, hargs, rfl, rfl, h0, r0⟩ := trodAll_cons hA
  obtain ⟨v1, vs1, d1, ds1, p1, q1, rfl, rfl, rfl, h1, r1⟩ := trodAll_cons r0
  obtain ⟨rfl, rfl, rfl⟩ := trodAll_nil r1
  obtain rfl : args = #[v0, v1] := by cases args; simp_all
  obtain ⟨rfl, rfl⟩ := trodVars_none hV
  have k0 := h0
  have lt0 : ∀ x ∈ p0, x.block < W.heap.size := by obtain ⟨m, hm⟩ := k0; exact DataW.trod_lt m _ _ _ hm
  obtain ⟨F, rfl, hF⟩ := open_field Try.underlying27 (by kernel_rfl) (by kernel_rfl) Try.underlying22 Try.underlying5 Try.underlying24 (hval 0 27 v0 rfl rfl)
  have k1 := h1
  have lt1 : ∀ x ∈ p1, x.block < W.heap.size := by obtain ⟨m, hm⟩ := k1; exact DataW.trod_lt m _ _ _ hm
  obtain ⟨f, rfl, hw1⟩ := open_arr (n := 100) (k := .i16) Try.underlying25 (by kernel_rfl) (by kernel_rfl) Try.underlying24 (hval 1 25 v1 rfl rfl)
  have hf : ∀ i, i < 100 → -32768 ≤ f i ∧ f i ≤ 32767 := fun i hi => bounds_i16 (hw1 i hi)
  clear hA0 hval0
  refine (FnExactValidFears_walk F hF f hf W).mono fun e W' ⟨he, hx⟩ => ?_
  have bel := hx.below
  subst he
  exact ⟨_, rfl, _, _, _, [], _, [], hW', trodAll_mk1 (shut_bool Try.underlying4 _), (trodAll_cons_mk (Below.trod laidOut_ (by kernel_rfl) (of_decide_eq_true (by kernel_rfl)) k0 bel lt0) (trodAll_cons_mk (Below.trod laidOut_ (by kernel_rfl) (of_decide_eq_true (by kernel_rfl)) k1 bel lt1) trodAll_mk0)), rfl, bel.frame _, fun h => by cases h⟩
theorem fnExactValidFears_holds : Rows.FnExactValidFearsSaid :=
  OpenClaim.holds_of_wide 9 Try.f9 rfl rfl rfl rfl rfl rfl rfl ⟨rfl, rfl, rfl, rfl, rfl⟩ rfl rfl rfl rfl rfl (by kernel_rfl) Try.func9 (by kernel_rfl)
    (of_decide_eq_true (by kernel_rfl)) (by unfold Func.isWrapper; first | (rw [if_pos (by decide +kernel)]; kernel_rfl) | (rw [if_neg (by decide +kernel)]; exact ⟨rfl, rfl⟩))
    (fun os started H enc _ => fnExactValidFears_lifted os started H enc)
end Go.Proofs.Ythiiampknelbjaa
