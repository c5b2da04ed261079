/-
  For all arguments, the law FnExactSameField returns true; its arguments read as they did. No conditions.
-/
import Derived.Test.YthmdcnoockoggaaRows
import Derived.Test.YthmdcnoockoggaaFn10
import Derived.Test.YthmdcnoockoggaaRowk
import Derived.WalkKit
import Derived.ProofKit
import Derived.OpenShut
import Derived.ShutString
import Derived.ChangeOld
import Derived.Below
import Derived.SizedLaws
namespace Go.Proofs.Ythmdcnoockoggaa
open Go.ChangeShapes Go.WideShapes Go.ChangeAt Go.RowKit
open Go.ChangeMaps (open_string shut_string)
set_option linter.unusedVariables false
theorem ownKnob_none : ownKnob Try.prog.godebug = none := by kernel_rfl
theorem laidOut_ : laidOutB Try.prog = true := by kernel_rfl
section
set_option maxHeartbeats 4000000
set_option maxRecDepth 100000
attribute [local irreducible] wpList Code.wp
--# walk FnExactSameField
theorem FnExactSameField_walk (F : Fld) (hF : F.wf) (G : Fld) (hG : G.wf) (w : World) :
 Calls Try.prog 12 #[.agg F.cells, .agg G.cells] w fun e w' => e = .returned (.bool true) ∧ Ext w w' := by
 refine calls_of_wp Try.func12 rfl ?_
 refine wp_frame (a' := ⟨#[.agg F.cells, .agg G.cells, undef, undef, undef, undef, undef, undef, undef, undef, undef, undef, undef, undef, undef, undef, undef, undef, undef, undef], []⟩) (by kernel_rfl) ?_
 refine wsr ?_
 refine wbox F.cells ?_
 intro g1 w1 B1 E1 _
 refine wbox G.cells ?_
 intro g2 w2 B2 E2 _
 refine wv (.bool false) ?_
 refine wpList_nil (then_normal ?_)
 refine wp_seq ?_
 refine wp_frame (a' := ⟨#[.agg F.cells, .agg G.cells, .pointer (some ⟨g1, 0, none⟩), .pointer (some ⟨g2, 0, none⟩), .bool false, undef, undef, undef, undef, undef, undef, undef, undef, undef, undef, undef, undef, undef, undef, undef], []⟩) (by kernel_rfl) ?_
 replace B1 := B1.ext E2
 refine region_go 6 [7, 8, 9, 10, 11, 5] [[], [0], [], [2], [1, 3], [4]]
  (fun i_ => ([.val (.agg F.cells), .val (.agg F.cells), .val (.agg G.cells), .val (.agg G.cells), .val (.bool (eqFld F G)), .val (.bool (eqFld F G))] : List Fct).getD i_ .any)
  (by kernel_rfl) (by kernel_rfl) (by decide) (by simp) rfl (all_succ (all_succ (all_succ (all_succ (all_succ (all_succ all_zero ?_) ?_) ?_) ?_) ?_) ?_) ?_
 · refine step0 rfl rfl rfl (fun wr hw => ?_)
   with_reducible refine OpRun.row (x := (.tmp 2)) row_laws_Field (B1.ext hw) ?_ ?_ ?_ ?_
   · exact Fld.size_cells _
   · rfl
   · kernel_rfl
   · exact ⟨Ext.refl _, rfl⟩
 · refine step1 rfl rfl rfl rfl (fun u0 wr hw h0 => ?_)
   cases h0
   exact OpRun.call 54 #[.agg F.cells] (by kernel_rfl) ((toField_any F hF _).mono fun e w1 ⟨he, hb⟩ => ⟨_, he, hb, rfl⟩)
 · refine step0 rfl rfl rfl (fun wr hw => ?_)
   with_reducible refine OpRun.row (x := (.tmp 3)) row_laws_Field (B2.ext hw) ?_ ?_ ?_ ?_
   · exact Fld.size_cells _
   · rfl
   · kernel_rfl
   · exact ⟨Ext.refl _, rfl⟩
 · refine step1 rfl rfl rfl rfl (fun u0 wr hw h0 => ?_)
   cases h0
   exact OpRun.call 54 #[.agg G.cells] (by kernel_rfl) ((toField_any G hG _).mono fun e w1 ⟨he, hb⟩ => ⟨_, he, hb, rfl⟩)
 · refine step2 rfl rfl rfl rfl rfl (fun u0 u1 wr hw h0 h1 => ?_)
   cases h0
   cases h1
   exact OpRun.call 53 #[.agg F.cells, .agg G.cells] (by kernel_rfl) ((sSameField_any F G _).mono fun e w1 ⟨he, hb⟩ => ⟨_, he, hb, rfl⟩)
 · refine step1 rfl rfl rfl rfl (fun u0 wr hw h0 => ?_)
   cases h0
   exact OpRun.val (.bool (eqFld F G)) (.bool (eqFld F G)) (by kernel_rfl) rfl ⟨Ext.refl _, rfl⟩
 refine end6 (fun u0 u1 u2 u3 u4 u5 w3 E3 f0 f1 f2 f3 f4 f5 => ?_)
 cases f0
 cases f1
 cases f2
 cases f3
 cases f4
 cases f5
 refine wpList_nil (then_normal ?_)
 refine wp_seq ?_
 refine wp_frame (a' := ⟨#[.agg F.cells, .agg G.cells, .pointer (some ⟨g1, 0, none⟩), .pointer (some ⟨g2, 0, none⟩), .bool false, .bool (eqFld F G), undef, .agg F.cells, .agg F.cells, .agg G.cells, .agg G.cells, .bool (eqFld F G), undef, undef, undef, undef, undef, undef, undef, undef], []⟩) (by kernel_rfl) ?_
 replace B1 := B1.ext E3
 replace B2 := B2.ext E3
 refine region_go 6 [12, 13, 14, 15, 16, 6] [[], [0], [], [2], [1, 3], [4]]
  (fun i_ => ([.val (.agg F.cells), .val (.agg F.cells), .val (.agg G.cells), .val (.agg G.cells), .val (.bool (eqFld F G)), .val (.bool (eqFld F G))] : List Fct).getD i_ .any)
  (by kernel_rfl) (by kernel_rfl) (by decide) (by simp) rfl (all_succ (all_succ (all_succ (all_succ (all_succ (all_succ all_zero ?_) ?_) ?_) ?_) ?_) ?_) ?_
 · refine step0 rfl rfl rfl (fun wr hw => ?_)
   with_reducible refine OpRun.row (x := (.tmp 2)) row_laws_Field (B1.ext hw) ?_ ?_ ?_ ?_
   · exact Fld.size_cells _
   · rfl
   · kernel_rfl
   · exact ⟨Ext.refl _, rfl⟩
 · refine step1 rfl rfl rfl rfl (fun u0 wr hw h0 => ?_)
   cases h0
   exact OpRun.call 54 #[.agg F.cells] (by kernel_rfl) ((toField_any F hF _).mono fun e w1 ⟨he, hb⟩ => ⟨_, he, hb, rfl⟩)
 · refine step0 rfl rfl rfl (fun wr hw => ?_)
   with_reducible refine OpRun.row (x := (.tmp 3)) row_laws_Field (B2.ext hw) ?_ ?_ ?_ ?_
   · exact Fld.size_cells _
   · rfl
   · kernel_rfl
   · exact ⟨Ext.refl _, rfl⟩
 · refine step1 rfl rfl rfl rfl (fun u0 wr hw h0 => ?_)
   cases h0
   exact OpRun.call 54 #[.agg G.cells] (by kernel_rfl) ((toField_any G hG _).mono fun e w1 ⟨he, hb⟩ => ⟨_, he, hb, rfl⟩)
 · refine step2 rfl rfl rfl rfl rfl (fun u0 u1 wr hw h0 h1 => ?_)
   cases h0
   cases h1
   exact OpRun.call 55 #[.agg F.cells, .agg G.cells] (by kernel_rfl) ((iSameField_any F G _).mono fun e w1 ⟨he, hb⟩ => ⟨_, he, hb, rfl⟩)
 · refine step1 rfl rfl rfl rfl (fun u0 wr hw h0 => ?_)
   cases h0
   exact OpRun.val (.bool (eqFld F G)) (.bool (eqFld F G)) (by kernel_rfl) rfl ⟨Ext.refl _, rfl⟩
 refine end6 (fun u0 u1 u2 u3 u4 u5 w4 E4 f0 f1 f2 f3 f4 f5 => ?_)
 cases f0
 cases f1
 cases f2
 cases f3
 cases f4
 cases f5
 refine wpList_nil (then_normal ?_)
 refine wp_seq ?_
 refine wsr ?_
 refine wv (.bool (eqFld F G)) ?_
 refine wv (.bool (eqFld F G)) ?_
 refine wvv (.bool ((eqFld F G) != (eqFld F G))) (.bool false) (by simp) ?_
 refine wpList_nil (then_normal ?_)
 refine wcf ?_
 refine wp_skip ?_
 refine then_normal ?_
 refine wsr ?_
 refine wv (.bool true) ?_
 refine wpList_nil (then_normal ?_)
 refine wp_ret ?_
 have H1 := ((((Ext.refl w).trans E1).trans E2).trans E3).trans E4
 refine ret1 (.bool true) rfl ?_ rfl ?_
 · exact resT (by kernel_rfl)
 exact ⟨rfl, H1⟩
end
--# row FnExactSameField
set_option maxRecDepth 100000 in
theorem fnExactSameField_lifted (os : Os) (started : os.Started) (H : Type) (enc : TypeId × Value → H) :
    ReturnsInHanded {} Try.checked os 12 .any (Rows.fnExactSameFieldSpec.pre6 enc Try.prog Try.f12 Rows.fnExactSameFieldRow.domain false) (Rows.fnExactSameFieldSpec.post enc Try.prog Try.f12 false true false false) := by
  refine returnsInHanded_of_change (C := Try.checked) ownKnob_none started (by kernel_rfl) Try.func12
    (ChangeSpec.witness6 (enc := enc) (C := Try.checked) false ⟨#[], #[.agg Try.zeroCells72, .agg Try.zeroCells72], []⟩ 8 (by kernel_rfl) (by kernel_rfl) (by kernel_rfl) (by kernel_rfl)) ?_
  intro W base args ds gs before hval0 hW hcnd _
  have hval : ∀ (j : Nat) t v, Try.f12.params[j]? = some t → args[j]? = some v → Value.okWide Try.prog W .any base t v := hval0
  have hW' := hW
  obtain ⟨p, q, hA0, hV, rfl, hfz, hnd⟩ := hW
  have hA : DataW.TrodAll enc Try.prog W 0 (fun _ => true) true Try.f12.params.toList args.toList ds p := hA0
  rw [Try.params12] at hA hval
  obtain ⟨v0, vs0, d0, ds0, p0, q0, hargs, rfl, rfl, h0, r0⟩ := trodAll_cons hA
  obtain ⟨v1, vs1, d1, ds1, p1, q1, rfl, rfl, rfl, h1, r1⟩ := trodAll_cons r0
  obtain ⟨rfl, rfl, rfl⟩ := trodAll_nil r1
  obtain rfl : args = #[v0, v1] := by cases args; simp_all
  obtain ⟨rfl, rfl⟩ := trodVars_none hV
  have k0 := h0
  have lt0 : ∀ x ∈ p0, x.block < W.heap.size := by obtain ⟨m, hm⟩ := k0; exact DataW.trod_lt m _ _ _ hm
  obtain ⟨F, rfl, hF⟩ := open_field Try.underlying72 (by kernel_rfl) (by kernel_rfl) Try.underlying41 Try.underlying5 Try.underlying23 (hval 0 72 v0 rfl rfl)
  have k1 := h1
  have lt1 : ∀ x ∈ p1, x.block < W.heap.size := by obtain ⟨m, hm⟩ := k1; exact DataW.trod_lt m _ _ _ hm
  obtain ⟨G, rfl, hG⟩ := open_field Try.underlying72 (by kernel_rfl) (by kernel_rfl) Try.underlying41 Try.underlying5 Try.underlying23 (hval 1 72 v1 rfl rfl)
  clear hA0 hval0
  refine (FnExactSameField_walk F hF G hG W).mono fun e W' ⟨he, hx⟩ => ?_
  have bel := hx.below
  subst he
  exact ⟨_, rfl, _, _, _, [], _, [], hW', trodAll_mk1 (shut_bool Try.underlying4 _), (trodAll_cons_mk (Below.trod laidOut_ (by kernel_rfl) (of_decide_eq_true (by kernel_rfl)) k0 bel lt0) (trodAll_cons_mk (Below.trod laidOut_ (by kernel_rfl) (of_decide_eq_true (by kernel_rfl)) k1 bel lt1) trodAll_mk0)), rfl, bel.frame _, fun h => by cases h⟩
theorem fnExactSameField_holds : Rows.FnExactSameFieldSaid :=
  OpenClaim.holds_of_wide 12 Try.f12 rfl rfl rfl rfl rfl rfl rfl ⟨rfl, rfl, rfl, rfl, rfl⟩ rfl rfl rfl rfl rfl (by kernel_rfl) Try.func12 (by kernel_rfl)
    (of_decide_eq_true (by kernel_rfl)) (by unfold Func.isWrapper; first | (rw [if_pos (by decide +kernel)]; kernel_rfl) | (rw [if_neg (by decide +kernel)]; exact ⟨rfl, rfl⟩))
    (fun os started H enc _ => fnExactSameField_lifted os started H enc)
end Go.Proofs.Ythmdcnoockoggaa
