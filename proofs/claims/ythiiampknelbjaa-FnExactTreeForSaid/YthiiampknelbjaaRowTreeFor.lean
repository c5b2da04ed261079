/-
  For all arguments, the law FnExactTreeFor returns true; its arguments read as they did. No conditions.
-/
import Derived.Test.YthiiampknelbjaaRows
import Derived.Test.YthiiampknelbjaaFn5
import Derived.Test.YthiiampknelbjaaRowk
import Derived.WalkKit
import Derived.ProofKit
import Derived.OpenShut
import Derived.ShutString
import Derived.ChangeOld
import Derived.Below
import Derived.SizedLaws
namespace Go.Proofs.Ythiiampknelbjaa
open Go.ChangeShapes Go.WideShapes Go.ChangeAt Go.RowKit
open Go.ChangeMaps (open_string shut_string)
set_option linter.unusedVariables false
theorem ownKnob_none : ownKnob Try.prog.godebug = none := by kernel_rfl
theorem laidOut_ : laidOutB Try.prog = true := by kernel_rfl
section
set_option maxHeartbeats 4000000
set_option maxRecDepth 100000
attribute [local irreducible] wpList Code.wp
--# walk FnExactTreeFor
theorem FnExactTreeFor_walk (F : Fld) (hF : F.wf) (c : Int) (w : World) :
 Calls Try.prog 11 #[.agg F.cells, .int .i64 c] w fun e w' => e = .returned (.bool true) ∧ Ext w w' := by
 refine calls_of_wp Try.func11 rfl ?_
 refine wp_frame (a' := ⟨#[.agg F.cells, .int .i64 c, undef, undef, undef, undef, undef, undef, undef, undef, undef, undef, undef, undef, undef, undef, undef, undef, undef, undef, undef, undef, undef, undef, undef, undef, undef, undef, undef, undef, undef], []⟩) (by kernel_rfl) ?_
 refine wsr ?_
 refine wbox F.cells ?_
 intro g1 w1 B1 E1 _
 refine wv (.bool false) ?_
 refine wpList_nil (then_normal ?_)
 refine wsr ?_
 refine wrow row_laws_Field B1 (by exact Fld.size_cells _) ?_
 refine wcl (toField_any F hF _) ?_
 intro w2 E2
 refine wv (.int .i64 c) ?_
 refine wcl (sTreeFor_any F hF c _) ?_
 intro w3 E3
 refine wv (.tuple #[.int .i64 (tree0 F c), .int .i64 (tree1 F c)]) ?_
 refine wv (.int .i64 (tree0 F c)) ?_
 refine wv (.int .i64 (tree1 F c)) ?_
 refine wv (.int .i64 (tree0 F c)) ?_
 refine wv (.int .i64 (tree1 F c)) ?_
 refine wpList_nil (then_normal ?_)
 refine wsr ?_
 replace B1 := (B1.ext E2).ext E3
 refine wrow row_laws_Field B1 (by exact Fld.size_cells _) ?_
 refine wcl (toField_any F hF _) ?_
 intro w4 E4
 refine wv (.int .i64 c) ?_
 refine wcl (iTreeFor_any F hF c _) ?_
 intro w5 E5
 refine wv (.tuple #[.int .i64 (tree0 F c), .int .i64 (tree1 F c)]) ?_
 refine wv (.int .i64 (tree0 F c)) ?_
 refine wv (.int .i64 (tree1 F c)) ?_
 refine wv (.int .i64 (tree0 F c)) ?_
 refine wv (.int .i64 (tree1 F c)) ?_
 refine wpList_nil (then_normal ?_)
 refine wp_seq ?_
 refine wsr ?_
 refine wv (.int .i64 (tree0 F c)) ?_
 refine wv (.int .i64 (tree0 F c)) ?_
 refine wvv (.bool ((tree0 F c) != (tree0 F c))) (.bool false) (by simp) ?_
 refine wv (.bool false) ?_
 refine wv (.int .i64 (tree1 F c)) ?_
 refine wv (.int .i64 (tree1 F c)) ?_
 refine wvv (.bool ((tree1 F c) != (tree1 F c))) (.bool false) (by simp) ?_
 refine wv (.bool false) ?_
 refine wpList_nil (then_normal ?_)
 refine wcf ?_
 refine wp_skip ?_
 refine then_normal ?_
 refine wsr ?_
 refine wv (.bool true) ?_
 refine wpList_nil (then_normal ?_)
 refine wp_ret ?_
 have H1 := (((((Ext.refl w).trans E1).trans E2).trans E3).trans E4).trans E5
 refine ret1 (.bool true) rfl ?_ rfl ?_
 · exact resT (by kernel_rfl)
 exact ⟨rfl, H1⟩
end
--# row FnExactTreeFor
set_option maxRecDepth 100000 in
theorem fnExactTreeFor_lifted (os : Os) (started : os.Started) (H : Type) (enc : TypeId × Value → H) :
    ReturnsInHanded {} Try.checked os 11 .any (Rows.fnExactTreeForSpec.pre6 enc Try.prog Try.f11 Rows.fnExactTreeForRow.domain false) (Rows.fnExactTreeForSpec.post enc Try.prog Try.f11 false true false false) := by
  refine returnsInHanded_of_change (C := Try.checked) ownKnob_none started (by kernel_rfl) Try.func11
    (ChangeSpec.witness6 (enc := enc) (C := Try.checked) false ⟨#[], #[.agg Try.zeroCells27, .int .i64 0], []⟩ 8 (by kernel_rfl) (by kernel_rfl) (by kernel_rfl) (by kernel_rfl)) ?_
  intro W base args ds gs before hval0 hW hcnd _
  have hval : ∀ (j : Nat) t v, Try.f11.params[j]? = some t → args[j]? = some v → Value.okWide Try.prog W .any base t v := hval0
  have hW' := hW
  obtain ⟨p, q, hA0, hV, rfl, hfz, hnd⟩ := hW
  have hA : DataW.TrodAll enc Try.prog W 0 (fun _ => true) true Try.f11.params.toList args.toList ds p := hA0
  rw [Try.params11] at hA hval
  obtain ⟨v0, vs0, d0, ds0, p0, q0, hargs, rfl, rfl, h0, r0⟩ := trodAll_cons hA
  obtain ⟨v1, vs1, d1, ds1, p1, q1, rfl, rfl, rfl, h1, r1⟩ := trodAll_cons r0
  obtain ⟨rfl, rfl, rfl⟩ := trodAll_nil r1
  obtain rfl : args = #[v0, v1] := by cases args; simp_all
  obtain ⟨rfl, rfl⟩ := trodVars_none hV
  have k0 := h0
  have lt0 : ∀ x ∈ p0, x.block < W.heap.size := by obtain ⟨m, hm⟩ := k0; exact DataW.trod_lt m _ _ _ hm
  obtain ⟨F, rfl, hF⟩ := open_field Try.underlying27 (by kernel_rfl) (by kernel_rfl) Try.underlying22 Try.underlying5 Try.underlying24 (hval 0 27 v0 rfl rfl)
  have k1 := h1
  have lt1 : ∀ x ∈ p1, x.block < W.heap.size := by obtain ⟨m, hm⟩ := k1; exact DataW.trod_lt m _ _ _ hm
  obtain ⟨c, rfl, rfl, rfl, wc⟩ := open_int Try.underlying2 (hval 1 2 v1 rfl rfl) h1
  have hbc := bounds_i64 wc
  clear hA0 hval0
  refine (FnExactTreeFor_walk F hF c W).mono fun e W' ⟨he, hx⟩ => ?_
  have bel := hx.below
  subst he
  exact ⟨_, rfl, _, _, _, [], _, [], hW', trodAll_mk1 (shut_bool Try.underlying4 _), (trodAll_cons_mk (Below.trod laidOut_ (by kernel_rfl) (of_decide_eq_true (by kernel_rfl)) k0 bel lt0) (trodAll_cons_mk (Below.trod laidOut_ (by kernel_rfl) (of_decide_eq_true (by kernel_rfl)) k1 bel lt1) trodAll_mk0)), rfl, bel.frame _, fun h => by cases h⟩
theorem fnExactTreeFor_holds : Rows.FnExactTreeForSaid :=
  OpenClaim.holds_of_wide 11 Try.f11 rfl rfl rfl rfl rfl rfl rfl ⟨rfl, rfl, rfl, rfl, rfl⟩ rfl rfl rfl rfl rfl (by kernel_rfl) Try.func11 (by kernel_rfl)
    (of_decide_eq_true (by kernel_rfl)) (by unfold Func.isWrapper; first | (rw [if_pos (by decide +kernel)]; kernel_rfl) | (rw [if_neg (by decide +kernel)]; exact ⟨rfl, rfl⟩))
    (fun os started H enc _ => fnExactTreeFor_lifted os started H enc)
end Go.Proofs.Ythiiampknelbjaa
