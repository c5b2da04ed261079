/-
  For all arguments, the law FnExactCalmFears returns true; its arguments read as they did. No conditions.
-/
import Derived.Test.YthmdcnoockoggaaRows
import Derived.Test.YthmdcnoockoggaaFn7
import Derived.Test.YthmdcnoockoggaaRowk
import Derived.WalkKit
import Derived.ProofKit
import Derived.OpenShut
import Derived.ShutString
import Derived.ChangeOld
import Derived.Below
import Derived.SizedLaws
namespace Go.Proofs.Ythmdcnoockoggaa
open Go.ChangeShapes Go.WideShapes Go.ChangeAt Go.RowKit
open Go.ChangeMaps (open_string shut_string)
set_option linter.unusedVariables false
theorem ownKnob_none : ownKnob Try.prog.godebug = none := by kernel_rfl
theorem laidOut_ : laidOutB Try.prog = true := by kernel_rfl
section
set_option maxHeartbeats 4000000
set_option maxRecDepth 100000
attribute [local irreducible] wpList Code.wp
--# walk FnExactCalmFears
theorem FnExactCalmFears_walk (w : World) :
 Calls Try.prog 4 #[] w fun e w' => e = .returned (.bool true) ∧ Ext w w' := by
 refine calls_of_wp Try.func4 rfl ?_
 refine wp_frame (a' := ⟨#[undef, undef, undef, undef, undef, undef, undef, undef, undef], []⟩) (by kernel_rfl) ?_
 refine wsr ?_
 refine wv (.bool false) ?_
 refine wpList_nil (then_normal ?_)
 refine wsr ?_
 refine wcl (sCalmFears_any _) ?_
 intro w1 E1
 have H1 := (Ext.refl w).trans E1
 refine wnew (arr 100 .i16 (fun _ => 0)) Try.zeroValue25 zero_impl_Fears ?_
 intro g1 w2 B1 E2 hg_
 have lo_g1 := Nat.le_trans (H1).size hg_
 refine wput (arr 100 .i16 (fun _ => 0)) row_impl_Fears B1 (by exact size_arr _ _ _) (by exact size_arr _ _ _) (by exact one_arr _ _ _) ?_
 intro w3 B1_ X1
 clear B1; have B1 := B1_; clear B1_
 refine wpList_nil (then_normal ?_)
 refine wsr ?_
 refine wcl (iCalmFears_any _) ?_
 intro w4 E3
 have H2 := (X1.ext w lo_g1 (H1.trans E2)).trans E3
 replace B1 := B1.ext E3
 refine wnew (arr 100 .i16 (fun _ => 0)) Try.zeroValue25 zero_impl_Fears ?_
 intro g2 w5 B2 E4 hg_
 have q_g1_g2 := Nat.ne_of_lt (Nat.lt_of_lt_of_le B1.lt hg_)
 have lo_g2 := Nat.le_trans (H2).size hg_
 refine wput (arr 100 .i16 (fun _ => 0)) row_impl_Fears B2 (by exact size_arr _ _ _) (by exact size_arr _ _ _) (by exact one_arr _ _ _) ?_
 intro w6 B2_ X2
 clear B2; have B2 := B2_; clear B2_
 refine wpList_nil (then_normal ?_)
 refine wp_seq ?_
 refine wsr ?_
 refine wrow row_impl_Fears B2 (by exact size_arr _ _ _) ?_
 replace B1 := X2.blk (B1.ext E4) q_g1_g2
 refine wrow row_impl_Fears B1 (by exact size_arr _ _ _) ?_
 refine wcl (eqFears_same (fun _ => 0) _) ?_
 intro w7 E5
 refine wv (.bool false) ?_
 refine wpList_nil (then_normal ?_)
 refine wcf ?_
 refine wp_skip ?_
 refine then_normal ?_
 refine wsr ?_
 refine wv (.bool true) ?_
 refine wpList_nil (then_normal ?_)
 refine wp_ret ?_
 have H3 := (X2.ext w lo_g2 (H2.trans E4)).trans E5
 refine ret1 (.bool true) rfl ?_ rfl ?_
 · exact resT (by kernel_rfl)
 exact ⟨rfl, H3⟩
end
--# row FnExactCalmFears
set_option maxRecDepth 100000 in
theorem fnExactCalmFears_lifted (os : Os) (started : os.Started) (H : Type) (enc : TypeId × Value → H) :
    ReturnsInHanded {} Try.checked os 4 .any (Rows.fnExactCalmFearsSpec.pre6 enc Try.prog Try.f4 Rows.fnExactCalmFearsRow.domain false) (Rows.fnExactCalmFearsSpec.post enc Try.prog Try.f4 false true false false) := by
  refine returnsInHanded_of_change (C := Try.checked) ownKnob_none started (by kernel_rfl) Try.func4
    (ChangeSpec.witness6 (enc := enc) (C := Try.checked) false ⟨#[], #[], []⟩ 8 (by kernel_rfl) (by kernel_rfl) (by kernel_rfl) (by kernel_rfl)) ?_
  intro W base args ds gs before hval0 hW hcnd _
  have hval : ∀ (j : Nat) t v, Try.f4.params[j]? = some t → args[j]? = some v → Value.okWide Try.prog W .any base t v := hval0
  have hW' := hW
  obtain ⟨p, q, hA0, hV, rfl, hfz, hnd⟩ := hW
  have hA : DataW.TrodAll enc Try.prog W 0 (fun _ => true) true Try.f4.params.toList args.toList ds p := hA0
  rw [Try.params4] at hA hval
  obtain ⟨hargs, rfl, rfl⟩ := trodAll_nil hA
  obtain rfl : args = #[] := by cases args; simp_all
  obtain ⟨rfl, rfl⟩ := trodVars_none hV
  clear hA0 hval0
  refine (FnExactCalmFears_walk  W).mono fun e W' ⟨he, hx⟩ => ?_
  have bel := hx.below
  subst he
  exact ⟨_, rfl, _, _, _, [], _, [], hW', trodAll_mk1 (shut_bool Try.underlying4 _), trodAll_mk0, rfl, bel.frame _, fun h => by cases h⟩
theorem fnExactCalmFears_holds : Rows.FnExactCalmFearsSaid :=
  OpenClaim.holds_of_wide 4 Try.f4 rfl rfl rfl rfl rfl rfl rfl ⟨rfl, rfl, rfl, rfl, rfl⟩ rfl rfl rfl rfl rfl (by kernel_rfl) Try.func4 (by kernel_rfl)
    (of_decide_eq_true (by kernel_rfl)) (by unfold Func.isWrapper; first | (rw [if_pos (by decide +kernel)]; kernel_rfl) | (rw [if_neg (by decide +kernel)]; exact ⟨rfl, rfl⟩))
    (fun os started H enc _ => fnExactCalmFears_lifted os started H enc)
end Go.Proofs.Ythmdcnoockoggaa
