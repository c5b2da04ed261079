/-
  For all arguments, the law FnExactSeedsIn returns true; its arguments read as they did. No conditions.
-/
import Derived.Test.YtjnlbincgakmpaaRows
import Derived.Test.YtjnlbincgakmpaaFn3
import Derived.Test.YtjnlbincgakmpaaRowk
import Derived.WalkKit
import Derived.ProofKit
import Derived.OpenShut
import Derived.ShutString
import Derived.ChangeOld
import Derived.Below
import Derived.SizedLaws
namespace Go.Proofs.Ytjnlbincgakmpaa
open Go.ChangeShapes Go.WideShapes Go.ChangeAt Go.RowKit
open Go.ChangeMaps (open_string shut_string)
set_option linter.unusedVariables false
theorem ownKnob_none : ownKnob Try.prog.godebug = none := by kernel_rfl
theorem laidOut_ : laidOutB Try.prog = true := by kernel_rfl
section
set_option maxHeartbeats 4000000
attribute [local irreducible] wpList Code.wp
--# walk FnExactSeedsIn
theorem FnExactSeedsIn_walk (F : Fld) (hF : F.wf) (w : World) :
 Calls Try.prog 7 #[.agg F.cells] w fun e w' => e = .returned (.bool true) ∧ Ext w w' := by
 refine calls_of_wp Try.func7 rfl ?_
 refine wp_frame (a' := ⟨#[.agg F.cells, undef, undef, undef, undef, undef, undef, undef, undef, undef, undef, undef, undef, undef, undef, undef, undef, undef, undef, undef, undef, undef, undef, undef, undef, undef, undef], []⟩) (by kernel_rfl) ?_
 refine wsr ?_
 refine wbox F.cells ?_
 intro g1 w1 B1 E1 _
 refine wv (.bool false) ?_
 refine wpList_nil (then_normal ?_)
 refine wsr ?_
 refine wrow row_laws_Field B1 (by exact Fld.size_cells _) ?_
 refine wcl (toField_any F hF _) ?_
 intro w2 E2
 refine wcl (sSeedsIn_any F hF _) ?_
 intro w3 E3
 refine wv (.tuple #[.int .i64 (if okB F = true then sumN F.s 100 else 0), .int .i64 (okC F)]) ?_
 refine wv (.int .i64 (if okB F = true then sumN F.s 100 else 0)) ?_
 refine wv (.int .i64 (okC F)) ?_
 refine wv (.int .i64 (if okB F = true then sumN F.s 100 else 0)) ?_
 refine wv (.int .i64 (okC F)) ?_
 refine wpList_nil (then_normal ?_)
 refine wsr ?_
 replace B1 := (B1.ext E2).ext E3
 refine wrow row_laws_Field B1 (by exact Fld.size_cells _) ?_
 refine wcl (toField_any F hF _) ?_
 intro w4 E4
 refine wcl (iSeedsIn_any F hF _) ?_
 intro w5 E5
 refine wv (.tuple #[.int .i64 (if okB F = true then sumN F.s 100 else 0), .int .i64 (okC F)]) ?_
 refine wv (.int .i64 (if okB F = true then sumN F.s 100 else 0)) ?_
 refine wv (.int .i64 (okC F)) ?_
 refine wv (.int .i64 (if okB F = true then sumN F.s 100 else 0)) ?_
 refine wv (.int .i64 (okC F)) ?_
 refine wpList_nil (then_normal ?_)
 refine wp_seq ?_
 refine wsr ?_
 refine wv (.int .i64 (if okB F = true then sumN F.s 100 else 0)) ?_
 refine wv (.int .i64 (if okB F = true then sumN F.s 100 else 0)) ?_
 refine wvv (.bool ((if okB F = true then sumN F.s 100 else 0) != (if okB F = true then sumN F.s 100 else 0))) (.bool false) (by simp) ?_
 refine wv (.bool false) ?_
 refine wv (.int .i64 (okC F)) ?_
 refine wv (.int .i64 (okC F)) ?_
 refine wvv (.bool ((okC F) != (okC F))) (.bool false) (by simp) ?_
 refine wv (.bool false) ?_
 refine wpList_nil (then_normal ?_)
 refine wcf ?_
 refine wp_skip ?_
 refine then_normal ?_
 refine wsr ?_
 refine wv (.bool true) ?_
 refine wpList_nil (then_normal ?_)
 refine wp_ret ?_
 have H1 := (((((Ext.refl w).trans E1).trans E2).trans E3).trans E4).trans E5
 refine ret1 (.bool true) rfl ?_ rfl ?_
 · exact resT (by kernel_rfl)
 exact ⟨rfl, H1⟩
end
--# row FnExactSeedsIn
set_option maxRecDepth 100000 in
theorem fnExactSeedsIn_lifted (os : Os) (started : os.Started) (H : Type) (enc : TypeId × Value → H) :
    ReturnsInHanded {} Try.checked os 7 .any (Rows.fnExactSeedsInSpec.pre6 enc Try.prog Try.f7 Rows.fnExactSeedsInRow.domain false) (Rows.fnExactSeedsInSpec.post enc Try.prog Try.f7 false true false false) := by
  refine returnsInHanded_of_change (C := Try.checked) ownKnob_none started (by kernel_rfl) Try.func7
    (ChangeSpec.witness6 (enc := enc) (C := Try.checked) false ⟨#[], #[.agg Try.zeroCells37], []⟩ 8 (by kernel_rfl) (by kernel_rfl) (by kernel_rfl) (by kernel_rfl)) ?_
  intro W base args ds gs before hval0 hW hcnd _
  have hval : ∀ (j : Nat) t v, Try.f7.params[j]? = some t → args[j]? = some v → Value.okWide Try.prog W .any base t v := hval0
  have hW' := hW
  obtain ⟨p, q, hA0, hV, rfl, hfz, hnd⟩ := hW
  have hA : DataW.TrodAll enc Try.prog W 0 (fun _ => true) true Try.f7.params.toList args.toList ds p := hA0
  rw [Try.params7] at hA hval
  obtain ⟨v0, vs0, d0, ds0, p0, q0, hargs, rfl, rfl, h0, r0⟩ := trodAll_cons hA
  obtain ⟨rfl, rfl, rfl⟩ := trodAll_nil r0
  obtain rfl : args = #[v0] := by cases args; simp_all
  obtain ⟨rfl, rfl⟩ := trodVars_none hV
  have k0 := h0
  have lt0 : ∀ x ∈ p0, x.block < W.heap.size := by obtain ⟨m, hm⟩ := k0; exact DataW.trod_lt m _ _ _ hm
  obtain ⟨F, rfl, hF⟩ := open_field Try.underlying37 (by kernel_rfl) (by kernel_rfl) Try.underlying32 Try.underlying5 Try.underlying34 (hval 0 37 v0 rfl rfl)
  clear hA0 hval0
  refine (FnExactSeedsIn_walk F hF W).mono fun e W' ⟨he, hx⟩ => ?_
  have bel := hx.below
  subst he
  exact ⟨_, rfl, _, _, _, [], _, [], hW', trodAll_mk1 (shut_bool Try.underlying4 _), (trodAll_cons_mk (Below.trod laidOut_ (by kernel_rfl) (of_decide_eq_true (by kernel_rfl)) k0 bel lt0) trodAll_mk0), rfl, bel.frame _, fun h => by cases h⟩
theorem fnExactSeedsIn_holds : Rows.FnExactSeedsInSaid :=
  OpenClaim.holds_of_wide 7 Try.f7 rfl rfl rfl rfl rfl rfl rfl ⟨rfl, rfl, rfl, rfl, rfl⟩ rfl rfl rfl rfl rfl (by kernel_rfl) Try.func7 (by kernel_rfl)
    (of_decide_eq_true (by kernel_rfl)) (by unfold Func.isWrapper; first | (rw [if_pos (by decide +kernel)]; kernel_rfl) | (rw [if_neg (by decide +kernel)]; exact ⟨rfl, rfl⟩))
    (fun os started H enc _ => fnExactSeedsIn_lifted os started H enc)
end Go.Proofs.Ytjnlbincgakmpaa
