/-
  For all arguments, the law FnExactTurnField returns true; its arguments read as they did. No conditions.
-/
import Derived.Test.YthiiampknelbjaaRows
import Derived.Test.YthiiampknelbjaaFn12
import Derived.Test.YthiiampknelbjaaRowk
import Derived.WalkKit
import Derived.ProofKit
import Derived.OpenShut
import Derived.ShutString
import Derived.ChangeOld
import Derived.Below
import Derived.SizedLaws
namespace Go.Proofs.Ythiiampknelbjaa
open Go.ChangeShapes Go.WideShapes Go.ChangeAt Go.RowKit
open Go.ChangeMaps (open_string shut_string)
set_option linter.unusedVariables false
theorem ownKnob_none : ownKnob Try.prog.godebug = none := by kernel_rfl
theorem laidOut_ : laidOutB Try.prog = true := by kernel_rfl
section
set_option maxHeartbeats 4000000
set_option maxRecDepth 100000
attribute [local irreducible] wpList Code.wp
--# walk FnExactTurnField
theorem FnExactTurnField_walk (F : Fld) (hF : F.wf) (w : World) :
 Calls Try.prog 5 #[.agg F.cells] w fun e w' => e = .returned (.bool true) ∧ Ext w w' := by
 refine calls_of_wp Try.func5 rfl ?_
 refine wp_frame (a' := ⟨#[.agg F.cells, undef, undef, undef, undef, undef, undef, undef, undef, undef, undef, undef, undef, undef, undef, undef, undef, undef, undef, undef, undef, undef, undef, undef, undef, undef, undef, undef], []⟩) (by kernel_rfl) ?_
 refine wsr ?_
 refine wbox F.cells ?_
 intro g1 w1 B1 E1 hg_
 have lo_g1 := Nat.le_trans ((Ext.refl w)).size hg_
 refine wv (.bool false) ?_
 refine wpList_nil (then_normal ?_)
 refine wsr ?_
 refine wrow row_laws_Field B1 (by exact Fld.size_cells _) ?_
 refine wcl (toField_any F hF _) ?_
 intro w2 E2
 refine wcl (sTurnField_any F hF _) ?_
 intro w3 E3
 refine wv (.tuple #[.agg (Fld.cells (turF F)), .int .i64 (okC F)]) ?_
 refine wv (.agg (Fld.cells (turF F))) ?_
 refine wv (.int .i64 (okC F)) ?_
 have H1 := (((Ext.refl w).trans E1).trans E2).trans E3
 replace B1 := (B1.ext E2).ext E3
 refine wnew (Fld.cells Fld.zero) Try.zeroValue28 zero_impl_Field ?_
 intro g2 w4 B2 E4 hg_
 have q_g1_g2 := Nat.ne_of_lt (Nat.lt_of_lt_of_le B1.lt hg_)
 have lo_g2 := Nat.le_trans (H1).size hg_
 refine wput (Fld.cells (turF F)) row_impl_Field B2 (by exact Fld.size_cells _) (by exact Fld.size_cells _) (by exact Fld.one_cells _) ?_
 intro w5 B2_ X1
 clear B2; have B2 := B2_; clear B2_
 refine wv (.int .i64 (okC F)) ?_
 refine wpList_nil (then_normal ?_)
 refine wsr ?_
 replace B1 := X1.blk (B1.ext E4) q_g1_g2
 refine wrow row_laws_Field B1 (by exact Fld.size_cells _) ?_
 refine wcl (toField_any F hF _) ?_
 intro w6 E5
 refine wcl (iTurnField_any F hF _) ?_
 intro w7 E6
 refine wv (.tuple #[.agg (Fld.cells (turF F)), .int .i64 (okC F)]) ?_
 refine wv (.agg (Fld.cells (turF F))) ?_
 refine wv (.int .i64 (okC F)) ?_
 have H2 := ((X1.ext w lo_g2 (H1.trans E4)).trans E5).trans E6
 replace B1 := (B1.ext E5).ext E6
 replace B2 := (B2.ext E5).ext E6
 refine wnew (Fld.cells Fld.zero) Try.zeroValue28 zero_impl_Field ?_
 intro g3 w8 B3 E7 hg_
 have q_g1_g3 := Nat.ne_of_lt (Nat.lt_of_lt_of_le B1.lt hg_)
 have q_g2_g3 := Nat.ne_of_lt (Nat.lt_of_lt_of_le B2.lt hg_)
 have lo_g3 := Nat.le_trans (H2).size hg_
 refine wput (Fld.cells (turF F)) row_impl_Field B3 (by exact Fld.size_cells _) (by exact Fld.size_cells _) (by exact Fld.one_cells _) ?_
 intro w9 B3_ X2
 clear B3; have B3 := B3_; clear B3_
 refine wv (.int .i64 (okC F)) ?_
 refine wpList_nil (then_normal ?_)
 refine wp_seq ?_
 refine wsr ?_
 refine wrow row_impl_Field B3 (by exact Fld.size_cells _) ?_
 replace B2 := X2.blk (B2.ext E7) q_g2_g3
 refine wrow row_impl_Field B2 (by exact Fld.size_cells _) ?_
 refine wcl (eqField_same (turF F) _) ?_
 intro w10 E8
 refine wv (.bool false) ?_
 refine wv (.bool false) ?_
 refine wv (.int .i64 (okC F)) ?_
 refine wv (.int .i64 (okC F)) ?_
 refine wvv (.bool ((okC F) != (okC F))) (.bool false) (by simp) ?_
 refine wv (.bool false) ?_
 refine wpList_nil (then_normal ?_)
 refine wcf ?_
 refine wp_skip ?_
 refine then_normal ?_
 refine wsr ?_
 refine wv (.bool true) ?_
 refine wpList_nil (then_normal ?_)
 refine wp_ret ?_
 have H3 := (X2.ext w lo_g3 (H2.trans E7)).trans E8
 refine ret1 (.bool true) rfl ?_ rfl ?_
 · exact resT (by kernel_rfl)
 exact ⟨rfl, H3⟩
end
--# row FnExactTurnField
set_option maxRecDepth 100000 in
theorem fnExactTurnField_lifted (os : Os) (started : os.Started) (H : Type) (enc : TypeId × Value → H) :
    ReturnsInHanded {} Try.checked os 5 .any (Rows.fnExactTurnFieldSpec.pre6 enc Try.prog Try.f5 Rows.fnExactTurnFieldRow.domain false) (Rows.fnExactTurnFieldSpec.post enc Try.prog Try.f5 false true false false) := by
  refine returnsInHanded_of_change (C := Try.checked) ownKnob_none started (by kernel_rfl) Try.func5
    (ChangeSpec.witness6 (enc := enc) (C := Try.checked) false ⟨#[], #[.agg Try.zeroCells27], []⟩ 8 (by kernel_rfl) (by kernel_rfl) (by kernel_rfl) (by kernel_rfl)) ?_
  intro W base args ds gs before hval0 hW hcnd _
  have hval : ∀ (j : Nat) t v, Try.f5.params[j]? = some t → args[j]? = some v → Value.okWide Try.prog W .any base t v := hval0
  have hW' := hW
  obtain ⟨p, q, hA0, hV, rfl, hfz, hnd⟩ := hW
  have hA : DataW.TrodAll enc Try.prog W 0 (fun _ => true) true Try.f5.params.toList args.toList ds p := hA0
  rw [Try.params5] at hA hval
  obtain ⟨v0, vs0, d0, ds0, p0, q0, hargs, rfl, rfl, h0, r0⟩ := trodAll_cons hA
  obtain ⟨rfl, rfl, rfl⟩ := trodAll_nil r0
  obtain rfl : args = #[v0] := by cases args; simp_all
  obtain ⟨rfl, rfl⟩ := trodVars_none hV
  have k0 := h0
  have lt0 : ∀ x ∈ p0, x.block < W.heap.size := by obtain ⟨m, hm⟩ := k0; exact DataW.trod_lt m _ _ _ hm
  obtain ⟨F, rfl, hF⟩ := open_field Try.underlying27 (by kernel_rfl) (by kernel_rfl) Try.underlying22 Try.underlying5 Try.underlying24 (hval 0 27 v0 rfl rfl)
  clear hA0 hval0
  refine (FnExactTurnField_walk F hF W).mono fun e W' ⟨he, hx⟩ => ?_
  have bel := hx.below
  subst he
  exact ⟨_, rfl, _, _, _, [], _, [], hW', trodAll_mk1 (shut_bool Try.underlying4 _), (trodAll_cons_mk (Below.trod laidOut_ (by kernel_rfl) (of_decide_eq_true (by kernel_rfl)) k0 bel lt0) trodAll_mk0), rfl, bel.frame _, fun h => by cases h⟩
theorem fnExactTurnField_holds : Rows.FnExactTurnFieldSaid :=
  OpenClaim.holds_of_wide 5 Try.f5 rfl rfl rfl rfl rfl rfl rfl ⟨rfl, rfl, rfl, rfl, rfl⟩ rfl rfl rfl rfl rfl (by kernel_rfl) Try.func5 (by kernel_rfl)
    (of_decide_eq_true (by kernel_rfl)) (by unfold Func.isWrapper; first | (rw [if_pos (by decide +kernel)]; kernel_rfl) | (rw [if_neg (by decide +kernel)]; exact ⟨rfl, rfl⟩))
    (fun os started H enc _ => fnExactTurnField_lifted os started H enc)
end Go.Proofs.Ythiiampknelbjaa
