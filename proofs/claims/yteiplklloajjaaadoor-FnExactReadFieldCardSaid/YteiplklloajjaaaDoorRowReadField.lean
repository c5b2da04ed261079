/-
  For all arguments, the law FnExactReadField returns true; its arguments read as they did. No conditions. The tied card: the listed variables hold what the program lays.
-/
import Derived.Test.YteiplklloajjaaaDoorRows
import Derived.Test.YteiplklloajjaaaDoorCards
import Derived.Test.YteiplklloajjaaaDoorTie
import Derived.Test.YteiplklloajjaaaDoorFn33
import Derived.Test.YteiplklloajjaaaDoorCdk
import Derived.Test.YteiplklloajjaaaDoorRowk
import Derived.WalkKit
import Derived.ProofKit
import Derived.OpenShut
import Derived.ShutString
import Derived.ChangeOld
import Derived.Below
import Derived.SizedLaws
import Derived.SevenTiedAt
namespace Go.Proofs.YteiplklloajjaaaDoor
open Go.ChangeShapes Go.WideShapes Go.ChangeAt Go.RowKit
open Go.ChangeMaps (open_string shut_string)
set_option linter.unusedVariables false
theorem ownKnob_none : ownKnob Tryd.prog.godebug = none := by kernel_rfl
theorem laidOut_ : laidOutB Tryd.prog = true := by kernel_rfl
section
set_option maxHeartbeats 4000000
set_option maxRecDepth 100000
attribute [local irreducible] wpList Code.wp OpRun
--# walk FnExactReadField
theorem FnExactReadField_walk (l : List UInt8) (w : World) (hT : TW w) :
 Calls Tryd.prog 7 #[.string (bs l)] w fun e w' => e = .returned (.bool true) ∧ Ext w w' := by
 refine calls_of_wp Tryd.func7 rfl ?_
 refine wp_frame (a' := ⟨#[.string (bs l), undef, undef, undef, undef, undef, undef, undef, undef, undef, undef, undef, undef, undef, undef, undef, undef, undef, undef, undef, undef, undef, undef, undef, undef, undef, undef, undef, undef], []⟩) (by kernel_rfl) ?_
 refine wsr ?_
 refine wv (.bool false) ?_
 refine wpList_nil (then_normal ?_)
 refine wp_seq ?_
 refine wsr ?_
 refine wv (.string (bs l)) ?_
 refine wlenS l Tryd.underlying9 ?_
 refine wv (.bool (decide (1048576 < (l.length : Int)))) ?_
 refine wpList_nil (then_normal ?_)
 refine wsplit (decide (1048576 < (l.length : Int))) (fun h1 => ?_) (fun h1 => ?_)
 · skip
   have h1d := dT h1
   refine wsr ?_
   refine wv (.bool true) ?_
   refine wpList_nil (then_normal ?_)
   refine wp_ret ?_
   refine then_ret ?_
   refine ret1 (.bool true) rfl ?_ rfl ?_
   · exact resT (by kernel_rfl)
   exact ⟨rfl, (Ext.refl w)⟩
 · skip
   have h1d := dF h1
   refine wp_skip ?_
   refine then_normal ?_
   refine wsr ?_
   refine wv (.string (bs l)) ?_
   refine wcl (sReadField_l l (by omega) _) ?_
   intro w1 E1
   refine wv (.tuple #[.agg (Fld.cells (rdR l)), .int .i64 (rdC l)]) ?_
   refine wv (.agg (Fld.cells (rdR l))) ?_
   refine wv (.int .i64 (rdC l)) ?_
   have H1 := (Ext.refl w).trans E1
   refine wnew (Fld.cells Fld.zero) Tryd.zeroValue29 zero_impl_Field ?_
   intro g1 w2 B1 E2 hg_
   have lo_g1 := Nat.le_trans (H1).size hg_
   refine wput (Fld.cells (rdR l)) row_impl_Field B1 (by exact Fld.size_cells _) (by exact Fld.size_cells _) (by exact Fld.one_cells _) ?_
   intro w3 B1_ X1
   clear B1; have B1 := B1_; clear B1_
   refine wv (.int .i64 (rdC l)) ?_
   refine wpList_nil (then_normal ?_)
   refine wsr ?_
   refine wv (.string (bs l)) ?_
   have H2 := X1.ext w lo_g1 (H1.trans E2)
   refine wcl (iReadField_l l (by omega) _ (TW.ext hT H2)) ?_
   intro w4 E3
   refine wv (.tuple #[.agg (Fld.cells (rdR l)), .int .i64 (rdC l)]) ?_
   refine wv (.agg (Fld.cells (rdR l))) ?_
   refine wv (.int .i64 (rdC l)) ?_
   have H3 := H2.trans E3
   replace B1 := B1.ext E3
   refine wnew (Fld.cells Fld.zero) Tryd.zeroValue29 zero_impl_Field ?_
   intro g2 w5 B2 E4 hg_
   have q_g1_g2 := Nat.ne_of_lt (Nat.lt_of_lt_of_le B1.lt hg_)
   have lo_g2 := Nat.le_trans (H3).size hg_
   refine wput (Fld.cells (rdR l)) row_impl_Field B2 (by exact Fld.size_cells _) (by exact Fld.size_cells _) (by exact Fld.one_cells _) ?_
   intro w6 B2_ X2
   clear B2; have B2 := B2_; clear B2_
   refine wv (.int .i64 (rdC l)) ?_
   refine wpList_nil (then_normal ?_)
   refine wp_seq ?_
   refine wsr ?_
   refine wrow row_impl_Field B2 (by exact Fld.size_cells _) ?_
   replace B1 := X2.blk (B1.ext E4) q_g1_g2
   refine wrow row_impl_Field B1 (by exact Fld.size_cells _) ?_
   refine wcl (eqField_same (rdR l) _) ?_
   intro w7 E5
   refine wv (.bool false) ?_
   refine wv (.bool false) ?_
   refine wv (.int .i64 (rdC l)) ?_
   refine wv (.int .i64 (rdC l)) ?_
   refine wvv (.bool ((rdC l) != (rdC l))) (.bool false) (by simp) ?_
   refine wv (.bool false) ?_
   refine wpList_nil (then_normal ?_)
   refine wcf ?_
   refine wp_skip ?_
   refine then_normal ?_
   refine wsr ?_
   refine wv (.bool true) ?_
   refine wpList_nil (then_normal ?_)
   refine wp_ret ?_
   have H4 := (X2.ext w lo_g2 (H3.trans E4)).trans E5
   refine ret1 (.bool true) rfl ?_ rfl ?_
   · exact resT (by kernel_rfl)
   exact ⟨rfl, H4⟩
end
--# row FnExactReadField
set_option maxRecDepth 100000 in
theorem fnExactReadField_lifted (os : Os) (started : os.Started) (H : Type) (enc : TypeId × Value → H) :
    ReturnsInHanded {} Tryd.checked os 7 .any (fun w args => (Rows.fnExactReadFieldSpec.pre enc Tryd.prog Tryd.f7 Rows.fnExactReadFieldRow.domain false w args ∧ laidMetH Tryd.prog Rows.fnExactReadFieldRow.laid w) ∧ sizedMet enc Tryd.prog Tryd.f7 (OpenSpec.ofChange Rows.fnExactReadFieldSpec) false w args) (Rows.fnExactReadFieldSpec.post enc Tryd.prog Tryd.f7 false true false false) := by
  refine returns_and_shaped (C := Tryd.checked) (X := fun w _ => laidMetH Tryd.prog Rows.fnExactReadFieldRow.laid w) (fun _ _ _ hh h => h.of_heap hh) ownKnob_none started (by kernel_rfl) Tryd.func7
    (ChangeSpec.witness_shaped (enc := enc) (C := Tryd.checked) (os := os) (X := fun w _ => laidMetH Tryd.prog Rows.fnExactReadFieldRow.laid w) false (World.laidAll Tryd.prog os Rows.fnExactReadFieldRow.laid) #[.string ⟨#[]⟩] 8 (World.laidAll_os _ _ _)
      (World.shaped_of_ZipB (by kernel_rfl) (by kernel_rfl)) (by kernel_rfl) (by kernel_rfl) (by kernel_rfl)
      (by rw [MakeChecks.laidMetH_plain _ _ _ (by kernel_rfl)]; exact laidMet_laidAll _ (by kernel_rfl) (by kernel_rfl))) ?_
  intro W base args ds gs before hval0 hW hL hsh
  have hval : ∀ (j : Nat) t v, Tryd.f7.params[j]? = some t → args[j]? = some v → Value.okWide Tryd.prog W .any base t v := hval0
  have hW' := hW
  obtain ⟨p, q, hA0, hV, rfl, hfz, hnd⟩ := hW
  have hA : DataW.TrodAll enc Tryd.prog W 0 (fun _ => true) true Tryd.f7.params.toList args.toList ds p := hA0
  rw [Tryd.params7] at hA hval
  rw [MakeChecks.laidMetH_plain _ _ _ (by kernel_rfl)] at hL
  have hT : TW W := tw_of hL hsh
  obtain ⟨v0, vs0, d0, ds0, p0, q0, hargs, rfl, rfl, h0, r0⟩ := trodAll_cons hA
  obtain ⟨rfl, rfl, rfl⟩ := trodAll_nil r0
  obtain rfl : args = #[v0] := by cases args; simp_all
  obtain ⟨rfl, rfl⟩ := trodVars_none hV
  have k0 := h0
  have lt0 : ∀ x ∈ p0, x.block < W.heap.size := by obtain ⟨m, hm⟩ := k0; exact DataW.trod_lt m _ _ _ hm
  obtain ⟨s0, rfl, _, _, _⟩ := open_string Tryd.underlying9 (hval 0 9 v0 rfl rfl) h0
  clear hA0 hval0
  refine (FnExactReadField_walk s0.data.toList W hT).mono fun e W' ⟨he, hx⟩ => ?_
  have bel := hx.below
  subst he
  exact ⟨_, rfl, _, _, _, [], _, [], hW', trodAll_mk1 (shut_bool Tryd.underlying4 _), (trodAll_cons_mk (Below.trod laidOut_ (by kernel_rfl) (of_decide_eq_true (by kernel_rfl)) k0 bel lt0) trodAll_mk0), rfl, bel.frame _, fun h => by cases h⟩
theorem fnExactReadField_row_holds : Rows.FnExactReadFieldSaid :=
  OpenClaim.holds_of_wide 7 Tryd.f7 rfl rfl rfl rfl rfl rfl rfl ⟨rfl, rfl, rfl, rfl, rfl⟩ rfl rfl rfl rfl rfl (by kernel_rfl) Tryd.func7 (by kernel_rfl)
    (of_decide_eq_true (by kernel_rfl)) (by unfold Func.isWrapper; first | (rw [if_pos (by decide +kernel)]; kernel_rfl) | (rw [if_neg (by decide +kernel)]; exact ⟨rfl, rfl⟩))
    (fun os started H enc _ => fnExactReadField_lifted os started H enc)
--# card FnExactReadField
-- 7
theorem fnExactReadField_holds : Rows.FnExactReadFieldCardSaid :=
  Claim7.holds_tied_plain_at .later [] Rows.fnExactReadFieldCard.laidKinds true Rows.fnExactReadFieldCard.stood.harness true
    fnExactReadField_row_holds (fun _ h => by cases h) (by kernel_rfl) (fun _ h => by cases h) fnExactReadField_row_tie rfl ⟨rfl, rfl⟩ (by kernel_rfl) rfl
    (fun f fn hf hfn => by
      obtain rfl : f = 7 := Option.some.inj ((show Tryd.prog.funcNamed "loop.example/g01338/laws.FnExactReadField" = some 7 by kernel_rfl).symm.trans hf) |>.symm
      obtain rfl : fn = Tryd.f7 := (Option.some.inj (Tryd.func7.symm.trans hfn)).symm
      exact ⟨by kernel_rfl, fun j t ht => by
        rw [Tryd.params7] at ht
        have hm : t ∈ [9] := by simpa using Array.mem_of_getElem? ht
        have hall : ([9].all fun u => !Tryd.prog.wantsStandIn u) = true := by kernel_rfl
        exact (show Tryd.prog.wantsStandIn t = false by simpa using List.all_eq_true.1 hall t hm)⟩)
    (by kernel_rfl)
end Go.Proofs.YteiplklloajjaaaDoor
