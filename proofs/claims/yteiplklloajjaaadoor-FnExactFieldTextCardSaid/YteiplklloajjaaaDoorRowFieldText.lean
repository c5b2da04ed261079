/-
  For all arguments, the law FnExactFieldText returns true; its arguments read as they did. No conditions. The tied card: the listed variables hold what the program lays.
-/
import Derived.Test.YteiplklloajjaaaDoorRows
import Derived.Test.YteiplklloajjaaaDoorCards
import Derived.Test.YteiplklloajjaaaDoorTie
import Derived.Test.YteiplklloajjaaaDoorFn32
import Derived.Test.YteiplklloajjaaaDoorCdk
import Derived.Test.YteiplklloajjaaaDoorRowk
import Derived.WalkKit
import Derived.ProofKit
import Derived.OpenShut
import Derived.ShutString
import Derived.ChangeOld
import Derived.Below
import Derived.SizedLaws
import Derived.SevenTiedAt
namespace Go.Proofs.YteiplklloajjaaaDoor
open Go.ChangeShapes Go.WideShapes Go.ChangeAt Go.RowKit
open Go.ChangeMaps (open_string shut_string)
set_option linter.unusedVariables false
theorem ownKnob_none : ownKnob Tryd.prog.godebug = none := by kernel_rfl
theorem laidOut_ : laidOutB Tryd.prog = true := by kernel_rfl
section
set_option maxHeartbeats 4000000
set_option maxRecDepth 100000
attribute [local irreducible] wpList Code.wp OpRun
--# walk FnExactFieldText
theorem FnExactFieldText_walk (F : Fld) (hF : F.wf) (w : World) (hTt : TWt w) :
 Calls Tryd.prog 3 #[.agg F.cells] w fun e w' => e = .returned (.bool true) ∧ Ext w w' := by
 refine calls_of_wp Tryd.func3 rfl ?_
 refine wp_frame (a' := ⟨#[.agg F.cells, undef, undef, undef, undef, undef, undef, undef, undef, undef, undef, undef, undef, undef], []⟩) (by kernel_rfl) ?_
 refine wsr ?_
 refine wbox F.cells ?_
 intro g1 w1 B1 E1 _
 refine wv (.bool false) ?_
 refine wpList_nil (then_normal ?_)
 refine wsr ?_
 refine wrow row_laws_Field B1 (by exact Fld.size_cells _) ?_
 refine wcl (toField_any F hF _) ?_
 intro w2 E2
 refine wcl (sFieldText_any F hF _) ?_
 intro w3 E3
 refine wv (.string (bs (ftT F))) ?_
 refine wpList_nil (then_normal ?_)
 refine wsr ?_
 replace B1 := (B1.ext E2).ext E3
 refine wrow row_laws_Field B1 (by exact Fld.size_cells _) ?_
 refine wcl (toField_any F hF _) ?_
 intro w4 E4
 have H1 := ((((Ext.refl w).trans E1).trans E2).trans E3).trans E4
 refine wcl (iFieldText_any F hF _ (TWt.ext hTt H1)) ?_
 intro w5 E5
 refine wv (.string (bs (ftT F))) ?_
 refine wpList_nil (then_normal ?_)
 refine wp_seq ?_
 refine wsr ?_
 refine wv (.string (bs (ftT F))) ?_
 refine wv (.string (bs (ftT F))) ?_
 refine wvv (.bool (!((bs (ftT F)).toList == (bs (ftT F)).toList))) (.bool false) (congrArg Value.bool (by simp)) ?_
 refine wpList_nil (then_normal ?_)
 refine wcf ?_
 refine wp_skip ?_
 refine then_normal ?_
 refine wsr ?_
 refine wv (.bool true) ?_
 refine wpList_nil (then_normal ?_)
 refine wp_ret ?_
 have H2 := H1.trans E5
 refine ret1 (.bool true) rfl ?_ rfl ?_
 · exact resT (by kernel_rfl)
 exact ⟨rfl, H2⟩
end
--# row FnExactFieldText
set_option maxRecDepth 100000 in
theorem fnExactFieldText_lifted (os : Os) (started : os.Started) (H : Type) (enc : TypeId × Value → H) :
    ReturnsInHanded {} Tryd.checked os 3 .any (fun w args => (Rows.fnExactFieldTextSpec.pre enc Tryd.prog Tryd.f3 Rows.fnExactFieldTextRow.domain false w args ∧ laidMetH Tryd.prog Rows.fnExactFieldTextRow.laid w) ∧ sizedMet enc Tryd.prog Tryd.f3 (OpenSpec.ofChange Rows.fnExactFieldTextSpec) false w args) (Rows.fnExactFieldTextSpec.post enc Tryd.prog Tryd.f3 false true false false) := by
  refine returns_and_shaped (C := Tryd.checked) (X := fun w _ => laidMetH Tryd.prog Rows.fnExactFieldTextRow.laid w) (fun _ _ _ hh h => h.of_heap hh) ownKnob_none started (by kernel_rfl) Tryd.func3
    (ChangeSpec.witness_shaped (enc := enc) (C := Tryd.checked) (os := os) (X := fun w _ => laidMetH Tryd.prog Rows.fnExactFieldTextRow.laid w) false (World.laidAll Tryd.prog os Rows.fnExactFieldTextRow.laid) #[.agg Tryd.zeroCells27] 8 (World.laidAll_os _ _ _)
      (World.shaped_of_ZipB (by kernel_rfl) (by kernel_rfl)) (by kernel_rfl) (by kernel_rfl) (by kernel_rfl)
      (by rw [MakeChecks.laidMetH_plain _ _ _ (by kernel_rfl)]; exact laidMet_laidAll _ (by kernel_rfl) (by kernel_rfl))) ?_
  intro W base args ds gs before hval0 hW hL hsh
  have hval : ∀ (j : Nat) t v, Tryd.f3.params[j]? = some t → args[j]? = some v → Value.okWide Tryd.prog W .any base t v := hval0
  have hW' := hW
  obtain ⟨p, q, hA0, hV, rfl, hfz, hnd⟩ := hW
  have hA : DataW.TrodAll enc Tryd.prog W 0 (fun _ => true) true Tryd.f3.params.toList args.toList ds p := hA0
  rw [Tryd.params3] at hA hval
  rw [MakeChecks.laidMetH_plain _ _ _ (by kernel_rfl)] at hL
  have hT : TWt W := tab_of hL
  obtain ⟨v0, vs0, d0, ds0, p0, q0, hargs, rfl, rfl, h0, r0⟩ := trodAll_cons hA
  obtain ⟨rfl, rfl, rfl⟩ := trodAll_nil r0
  obtain rfl : args = #[v0] := by cases args; simp_all
  obtain ⟨rfl, rfl⟩ := trodVars_none hV
  have k0 := h0
  have lt0 : ∀ x ∈ p0, x.block < W.heap.size := by obtain ⟨m, hm⟩ := k0; exact DataW.trod_lt m _ _ _ hm
  obtain ⟨F, rfl, hF⟩ := open_field Tryd.underlying27 (by kernel_rfl) (by kernel_rfl) Tryd.underlying22 Tryd.underlying5 Tryd.underlying24 (hval 0 27 v0 rfl rfl)
  clear hA0 hval0
  refine (FnExactFieldText_walk F hF W hT).mono fun e W' ⟨he, hx⟩ => ?_
  have bel := hx.below
  subst he
  exact ⟨_, rfl, _, _, _, [], _, [], hW', trodAll_mk1 (shut_bool Tryd.underlying4 _), (trodAll_cons_mk (Below.trod laidOut_ (by kernel_rfl) (of_decide_eq_true (by kernel_rfl)) k0 bel lt0) trodAll_mk0), rfl, bel.frame _, fun h => by cases h⟩
theorem fnExactFieldText_row_holds : Rows.FnExactFieldTextSaid :=
  OpenClaim.holds_of_wide 3 Tryd.f3 rfl rfl rfl rfl rfl rfl rfl ⟨rfl, rfl, rfl, rfl, rfl⟩ rfl rfl rfl rfl rfl (by kernel_rfl) Tryd.func3 (by kernel_rfl)
    (of_decide_eq_true (by kernel_rfl)) (by unfold Func.isWrapper; first | (rw [if_pos (by decide +kernel)]; kernel_rfl) | (rw [if_neg (by decide +kernel)]; exact ⟨rfl, rfl⟩))
    (fun os started H enc _ => fnExactFieldText_lifted os started H enc)
--# card FnExactFieldText
-- 3
theorem fnExactFieldText_holds : Rows.FnExactFieldTextCardSaid :=
  Claim7.holds_tied_plain_at .later [] Rows.fnExactFieldTextCard.laidKinds true Rows.fnExactFieldTextCard.stood.harness true
    fnExactFieldText_row_holds (fun _ h => by cases h) (by kernel_rfl) (fun _ h => by cases h) fnExactFieldText_row_tie rfl ⟨rfl, rfl⟩ (by kernel_rfl) rfl
    (fun f fn hf hfn => by
      obtain rfl : f = 3 := Option.some.inj ((show Tryd.prog.funcNamed "loop.example/g01338/laws.FnExactFieldText" = some 3 by kernel_rfl).symm.trans hf) |>.symm
      obtain rfl : fn = Tryd.f3 := (Option.some.inj (Tryd.func3.symm.trans hfn)).symm
      exact ⟨by kernel_rfl, fun j t ht => by
        rw [Tryd.params3] at ht
        have hm : t ∈ [27] := by simpa using Array.mem_of_getElem? ht
        have hall : ([27].all fun u => !Tryd.prog.wantsStandIn u) = true := by kernel_rfl
        exact (show Tryd.prog.wantsStandIn t = false by simpa using List.all_eq_true.1 hall t hm)⟩)
    (by kernel_rfl)
end Go.Proofs.YteiplklloajjaaaDoor
