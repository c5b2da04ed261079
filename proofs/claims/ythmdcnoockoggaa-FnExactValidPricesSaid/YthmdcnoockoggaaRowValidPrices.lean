/-
  For all arguments, the law FnExactValidPrices returns true; its arguments read as they did. No conditions.
-/
import Derived.Test.YthmdcnoockoggaaRows
import Derived.Test.YthmdcnoockoggaaFn10
import Derived.Test.YthmdcnoockoggaaRowk
import Derived.WalkKit
import Derived.ProofKit
import Derived.OpenShut
import Derived.ShutString
import Derived.ChangeOld
import Derived.Below
import Derived.SizedLaws
namespace Go.Proofs.Ythmdcnoockoggaa
open Go.ChangeShapes Go.WideShapes Go.ChangeAt Go.RowKit
open Go.ChangeMaps (open_string shut_string)
set_option linter.unusedVariables false
theorem ownKnob_none : ownKnob Try.prog.godebug = none := by kernel_rfl
theorem laidOut_ : laidOutB Try.prog = true := by kernel_rfl
theorem open_tri {H : Type} {P : Program} {w : World} {r : Reach} {b0 : Nat} {t a : TypeId} {v : Value} {k : IntKind} {fs : Array Field} (ht : P.underlying t = some (.struct fs)) (hs : P.cellsOf t = 3) (hct : P.cellTypes P.depth t = some [a, a, a]) (ha : P.underlying a = some (.int k)) (hv : Value.okWide P w r b0 t v) :
    ∃ x y z : Int, v = .agg #[.int k x, .int k y, .int k z] ∧ (Lit.int k x).wf = true ∧ (Lit.int k y).wf = true ∧ (Lit.int k z).wf = true := by
  simp only [Value.okWide, ht] at hv
  obtain ⟨cs, rfl, hz, ts, h1, _, h2⟩ := hv
  rw [hs] at hz
  rw [hct] at h1
  obtain rfl := Option.some.inj h1
  have key : ∀ i, i < 3 → ∃ m, cs[i]? = some (.int k m) ∧ (Lit.int k m).wf = true := by
    intro i hi
    have h3 : cs[i]? = some cs[i]! := by rw [getElem!_pos cs i (by omega)]; exact Array.getElem?_eq_getElem (by omega)
    obtain ⟨u, hu, hcell⟩ := h2 i _ h3
    have hu2 : ([a, a, a] : List TypeId)[i]? = some u := by rwa [show i % ([a, a, a] : List TypeId).length = i from Nat.mod_eq_of_lt hi] at hu
    have : u = a := by
      rcases (by omega : i = 0 ∨ i = 1 ∨ i = 2) with rfl | rfl | rfl <;> simpa using hu2.symm
    subst this
    obtain ⟨m, hm, hw⟩ := cell_int ha hcell
    exact ⟨m, by rw [h3, hm], hw⟩
  obtain ⟨x, hx, wx⟩ := key 0 (by omega)
  obtain ⟨y, hy, wy⟩ := key 1 (by omega)
  obtain ⟨z, hz', wz⟩ := key 2 (by omega)
  refine ⟨x, y, z, ?_, wx, wy, wz⟩
  congr 1
  apply Array.ext_getElem?
  intro i
  by_cases hi : i < 3
  · rcases (by omega : i = 0 ∨ i = 1 ∨ i = 2) with rfl | rfl | rfl
    · rw [hx]; rfl
    · rw [hy]; rfl
    · rw [hz']; rfl
  · rw [Array.getElem?_eq_none (by omega), Array.getElem?_eq_none (by simp; omega)]
section
set_option maxHeartbeats 4000000
set_option maxRecDepth 100000
attribute [local irreducible] wpList Code.wp
--# walk FnExactValidPrices
theorem FnExactValidPrices_walk (x y z : Int) (hx : -32768 ≤ x ∧ x ≤ 32767) (hy : -32768 ≤ y ∧ y ≤ 32767) (hz : -32768 ≤ z ∧ z ≤ 32767) (w : World) :
 Calls Try.prog 11 #[.agg #[.int .i16 x, .int .i16 y, .int .i16 z]] w fun e w' => e = .returned (.bool true) ∧ Ext w w' := by
 refine calls_of_wp Try.func11 rfl ?_
 refine wp_frame (a' := ⟨#[.agg #[.int .i16 x, .int .i16 y, .int .i16 z], undef, undef, undef, undef, undef, undef, undef, undef, undef, undef, undef, undef, undef], []⟩) (by kernel_rfl) ?_
 refine wsr ?_
 refine wbox #[.int .i16 x, .int .i16 y, .int .i16 z] ?_
 intro g1 w1 B1 E1 _
 refine wv (.bool false) ?_
 refine wpList_nil (then_normal ?_)
 refine wsr ?_
 refine wrow row_laws_Prices B1 (by rfl) ?_
 refine wcl (toPrices_any x y z _) ?_
 intro w2 E2
 refine wcl (sValidPrices_any x y z (by omega) (by omega) (by omega) _) ?_
 intro w3 E3
 refine wv (.bool (prB x y z)) ?_
 refine wpList_nil (then_normal ?_)
 refine wsr ?_
 replace B1 := (B1.ext E2).ext E3
 refine wrow row_laws_Prices B1 (by rfl) ?_
 refine wcl (toPrices_any x y z _) ?_
 intro w4 E4
 refine wcl (iValidPrices_any x y z (by omega) (by omega) (by omega) _) ?_
 intro w5 E5
 refine wv (.bool (prB x y z)) ?_
 refine wpList_nil (then_normal ?_)
 refine wp_seq ?_
 refine wsr ?_
 refine wv (.bool (prB x y z)) ?_
 refine wv (.bool (prB x y z)) ?_
 refine wvv (.bool ((prB x y z) != (prB x y z))) (.bool false) (by simp) ?_
 refine wpList_nil (then_normal ?_)
 refine wcf ?_
 refine wp_skip ?_
 refine then_normal ?_
 refine wsr ?_
 refine wv (.bool true) ?_
 refine wpList_nil (then_normal ?_)
 refine wp_ret ?_
 have H1 := (((((Ext.refl w).trans E1).trans E2).trans E3).trans E4).trans E5
 refine ret1 (.bool true) rfl ?_ rfl ?_
 · exact resT (by kernel_rfl)
 exact ⟨rfl, H1⟩
end
--# row FnExactValidPrices
set_option maxRecDepth 100000 in
theorem fnExactValidPrices_lifted (os : Os) (started : os.Started) (H : Type) (enc : TypeId × Value → H) :
    ReturnsInHanded {} Try.checked os 11 .any (Rows.fnExactValidPricesSpec.pre6 enc Try.prog Try.f11 Rows.fnExactValidPricesRow.domain false) (Rows.fnExactValidPricesSpec.post enc Try.prog Try.f11 false true false false) := by
  refine returnsInHanded_of_change (C := Try.checked) ownKnob_none started (by kernel_rfl) Try.func11
    (ChangeSpec.witness6 (enc := enc) (C := Try.checked) false ⟨#[], #[.agg #[.int .i16 0, .int .i16 0, .int .i16 0]], []⟩ 8 (by kernel_rfl) (by kernel_rfl) (by kernel_rfl) (by kernel_rfl)) ?_
  intro W base args ds gs before hval0 hW hcnd _
  have hval : ∀ (j : Nat) t v, Try.f11.params[j]? = some t → args[j]? = some v → Value.okWide Try.prog W .any base t v := hval0
  have hW' := hW
  obtain ⟨p, q, hA0, hV, rfl, hfz, hnd⟩ := hW
  have hA : DataW.TrodAll enc Try.prog W 0 (fun _ => true) true Try.f11.params.toList args.toList ds p := hA0
  rw [Try.params11] at hA hval
  obtain ⟨v0, vs0, d0, ds0, p0, q0, hargs, rfl, rfl, h0, r0⟩ := trodAll_cons hA
  obtain ⟨rfl, rfl, rfl⟩ := trodAll_nil r0
  obtain rfl : args = #[v0] := by cases args; simp_all
  obtain ⟨rfl, rfl⟩ := trodVars_none hV
  have k0 := h0
  have lt0 : ∀ x ∈ p0, x.block < W.heap.size := by obtain ⟨m, hm⟩ := k0; exact DataW.trod_lt m _ _ _ hm
  obtain ⟨x, y, z, rfl, wx, wy, wz⟩ := open_tri (H := Unit) (k := .i16) Try.underlying67 (by kernel_rfl) (by kernel_rfl) Try.underlying23 (hval 0 67 v0 rfl rfl)
  have hx := bounds_i16 wx
  have hy := bounds_i16 wy
  have hz := bounds_i16 wz
  clear hA0 hval0
  refine (FnExactValidPrices_walk x y z hx hy hz W).mono fun e W' ⟨he, hx⟩ => ?_
  have bel := hx.below
  subst he
  exact ⟨_, rfl, _, _, _, [], _, [], hW', trodAll_mk1 (shut_bool Try.underlying4 _), (trodAll_cons_mk (Below.trod laidOut_ (by kernel_rfl) (of_decide_eq_true (by kernel_rfl)) k0 bel lt0) trodAll_mk0), rfl, bel.frame _, fun h => by cases h⟩
theorem fnExactValidPrices_holds : Rows.FnExactValidPricesSaid :=
  OpenClaim.holds_of_wide 11 Try.f11 rfl rfl rfl rfl rfl rfl rfl ⟨rfl, rfl, rfl, rfl, rfl⟩ rfl rfl rfl rfl rfl (by kernel_rfl) Try.func11 (by kernel_rfl)
    (of_decide_eq_true (by kernel_rfl)) (by unfold Func.isWrapper; first | (rw [if_pos (by decide +kernel)]; kernel_rfl) | (rw [if_neg (by decide +kernel)]; exact ⟨rfl, rfl⟩))
    (fun os started H enc _ => fnExactValidPrices_lifted os started H enc)
end Go.Proofs.Ythmdcnoockoggaa
