/-
  For all arguments, the law FnExactPlainField returns true; its arguments read as they did. No conditions.
-/
import Derived.Test.YtjnlbincgakmpaaRows
import Derived.Test.YtjnlbincgakmpaaFn7
import Derived.Test.YtjnlbincgakmpaaRowk
import Derived.WalkKit
import Derived.ProofKit
import Derived.OpenShut
import Derived.ShutString
import Derived.ChangeOld
import Derived.Below
import Derived.SizedLaws
namespace Go.Proofs.Ytjnlbincgakmpaa
open Go.ChangeShapes Go.WideShapes Go.ChangeAt Go.RowKit
open Go.ChangeMaps (open_string shut_string)
set_option linter.unusedVariables false
theorem ownKnob_none : ownKnob Try.prog.godebug = none := by kernel_rfl
theorem laidOut_ : laidOutB Try.prog = true := by kernel_rfl
section
set_option maxHeartbeats 4000000
set_option maxRecDepth 100000
attribute [local irreducible] wpList Code.wp
--# walk FnExactPlainField
theorem FnExactPlainField_walk (x : Int) (y : Int) (n : Int) (w : World) :
 Calls Try.prog 6 #[.int .i64 x, .int .i64 y, .int .i64 n] w fun e w' => e = .returned (.bool true) ∧ Ext w w' := by
 refine calls_of_wp Try.func6 rfl ?_
 refine wp_frame (a' := ⟨#[.int .i64 x, .int .i64 y, .int .i64 n, undef, undef, undef, undef, undef, undef, undef, undef, undef, undef, undef, undef, undef, undef, undef, undef, undef, undef, undef, undef, undef, undef, undef, undef, undef, undef, undef, undef, undef, undef, undef], []⟩) (by kernel_rfl) ?_
 refine wsr ?_
 refine wv (.bool false) ?_
 refine wpList_nil (then_normal ?_)
 refine wsr ?_
 refine wv (.int .i64 x) ?_
 refine wv (.int .i64 y) ?_
 refine wv (.int .i64 n) ?_
 refine wcl (sPlainField_any x y n _) ?_
 intro w1 E1
 refine wv (.tuple #[.agg (Fld.cells (plnF x y n)), .int .i64 (plnC x y n)]) ?_
 refine wv (.agg (Fld.cells (plnF x y n))) ?_
 refine wv (.int .i64 (plnC x y n)) ?_
 have H1 := (Ext.refl w).trans E1
 refine wnew (Fld.cells Fld.zero) Try.zeroValue39 zero_impl_Field ?_
 intro g1 w2 B1 E2 hg_
 have lo_g1 := Nat.le_trans (H1).size hg_
 refine wput (Fld.cells (plnF x y n)) row_impl_Field B1 (by exact Fld.size_cells _) (by exact Fld.size_cells _) (by exact Fld.one_cells _) ?_
 intro w3 B1_ X1
 clear B1; have B1 := B1_; clear B1_
 refine wv (.int .i64 (plnC x y n)) ?_
 refine wpList_nil (then_normal ?_)
 refine wsr ?_
 refine wv (.int .i64 x) ?_
 refine wv (.int .i64 y) ?_
 refine wv (.int .i64 n) ?_
 refine wcl (iPlainField_any x y n _) ?_
 intro w4 E3
 refine wv (.tuple #[.agg (Fld.cells (plnF x y n)), .int .i64 (plnC x y n)]) ?_
 refine wv (.agg (Fld.cells (plnF x y n))) ?_
 refine wv (.int .i64 (plnC x y n)) ?_
 have H2 := (X1.ext w lo_g1 (H1.trans E2)).trans E3
 replace B1 := B1.ext E3
 refine wnew (Fld.cells Fld.zero) Try.zeroValue39 zero_impl_Field ?_
 intro g2 w5 B2 E4 hg_
 have q_g1_g2 := Nat.ne_of_lt (Nat.lt_of_lt_of_le B1.lt hg_)
 have lo_g2 := Nat.le_trans (H2).size hg_
 refine wput (Fld.cells (plnF x y n)) row_impl_Field B2 (by exact Fld.size_cells _) (by exact Fld.size_cells _) (by exact Fld.one_cells _) ?_
 intro w6 B2_ X2
 clear B2; have B2 := B2_; clear B2_
 refine wv (.int .i64 (plnC x y n)) ?_
 refine wpList_nil (then_normal ?_)
 refine wp_seq ?_
 refine wsr ?_
 refine wrow row_impl_Field B2 (by exact Fld.size_cells _) ?_
 replace B1 := X2.blk (B1.ext E4) q_g1_g2
 refine wrow row_impl_Field B1 (by exact Fld.size_cells _) ?_
 refine wcl (eqField_same (plnF x y n) _) ?_
 intro w7 E5
 refine wv (.bool false) ?_
 refine wv (.bool false) ?_
 refine wv (.int .i64 (plnC x y n)) ?_
 refine wv (.int .i64 (plnC x y n)) ?_
 refine wvv (.bool ((plnC x y n) != (plnC x y n))) (.bool false) (by simp) ?_
 refine wv (.bool false) ?_
 refine wpList_nil (then_normal ?_)
 refine wcf ?_
 refine wp_skip ?_
 refine then_normal ?_
 refine wsr ?_
 refine wv (.bool true) ?_
 refine wpList_nil (then_normal ?_)
 refine wp_frame (a' := ⟨#[.int .i64 x, .int .i64 y, .int .i64 n, undef, undef, undef, .bool true, .pointer (some ⟨g1, 0, none⟩), .int .i64 (plnC x y n), .pointer (some ⟨g2, 0, none⟩), .int .i64 (plnC x y n), .tuple #[.agg (Fld.cells (plnF x y n)), .int .i64 (plnC x y n)], .int .i64 x, .int .i64 y, .int .i64 n, .tuple #[.agg (Fld.cells (plnF x y n)), .int .i64 (plnC x y n)], .agg (Fld.cells (plnF x y n)), .int .i64 (plnC x y n), .tuple #[.agg (Fld.cells (plnF x y n)), .int .i64 (plnC x y n)], .int .i64 x, .int .i64 y, .int .i64 n, .tuple #[.agg (Fld.cells (plnF x y n)), .int .i64 (plnC x y n)], .agg (Fld.cells (plnF x y n)), .int .i64 (plnC x y n), .agg (Fld.cells (plnF x y n)), .agg (Fld.cells (plnF x y n)), .bool true, .bool false, .bool false, .int .i64 (plnC x y n), .int .i64 (plnC x y n), .bool false, .bool false], []⟩) (by kernel_rfl) ?_
 refine wp_ret ?_
 have H3 := (X2.ext w lo_g2 (H2.trans E4)).trans E5
 refine ret1 (.bool true) rfl ?_ rfl ?_
 · exact resT (by kernel_rfl)
 exact ⟨rfl, H3⟩
end
--# row FnExactPlainField
set_option maxRecDepth 100000 in
theorem fnExactPlainField_lifted (os : Os) (started : os.Started) (H : Type) (enc : TypeId × Value → H) :
    ReturnsInHanded {} Try.checked os 6 .any (Rows.fnExactPlainFieldSpec.pre6 enc Try.prog Try.f6 Rows.fnExactPlainFieldRow.domain false) (Rows.fnExactPlainFieldSpec.post enc Try.prog Try.f6 false true false false) := by
  refine returnsInHanded_of_change (C := Try.checked) ownKnob_none started (by kernel_rfl) Try.func6
    (ChangeSpec.witness6 (enc := enc) (C := Try.checked) false ⟨#[], #[.int .i64 0, .int .i64 0, .int .i64 0], []⟩ 8 (by kernel_rfl) (by kernel_rfl) (by kernel_rfl) (by kernel_rfl)) ?_
  intro W base args ds gs before hval0 hW hcnd _
  have hval : ∀ (j : Nat) t v, Try.f6.params[j]? = some t → args[j]? = some v → Value.okWide Try.prog W .any base t v := hval0
  have hW' := hW
  obtain ⟨p, q, hA0, hV, rfl, hfz, hnd⟩ := hW
  have hA : DataW.TrodAll enc Try.prog W 0 (fun _ => true) true Try.f6.params.toList args.toList ds p := hA0
  rw [Try.params6] at hA hval
  obtain ⟨v0, vs0, d0, ds0, p0, q0, hargs, rfl, rfl, h0, r0⟩ := trodAll_cons hA
  obtain ⟨v1, vs1, d1, ds1, p1, q1, rfl, rfl, rfl, h1, r1⟩ := trodAll_cons r0
  obtain ⟨v2, vs2, d2, ds2, p2, q2, rfl, rfl, rfl, h2, r2⟩ := trodAll_cons r1
  obtain ⟨rfl, rfl, rfl⟩ := trodAll_nil r2
  obtain rfl : args = #[v0, v1, v2] := by cases args; simp_all
  obtain ⟨rfl, rfl⟩ := trodVars_none hV
  have k0 := h0
  have lt0 : ∀ x ∈ p0, x.block < W.heap.size := by obtain ⟨m, hm⟩ := k0; exact DataW.trod_lt m _ _ _ hm
  obtain ⟨x, rfl, rfl, rfl, wx⟩ := open_int Try.underlying2 (hval 0 2 v0 rfl rfl) h0
  have hbx := bounds_i64 wx
  have k1 := h1
  have lt1 : ∀ x ∈ p1, x.block < W.heap.size := by obtain ⟨m, hm⟩ := k1; exact DataW.trod_lt m _ _ _ hm
  obtain ⟨y, rfl, rfl, rfl, wy⟩ := open_int Try.underlying2 (hval 1 2 v1 rfl rfl) h1
  have hby := bounds_i64 wy
  have k2 := h2
  have lt2 : ∀ x ∈ p2, x.block < W.heap.size := by obtain ⟨m, hm⟩ := k2; exact DataW.trod_lt m _ _ _ hm
  obtain ⟨n, rfl, rfl, rfl, wn⟩ := open_int Try.underlying2 (hval 2 2 v2 rfl rfl) h2
  have hbn := bounds_i64 wn
  clear hA0 hval0
  refine (FnExactPlainField_walk x y n W).mono fun e W' ⟨he, hx⟩ => ?_
  have bel := hx.below
  subst he
  exact ⟨_, rfl, _, _, _, [], _, [], hW', trodAll_mk1 (shut_bool Try.underlying4 _), (trodAll_cons_mk (Below.trod laidOut_ (by kernel_rfl) (of_decide_eq_true (by kernel_rfl)) k0 bel lt0) (trodAll_cons_mk (Below.trod laidOut_ (by kernel_rfl) (of_decide_eq_true (by kernel_rfl)) k1 bel lt1) (trodAll_cons_mk (Below.trod laidOut_ (by kernel_rfl) (of_decide_eq_true (by kernel_rfl)) k2 bel lt2) trodAll_mk0))), rfl, bel.frame _, fun h => by cases h⟩
theorem fnExactPlainField_holds : Rows.FnExactPlainFieldSaid :=
  OpenClaim.holds_of_wide 6 Try.f6 rfl rfl rfl rfl rfl rfl rfl ⟨rfl, rfl, rfl, rfl, rfl⟩ rfl rfl rfl rfl rfl (by kernel_rfl) Try.func6 (by kernel_rfl)
    (of_decide_eq_true (by kernel_rfl)) (by unfold Func.isWrapper; first | (rw [if_pos (by decide +kernel)]; kernel_rfl) | (rw [if_neg (by decide +kernel)]; exact ⟨rfl, rfl⟩))
    (fun os started H enc _ => fnExactPlainField_lifted os started H enc)
end Go.Proofs.Ytjnlbincgakmpaa
