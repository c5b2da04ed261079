/-
  For all arguments, the law FnExactCoverOf returns true; its arguments read as they did. No conditions.
-/
import Derived.Test.YtbjcloilcpoafaaRows
import Derived.Test.YtbjcloilcpoafaaFn11
import Derived.Test.YtbjcloilcpoafaaRowk
import Derived.WalkKit
import Derived.ProofKit
import Derived.OpenShut
import Derived.ShutString
import Derived.ChangeOld
import Derived.Below
import Derived.SizedLaws
namespace Go.Proofs.Ytbjcloilcpoafaa
open Go.ChangeShapes Go.WideShapes Go.ChangeAt Go.RowKit
open Go.ChangeMaps (open_string shut_string)
set_option linter.unusedVariables false
theorem ownKnob_none : ownKnob Try.prog.godebug = none := by kernel_rfl
theorem laidOut_ : laidOutB Try.prog = true := by kernel_rfl
section
set_option maxHeartbeats 4000000
set_option maxRecDepth 100000
attribute [local irreducible] wpList Code.wp
--# walk FnExactCoverOf
theorem FnExactCoverOf_walk (F : Fld) (hF : F.wf) (p : Int) (m : Int) (n : Int) (w : World) :
 Calls Try.prog 8 #[.agg F.cells, .int .i64 p, .int .i64 m, .int .i64 n] w fun e w' => e = .returned (.bool true) ∧ Ext w w' := by
 refine calls_of_wp Try.func8 rfl ?_
 refine wp_frame (a' := ⟨#[.agg F.cells, .int .i64 p, .int .i64 m, .int .i64 n, undef, undef, undef, undef, undef, undef, undef, undef, undef, undef, undef, undef, undef, undef, undef, undef, undef, undef, undef, undef, undef, undef, undef, undef, undef, undef, undef, undef, undef, undef, undef, undef, undef, undef, undef, undef], []⟩) (by kernel_rfl) ?_
 refine wsr ?_
 refine wbox F.cells ?_
 intro g1 w1 B1 E1 hg_
 have lo_g1 := Nat.le_trans ((Ext.refl w)).size hg_
 refine wv (.bool false) ?_
 refine wpList_nil (then_normal ?_)
 refine wsr ?_
 refine wrow row_laws_Field B1 (by exact Fld.size_cells _) ?_
 refine wcl (toField_any F hF _) ?_
 intro w2 E2
 refine wv (.int .i64 p) ?_
 refine wv (.int .i64 m) ?_
 refine wv (.int .i64 n) ?_
 refine wcl (sCoverOf_any F hF p m n _) ?_
 intro w3 E3
 refine wv (.tuple #[.agg #[.int .u64 ((cvoS F p m n).1), .int .u64 ((cvoS F p m n).2)], .int .i64 (cvoC F p m n)]) ?_
 refine wv (.agg #[.int .u64 ((cvoS F p m n).1), .int .u64 ((cvoS F p m n).2)]) ?_
 refine wv (.int .i64 (cvoC F p m n)) ?_
 have H1 := (((Ext.refl w).trans E1).trans E2).trans E3
 replace B1 := (B1.ext E2).ext E3
 refine wnew #[.int .u64 0, .int .u64 0] Try.zeroValue47 rfl ?_
 intro g2 w4 B2 E4 hg_
 have q_g1_g2 := Nat.ne_of_lt (Nat.lt_of_lt_of_le B1.lt hg_)
 have lo_g2 := Nat.le_trans (H1).size hg_
 refine wput #[.int .u64 ((cvoS F p m n).1), .int .u64 ((cvoS F p m n).2)] row_impl_Cells B2 (by rfl) (by rfl) (by kernel_rfl) ?_
 intro w5 B2_ X1
 clear B2; have B2 := B2_; clear B2_
 refine wv (.int .i64 (cvoC F p m n)) ?_
 refine wpList_nil (then_normal ?_)
 refine wsr ?_
 replace B1 := X1.blk (B1.ext E4) q_g1_g2
 refine wrow row_laws_Field B1 (by exact Fld.size_cells _) ?_
 refine wcl (toField_any F hF _) ?_
 intro w6 E5
 refine wv (.int .i64 p) ?_
 refine wv (.int .i64 m) ?_
 refine wv (.int .i64 n) ?_
 refine wcl (iCoverOf_any F hF p m n _) ?_
 intro w7 E6
 refine wv (.tuple #[.agg #[.int .u64 ((cvoS F p m n).1), .int .u64 ((cvoS F p m n).2)], .int .i64 (cvoC F p m n)]) ?_
 refine wv (.agg #[.int .u64 ((cvoS F p m n).1), .int .u64 ((cvoS F p m n).2)]) ?_
 refine wv (.int .i64 (cvoC F p m n)) ?_
 have H2 := ((X1.ext w lo_g2 (H1.trans E4)).trans E5).trans E6
 replace B1 := (B1.ext E5).ext E6
 replace B2 := (B2.ext E5).ext E6
 refine wnew #[.int .u64 0, .int .u64 0] Try.zeroValue47 rfl ?_
 intro g3 w8 B3 E7 hg_
 have q_g1_g3 := Nat.ne_of_lt (Nat.lt_of_lt_of_le B1.lt hg_)
 have q_g2_g3 := Nat.ne_of_lt (Nat.lt_of_lt_of_le B2.lt hg_)
 have lo_g3 := Nat.le_trans (H2).size hg_
 refine wput #[.int .u64 ((cvoS F p m n).1), .int .u64 ((cvoS F p m n).2)] row_impl_Cells B3 (by rfl) (by rfl) (by kernel_rfl) ?_
 intro w9 B3_ X2
 clear B3; have B3 := B3_; clear B3_
 refine wv (.int .i64 (cvoC F p m n)) ?_
 refine wpList_nil (then_normal ?_)
 refine wp_seq ?_
 refine wsr ?_
 refine wrow row_impl_Cells B3 (by rfl) ?_
 replace B2 := X2.blk (B2.ext E7) q_g2_g3
 refine wrow row_impl_Cells B2 (by rfl) ?_
 refine wcl (eqCells_same ((cvoS F p m n).1) ((cvoS F p m n).2) _) ?_
 intro w10 E8
 refine wv (.bool false) ?_
 refine wv (.bool false) ?_
 refine wv (.int .i64 (cvoC F p m n)) ?_
 refine wv (.int .i64 (cvoC F p m n)) ?_
 refine wvv (.bool ((cvoC F p m n) != (cvoC F p m n))) (.bool false) (by simp) ?_
 refine wv (.bool false) ?_
 refine wpList_nil (then_normal ?_)
 refine wp_frame (a' := ⟨#[.agg F.cells, .int .i64 p, .int .i64 m, .int .i64 n, .pointer (some ⟨g1, 0, none⟩), undef, undef, undef, .bool false, .pointer (some ⟨g2, 0, none⟩), .int .i64 (cvoC F p m n), .pointer (some ⟨g3, 0, none⟩), .int .i64 (cvoC F p m n), .tuple #[.agg #[.int .u64 ((cvoS F p m n).1), .int .u64 ((cvoS F p m n).2)], .int .i64 (cvoC F p m n)], .agg F.cells, .agg F.cells, .int .i64 p, .int .i64 m, .int .i64 n, .tuple #[.agg #[.int .u64 ((cvoS F p m n).1), .int .u64 ((cvoS F p m n).2)], .int .i64 (cvoC F p m n)], .agg #[.int .u64 ((cvoS F p m n).1), .int .u64 ((cvoS F p m n).2)], .int .i64 (cvoC F p m n), .tuple #[.agg #[.int .u64 ((cvoS F p m n).1), .int .u64 ((cvoS F p m n).2)], .int .i64 (cvoC F p m n)], .agg F.cells, .agg F.cells, .int .i64 p, .int .i64 m, .int .i64 n, .tuple #[.agg #[.int .u64 ((cvoS F p m n).1), .int .u64 ((cvoS F p m n).2)], .int .i64 (cvoC F p m n)], .agg #[.int .u64 ((cvoS F p m n).1), .int .u64 ((cvoS F p m n).2)], .int .i64 (cvoC F p m n), .agg #[.int .u64 ((cvoS F p m n).1), .int .u64 ((cvoS F p m n).2)], .agg #[.int .u64 ((cvoS F p m n).1), .int .u64 ((cvoS F p m n).2)], .bool true, .bool false, .bool false, .int .i64 (cvoC F p m n), .int .i64 (cvoC F p m n), .bool false, .bool false], []⟩) (by kernel_rfl) ?_
 refine wcf ?_
 refine wp_skip ?_
 refine then_normal ?_
 refine wsr ?_
 refine wv (.bool true) ?_
 refine wpList_nil (then_normal ?_)
 refine wp_ret ?_
 have H3 := (X2.ext w lo_g3 (H2.trans E7)).trans E8
 refine ret1 (.bool true) rfl ?_ rfl ?_
 · exact resT (by kernel_rfl)
 exact ⟨rfl, H3⟩
end
--# row FnExactCoverOf
set_option maxRecDepth 100000 in
theorem fnExactCoverOf_lifted (os : Os) (started : os.Started) (H : Type) (enc : TypeId × Value → H) :
    ReturnsInHanded {} Try.checked os 8 .any (Rows.fnExactCoverOfSpec.pre6 enc Try.prog Try.f8 Rows.fnExactCoverOfRow.domain false) (Rows.fnExactCoverOfSpec.post enc Try.prog Try.f8 false true false false) := by
  refine returnsInHanded_of_change (C := Try.checked) ownKnob_none started (by kernel_rfl) Try.func8
    (ChangeSpec.witness6 (enc := enc) (C := Try.checked) false ⟨#[], #[.agg Try.zeroCells44, .int .i64 0, .int .i64 0, .int .i64 0], []⟩ 8 (by kernel_rfl) (by kernel_rfl) (by kernel_rfl) (by kernel_rfl)) ?_
  intro W base args ds gs before hval0 hW hcnd _
  have hval : ∀ (j : Nat) t v, Try.f8.params[j]? = some t → args[j]? = some v → Value.okWide Try.prog W .any base t v := hval0
  have hW' := hW
  obtain ⟨p, q, hA0, hV, rfl, hfz, hnd⟩ := hW
  have hA : DataW.TrodAll enc Try.prog W 0 (fun _ => true) true Try.f8.params.toList args.toList ds p := hA0
  rw [Try.params8] at hA hval
  obtain ⟨v0, vs0, d0, ds0, p0, q0, hargs, rfl, rfl, h0, r0⟩ := trodAll_cons hA
  obtain ⟨v1, vs1, d1, ds1, p1, q1, rfl, rfl, rfl, h1, r1⟩ := trodAll_cons r0
  obtain ⟨v2, vs2, d2, ds2, p2, q2, rfl, rfl, rfl, h2, r2⟩ := trodAll_cons r1
  obtain ⟨v3, vs3, d3, ds3, p3, q3, rfl, rfl, rfl, h3, r3⟩ := trodAll_cons r2
  obtain ⟨rfl, rfl, rfl⟩ := trodAll_nil r3
  obtain rfl : args = #[v0, v1, v2, v3] := by cases args; simp_all
  obtain ⟨rfl, rfl⟩ := trodVars_none hV
  have k0 := h0
  have lt0 : ∀ x ∈ p0, x.block < W.heap.size := by obtain ⟨m, hm⟩ := k0; exact DataW.trod_lt m _ _ _ hm
  obtain ⟨F, rfl, hF⟩ := open_field Try.underlying44 (by kernel_rfl) (by kernel_rfl) Try.underlying39 Try.underlying5 Try.underlying41 (hval 0 44 v0 rfl rfl)
  have k1 := h1
  have lt1 : ∀ x ∈ p1, x.block < W.heap.size := by obtain ⟨m, hm⟩ := k1; exact DataW.trod_lt m _ _ _ hm
  obtain ⟨p, rfl, rfl, rfl, wp⟩ := open_int Try.underlying2 (hval 1 2 v1 rfl rfl) h1
  have hbp := bounds_i64 wp
  have k2 := h2
  have lt2 : ∀ x ∈ p2, x.block < W.heap.size := by obtain ⟨m, hm⟩ := k2; exact DataW.trod_lt m _ _ _ hm
  obtain ⟨m, rfl, rfl, rfl, wm⟩ := open_int Try.underlying2 (hval 2 2 v2 rfl rfl) h2
  have hbm := bounds_i64 wm
  have k3 := h3
  have lt3 : ∀ x ∈ p3, x.block < W.heap.size := by obtain ⟨m, hm⟩ := k3; exact DataW.trod_lt m _ _ _ hm
  obtain ⟨n, rfl, rfl, rfl, wn⟩ := open_int Try.underlying2 (hval 3 2 v3 rfl rfl) h3
  have hbn := bounds_i64 wn
  clear hA0 hval0
  refine (FnExactCoverOf_walk F hF p m n W).mono fun e W' ⟨he, hx⟩ => ?_
  have bel := hx.below
  subst he
  exact ⟨_, rfl, _, _, _, [], _, [], hW', trodAll_mk1 (shut_bool Try.underlying4 _), (trodAll_cons_mk (Below.trod laidOut_ (by kernel_rfl) (of_decide_eq_true (by kernel_rfl)) k0 bel lt0) (trodAll_cons_mk (Below.trod laidOut_ (by kernel_rfl) (of_decide_eq_true (by kernel_rfl)) k1 bel lt1) (trodAll_cons_mk (Below.trod laidOut_ (by kernel_rfl) (of_decide_eq_true (by kernel_rfl)) k2 bel lt2) (trodAll_cons_mk (Below.trod laidOut_ (by kernel_rfl) (of_decide_eq_true (by kernel_rfl)) k3 bel lt3) trodAll_mk0)))), rfl, bel.frame _, fun h => by cases h⟩
theorem fnExactCoverOf_holds : Rows.FnExactCoverOfSaid :=
  OpenClaim.holds_of_wide 8 Try.f8 rfl rfl rfl rfl rfl rfl rfl ⟨rfl, rfl, rfl, rfl, rfl⟩ rfl rfl rfl rfl rfl (by kernel_rfl) Try.func8 (by kernel_rfl)
    (of_decide_eq_true (by kernel_rfl)) (by unfold Func.isWrapper; first | (rw [if_pos (by decide +kernel)]; kernel_rfl) | (rw [if_neg (by decide +kernel)]; exact ⟨rfl, rfl⟩))
    (fun os started H enc _ => fnExactCoverOf_lifted os started H enc)
end Go.Proofs.Ytbjcloilcpoafaa
