/-
  For all arguments, the law FnExactListOf returns true; its arguments read as they did. No conditions.
-/
import Derived.Test.YtjnlbincgakmpaaRows
import Derived.Test.YtjnlbincgakmpaaFn4
import Derived.Test.YtjnlbincgakmpaaRowk
import Derived.WalkKit
import Derived.ProofKit
import Derived.OpenShut
import Derived.ShutString
import Derived.ChangeOld
import Derived.Below
import Derived.SizedLaws
namespace Go.Proofs.Ytjnlbincgakmpaa
open Go.ChangeShapes Go.WideShapes Go.ChangeAt Go.RowKit
open Go.ChangeMaps (open_string shut_string)
set_option linter.unusedVariables false
theorem ownKnob_none : ownKnob Try.prog.godebug = none := by kernel_rfl
theorem laidOut_ : laidOutB Try.prog = true := by kernel_rfl
section
set_option maxHeartbeats 4000000
set_option maxRecDepth 100000
attribute [local irreducible] wpList Code.wp
--# walk FnExactListOf
theorem FnExactListOf_walk (x y : Int) (w : World) :
 Calls Try.prog 4 #[.agg #[.int .u64 x, .int .u64 y]] w fun e w' => e = .returned (.bool true) ∧ Ext w w' := by
 refine calls_of_wp Try.func4 rfl ?_
 refine wp_frame (a' := ⟨#[.agg #[.int .u64 x, .int .u64 y], undef, undef, undef, undef, undef, undef, undef, undef, undef, undef, undef, undef, undef, undef, undef, undef, undef, undef, undef, undef, undef, undef, undef, undef, undef, undef, undef, undef, undef, undef, undef, undef, undef, undef, undef, undef, undef, undef, undef, undef, undef, undef, undef], []⟩) (by kernel_rfl) ?_
 refine wsr ?_
 refine wbox #[.int .u64 x, .int .u64 y] ?_
 intro g1 w1 B1 E1 hg_
 have lo_g1 := Nat.le_trans ((Ext.refl w)).size hg_
 refine wv (.bool false) ?_
 refine wpList_nil (then_normal ?_)
 refine wsr ?_
 refine wrow row__2_uint64 B1 (by rfl) ?_
 refine wcl (toCells_any x y _) ?_
 intro w2 E2
 replace B1 := B1.ext E2
 have H1 := ((Ext.refl w).trans E1).trans E2
 refine wcli (sListOf_any x y _) ?_
 intro g2 cap1 cs1 w3 B2 S1 E3 hg_
 have q_g1_g2 := Nat.ne_of_lt (Nat.lt_of_lt_of_le B1.lt hg_)
 have lo_g2 := Nat.le_trans (H1).size hg_
 have ll1 := listL_length x y
 refine wv (.slice (some ⟨g2, 0, none⟩) ((listL x y).length) cap1) ?_
 refine wpList_nil (then_normal ?_)
 refine wsr ?_
 replace B1 := B1.ext E3
 refine wrow row__2_uint64 B1 (by rfl) ?_
 refine wcl (toCells_any x y _) ?_
 intro w4 E4
 replace B1 := B1.ext E4
 replace B2 := B2.ext E4
 have H2 := (H1.trans E3).trans E4
 refine wcli (iListOf_any x y _) ?_
 intro g3 cap2 cs2 w5 B3 S2 E5 hg_
 have q_g1_g3 := Nat.ne_of_lt (Nat.lt_of_lt_of_le B1.lt hg_)
 have q_g2_g3 := Nat.ne_of_lt (Nat.lt_of_lt_of_le B2.lt hg_)
 have lo_g3 := Nat.le_trans (H2).size hg_
 have ll2 := listL_length x y
 refine wv (.slice (some ⟨g3, 0, none⟩) ((listL x y).length) cap2) ?_
 refine wpList_nil (then_normal ?_)
 refine wp_seq ?_
 refine wsr ?_
 refine wv (.slice (some ⟨g3, 0, none⟩) ((listL x y).length) cap2) ?_
 refine wv (.slice (some ⟨g2, 0, none⟩) ((listL x y).length) cap1) ?_
 replace B2 := B2.ext E5
 refine wcl (eqInt64S_same (listL x y) g3 cap2 cs2 S2 g2 cap1 cs1 S1 (by omega) _ B3 B2) ?_
 intro w6 E6
 refine wv (.bool false) ?_
 refine wpList_nil (then_normal ?_)
 refine wcf ?_
 refine wp_skip ?_
 refine then_normal ?_
 refine wsr ?_
 refine wv (.int .i64 1) ?_
 refine wpList_nil (then_normal ?_)
 refine wsr ?_
 refine wv (.slice (some ⟨g3, 0, none⟩) ((listL x y).length) cap2) ?_
 refine wv (.int .i64 1) ?_
 replace B3 := B3.ext E6
 refine wclx (fun v_ w_ => ∃ cs' ys, v_ = .int .i64 (1 + ((listL x y).length : Int)) ∧ Blk w_ g3 2 cs' ∧ SlI cs' (listL x y).length cap2 .i64 ys ∧ (ys.length = (listL x y).length ∧ ∀ j, j < (listL x y).length → atI ys j = 1 + (j : Int)) ∧ Wr g3 w6 w_) (markInt64S_any (listL x y) g3 cap2 cs2 S2 1 (by omega) (by omega) _ B3) (fun e_ w_ ⟨c_, y_, h_, r_⟩ => ⟨_, h_, c_, y_, rfl, r_⟩) ?_
 rintro v_ w7 ⟨cs3, ys1, rfl, B3_, S3, hm1, X1⟩
 clear B3; have B3 := B3_; clear B3_
 refine wv (.int .i64 (1 + ((listL x y).length : Int))) ?_
 refine wpList_nil (then_normal ?_)
 refine wsr ?_
 refine wv (.int .i64 1) ?_
 refine wpList_nil (then_normal ?_)
 refine wsr ?_
 refine wv (.slice (some ⟨g3, 0, none⟩) ((listL x y).length) cap2) ?_
 refine wv (.int .i64 1) ?_
 refine wcl (heldInt64S_any ys1 ((listL x y).length) g3 cap2 cs3 S3 1 (by omega) (by omega) hm1.2 _ B3) ?_
 intro w8 E7
 refine wv (.int .i64 (1 + ((listL x y).length : Int))) ?_
 refine wpList_nil (then_normal ?_)
 refine wp_seq ?_
 refine wsr ?_
 refine wv (.int .i64 (1 + ((listL x y).length : Int))) ?_
 refine wv (.bool (decide ((1 + ((listL x y).length : Int)) < 0))) ?_
 refine wpList_nil (then_normal ?_)
 have H3 := (X1.ext w lo_g3 ((H2.trans E5).trans E6)).trans E7
 refine wsplit (decide ((1 + ((listL x y).length : Int)) < 0)) (fun h1 => ?_) (fun h1 => ?_)
 · skip
   have h1d := dT h1
   refine wsr ?_
   refine wv (.bool false) ?_
   refine wpList_nil (then_normal ?_)
   refine wp_ret ?_
   refine then_ret ?_
   refine ret1 (.bool true) rfl ?_ rfl ?_
   · refine (resT (v := .bool false) (by kernel_rfl)).trans ?_
     refine congrArg Value.bool ?_
     exfalso; omega
   exact ⟨rfl, H3⟩
 · skip
   have h1d := dF h1
   refine wp_skip ?_
   refine then_normal ?_
   refine wp_seq ?_
   refine wsr ?_
   refine wv (.int .i64 (1 + ((listL x y).length : Int))) ?_
   refine wv (.int .i64 (1 + ((listL x y).length : Int))) ?_
   refine wvv (.bool ((1 + ((listL x y).length : Int)) != (1 + ((listL x y).length : Int)))) (.bool false) (by simp) ?_
   refine wpList_nil (then_normal ?_)
   refine wcf ?_
   refine wp_skip ?_
   refine then_normal ?_
   refine wsr ?_
   replace B1 := (X1.blk ((B1.ext E5).ext E6) q_g1_g3).ext E7
   refine wrow row__2_uint64 B1 (by rfl) ?_
   refine wcl (toCells_any x y _) ?_
   intro w9 E8
   replace B1 := B1.ext E8
   replace B2 := ((X1.blk (B2.ext E6) q_g2_g3).ext E7).ext E8
   replace B3 := (B3.ext E7).ext E8
   have H4 := H3.trans E8
   refine wcli (iListOf_any x y _) ?_
   intro g4 cap3 cs4 w10 B4 S4 E9 hg_
   have q_g1_g4 := Nat.ne_of_lt (Nat.lt_of_lt_of_le B1.lt hg_)
   have q_g2_g4 := Nat.ne_of_lt (Nat.lt_of_lt_of_le B2.lt hg_)
   have q_g3_g4 := Nat.ne_of_lt (Nat.lt_of_lt_of_le B3.lt hg_)
   have lo_g4 := Nat.le_trans (H4).size hg_
   have ll3 := listL_length x y
   refine wv (.slice (some ⟨g4, 0, none⟩) ((listL x y).length) cap3) ?_
   refine wpList_nil (then_normal ?_)
   refine wp_frame (a' := ⟨#[.agg #[.int .u64 x, .int .u64 y], .pointer (some ⟨g1, 0, none⟩), .bool false, .slice (some ⟨g2, 0, none⟩) ((listL x y).length) cap1, .slice (some ⟨g3, 0, none⟩) ((listL x y).length) cap2, .int .i64 (1 + ((listL x y).length : Int)), .int .i64 (1 + ((listL x y).length : Int)), .slice (some ⟨g4, 0, none⟩) ((listL x y).length) cap3, .agg #[.int .u64 x, .int .u64 y], .agg #[.int .u64 x, .int .u64 y], .slice (some ⟨g2, 0, none⟩) ((listL x y).length) cap1, .agg #[.int .u64 x, .int .u64 y], .agg #[.int .u64 x, .int .u64 y], .slice (some ⟨g3, 0, none⟩) ((listL x y).length) cap2, .slice (some ⟨g3, 0, none⟩) ((listL x y).length) cap2, .slice (some ⟨g2, 0, none⟩) ((listL x y).length) cap1, .bool true, .bool false, .slice (some ⟨g3, 0, none⟩) ((listL x y).length) cap2, .int .i64 1, .int .i64 (1 + ((listL x y).length : Int)), .slice (some ⟨g3, 0, none⟩) ((listL x y).length) cap2, .int .i64 1, .int .i64 (1 + ((listL x y).length : Int)), .int .i64 (1 + ((listL x y).length : Int)), .bool (decide ((1 + ((listL x y).length : Int)) < 0)), .int .i64 (1 + ((listL x y).length : Int)), .int .i64 (1 + ((listL x y).length : Int)), .bool false, .agg #[.int .u64 x, .int .u64 y], .agg #[.int .u64 x, .int .u64 y], .slice (some ⟨g4, 0, none⟩) ((listL x y).length) cap3, undef, undef, undef, undef, undef, undef, undef, undef, undef, undef, undef, undef], []⟩) (by kernel_rfl) ?_
   refine wp_seq ?_
   refine wsr ?_
   refine wv (.slice (some ⟨g4, 0, none⟩) ((listL x y).length) cap3) ?_
   refine wv (.slice (some ⟨g2, 0, none⟩) ((listL x y).length) cap1) ?_
   replace B2 := B2.ext E9
   refine wcl (eqInt64S_same (listL x y) g4 cap3 cs4 S4 g2 cap1 cs1 S1 (by omega) _ B4 B2) ?_
   intro w11 E10
   refine wv (.bool false) ?_
   refine wpList_nil (then_normal ?_)
   refine wcf ?_
   refine wp_skip ?_
   refine then_normal ?_
   refine wsr ?_
   refine wv (.int .i64 1) ?_
   refine wpList_nil (then_normal ?_)
   refine wsr ?_
   refine wv (.slice (some ⟨g3, 0, none⟩) ((listL x y).length) cap2) ?_
   refine wv (.int .i64 1) ?_
   replace B3 := (B3.ext E9).ext E10
   refine wcl (heldInt64S_any ys1 ((listL x y).length) g3 cap2 cs3 S3 1 (by omega) (by omega) hm1.2 _ B3) ?_
   intro w12 E11
   refine wv (.int .i64 (1 + ((listL x y).length : Int))) ?_
   refine wpList_nil (then_normal ?_)
   refine wp_seq ?_
   refine wsr ?_
   refine wv (.int .i64 (1 + ((listL x y).length : Int))) ?_
   refine wv (.bool (decide ((1 + ((listL x y).length : Int)) < 0))) ?_
   refine wbl 40 false h1 ?_
   refine wpList_nil (then_normal ?_)
   refine wcf ?_
   refine wp_skip ?_
   refine then_normal ?_
   refine wp_seq ?_
   refine wsr ?_
   refine wv (.int .i64 (1 + ((listL x y).length : Int))) ?_
   refine wv (.int .i64 (1 + ((listL x y).length : Int))) ?_
   refine wvv (.bool ((1 + ((listL x y).length : Int)) != (1 + ((listL x y).length : Int)))) (.bool false) (by simp) ?_
   refine wpList_nil (then_normal ?_)
   refine wcf ?_
   refine wp_skip ?_
   refine then_normal ?_
   refine wsr ?_
   refine wv (.bool true) ?_
   refine wpList_nil (then_normal ?_)
   refine wp_ret ?_
   have H5 := ((H4.trans E9).trans E10).trans E11
   refine ret1 (.bool true) rfl ?_ rfl ?_
   · exact resT (by kernel_rfl)
   exact ⟨rfl, H5⟩
end
--# row FnExactListOf
set_option maxRecDepth 100000 in
theorem fnExactListOf_lifted (os : Os) (started : os.Started) (H : Type) (enc : TypeId × Value → H) :
    ReturnsInHanded {} Try.checked os 4 .any (Rows.fnExactListOfSpec.pre6 enc Try.prog Try.f4 Rows.fnExactListOfRow.domain false) (Rows.fnExactListOfSpec.post enc Try.prog Try.f4 false true false false) := by
  refine returnsInHanded_of_change (C := Try.checked) ownKnob_none started (by kernel_rfl) Try.func4
    (ChangeSpec.witness6 (enc := enc) (C := Try.checked) false ⟨#[], #[.agg #[.int .u64 0, .int .u64 0]], []⟩ 8 (by kernel_rfl) (by kernel_rfl) (by kernel_rfl) (by kernel_rfl)) ?_
  intro W base args ds gs before hval0 hW hcnd _
  have hval : ∀ (j : Nat) t v, Try.f4.params[j]? = some t → args[j]? = some v → Value.okWide Try.prog W .any base t v := hval0
  have hW' := hW
  obtain ⟨p, q, hA0, hV, rfl, hfz, hnd⟩ := hW
  have hA : DataW.TrodAll enc Try.prog W 0 (fun _ => true) true Try.f4.params.toList args.toList ds p := hA0
  rw [Try.params4] at hA hval
  obtain ⟨v0, vs0, d0, ds0, p0, q0, hargs, rfl, rfl, h0, r0⟩ := trodAll_cons hA
  obtain ⟨rfl, rfl, rfl⟩ := trodAll_nil r0
  obtain rfl : args = #[v0] := by cases args; simp_all
  obtain ⟨rfl, rfl⟩ := trodVars_none hV
  have k0 := h0
  have lt0 : ∀ x ∈ p0, x.block < W.heap.size := by obtain ⟨m, hm⟩ := k0; exact DataW.trod_lt m _ _ _ hm
  obtain ⟨x, y, rfl, hbx, hby⟩ := open_cells Try.underlying23 Try.underlying22 (by kernel_rfl) (by kernel_rfl) (hval 0 23 v0 rfl rfl) h0
  clear hA0 hval0
  refine (FnExactListOf_walk x y W).mono fun e W' ⟨he, hx⟩ => ?_
  have bel := hx.below
  subst he
  exact ⟨_, rfl, _, _, _, [], _, [], hW', trodAll_mk1 (shut_bool Try.underlying4 _), (trodAll_cons_mk (Below.trod laidOut_ (by kernel_rfl) (of_decide_eq_true (by kernel_rfl)) k0 bel lt0) trodAll_mk0), rfl, bel.frame _, fun h => by cases h⟩
theorem fnExactListOf_holds : Rows.FnExactListOfSaid :=
  OpenClaim.holds_of_wide 4 Try.f4 rfl rfl rfl rfl rfl rfl rfl ⟨rfl, rfl, rfl, rfl, rfl⟩ rfl rfl rfl rfl rfl (by kernel_rfl) Try.func4 (by kernel_rfl)
    (of_decide_eq_true (by kernel_rfl)) (by unfold Func.isWrapper; first | (rw [if_pos (by decide +kernel)]; kernel_rfl) | (rw [if_neg (by decide +kernel)]; exact ⟨rfl, rfl⟩))
    (fun os started H enc _ => fnExactListOf_lifted os started H enc)
end Go.Proofs.Ytjnlbincgakmpaa
