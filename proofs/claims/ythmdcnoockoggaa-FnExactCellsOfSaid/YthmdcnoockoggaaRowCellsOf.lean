/-
  For all arguments, the law FnExactCellsOf returns true; its arguments read as they did. No conditions.
-/
import Derived.Test.YthmdcnoockoggaaRows
import Derived.Test.YthmdcnoockoggaaFn4
import Derived.Test.YthmdcnoockoggaaRowk
import Derived.WalkKit
import Derived.ProofKit
import Derived.OpenShut
import Derived.ShutString
import Derived.ChangeOld
import Derived.Below
import Derived.SizedLaws
namespace Go.Proofs.Ythmdcnoockoggaa
open Go.ChangeShapes Go.WideShapes Go.ChangeAt Go.RowKit
open Go.ChangeMaps (open_string shut_string)
set_option linter.unusedVariables false
theorem ownKnob_none : ownKnob Try.prog.godebug = none := by kernel_rfl
theorem laidOut_ : laidOutB Try.prog = true := by kernel_rfl
section
set_option maxHeartbeats 4000000
attribute [local irreducible] wpList Code.wp
--# walk FnExactCellsOf
theorem FnExactCellsOf_walk (xs : List Int) (v : Value) (w : World) (hin : SlIn w v .i64 xs) :
 Calls Try.prog 14 #[v] w fun e w' => e = .returned (.bool true) ∧ Ext w w' := by
 refine calls_of_wp Try.func14 rfl ?_
 refine wp_frame (a' := ⟨#[v, undef, undef, undef, undef, undef, undef, undef, undef, undef, undef, undef, undef, undef, undef, undef, undef, undef, undef, undef, undef, undef, undef, undef, undef, undef, undef, undef, undef, undef, undef, undef, undef, undef, undef, undef, undef, undef], []⟩) (by kernel_rfl) ?_
 refine wsr ?_
 refine wv (.bool false) ?_
 refine wpList_nil (then_normal ?_)
 refine wp_seq ?_
 refine wsr ?_
 refine wv v ?_
 refine wlen (SlIn.ext hin (Ext.refl w)) ⟨_, slt__int64.1⟩ ?_
 refine wv (.bool (decide (1048576 < (xs.length : Int)))) ?_
 refine wpList_nil (then_normal ?_)
 refine wsplit (decide (1048576 < (xs.length : Int))) (fun h1 => ?_) (fun h1 => ?_)
 · skip
   have h1d := dT h1
   refine wsr ?_
   refine wv (.bool true) ?_
   refine wpList_nil (then_normal ?_)
   refine wp_ret ?_
   refine then_ret ?_
   refine ret1 (.bool true) rfl ?_ rfl ?_
   · exact resT (by kernel_rfl)
   exact ⟨rfl, (Ext.refl w)⟩
 · skip
   have h1d := dF h1
   refine wp_skip ?_
   refine then_normal ?_
   refine wsr ?_
   refine wv v ?_
   refine wcli (toInt64S_any xs v (by omega) _ (SlIn.ext hin (Ext.refl w))) ?_
   intro g1 cap1 cs1 w1 B1 S1 E1 hg_
   have lo_g1 := Nat.le_trans ((Ext.refl w)).size hg_
   refine wcl (sCellsOf_any xs g1 cap1 cs1 S1 (by omega) _ B1) ?_
   intro w2 E2
   refine wv (.tuple #[.agg #[.int .u64 ((ofL xs).1), .int .u64 ((ofL xs).2)], .int .i64 (ofC xs)]) ?_
   refine wv (.agg #[.int .u64 ((ofL xs).1), .int .u64 ((ofL xs).2)]) ?_
   refine wv (.int .i64 (ofC xs)) ?_
   replace B1 := B1.ext E2
   have H1 := ((Ext.refl w).trans E1).trans E2
   refine wnew #[.int .u64 0, .int .u64 0] Try.zeroValue33 rfl ?_
   intro g2 w3 B2 E3 hg_
   have q_g1_g2 := Nat.ne_of_lt (Nat.lt_of_lt_of_le B1.lt hg_)
   have lo_g2 := Nat.le_trans (H1).size hg_
   refine wput #[.int .u64 ((ofL xs).1), .int .u64 ((ofL xs).2)] row_impl_Cells B2 (by rfl) (by rfl) (by kernel_rfl) ?_
   intro w4 B2_ X1
   clear B2; have B2 := B2_; clear B2_
   refine wv (.int .i64 (ofC xs)) ?_
   refine wpList_nil (then_normal ?_)
   refine wsr ?_
   refine wv v ?_
   have H2 := X1.ext w lo_g2 (H1.trans E3)
   replace B1 := X1.blk (B1.ext E3) q_g1_g2
   refine wcli (toInt64S_any xs v (by omega) _ (SlIn.ext hin H2)) ?_
   intro g3 cap2 cs2 w5 B3 S2 E4 hg_
   have q_g1_g3 := Nat.ne_of_lt (Nat.lt_of_lt_of_le B1.lt hg_)
   have q_g2_g3 := Nat.ne_of_lt (Nat.lt_of_lt_of_le B2.lt hg_)
   have lo_g3 := Nat.le_trans (H2).size hg_
   refine wv (.slice (some ⟨g3, 0, none⟩) xs.length cap2) ?_
   refine wpList_nil (then_normal ?_)
   refine wsr ?_
   refine wv (.slice (some ⟨g3, 0, none⟩) xs.length cap2) ?_
   refine wcl (iCellsOf_any xs g3 cap2 cs2 S2 (by omega) _ B3) ?_
   intro w6 E5
   refine wv (.tuple #[.agg #[.int .u64 ((ofL xs).1), .int .u64 ((ofL xs).2)], .int .i64 (ofC xs)]) ?_
   refine wv (.agg #[.int .u64 ((ofL xs).1), .int .u64 ((ofL xs).2)]) ?_
   refine wv (.int .i64 (ofC xs)) ?_
   replace B1 := (B1.ext E4).ext E5
   have H3 := (H2.trans E4).trans E5
   replace B2 := (B2.ext E4).ext E5
   replace B3 := B3.ext E5
   refine wnew #[.int .u64 0, .int .u64 0] Try.zeroValue33 rfl ?_
   intro g4 w7 B4 E6 hg_
   have q_g1_g4 := Nat.ne_of_lt (Nat.lt_of_lt_of_le B1.lt hg_)
   have q_g2_g4 := Nat.ne_of_lt (Nat.lt_of_lt_of_le B2.lt hg_)
   have q_g3_g4 := Nat.ne_of_lt (Nat.lt_of_lt_of_le B3.lt hg_)
   have lo_g4 := Nat.le_trans (H3).size hg_
   refine wput #[.int .u64 ((ofL xs).1), .int .u64 ((ofL xs).2)] row_impl_Cells B4 (by rfl) (by rfl) (by kernel_rfl) ?_
   intro w8 B4_ X2
   clear B4; have B4 := B4_; clear B4_
   refine wv (.int .i64 (ofC xs)) ?_
   refine wpList_nil (then_normal ?_)
   refine wp_seq ?_
   refine wsr ?_
   refine wrow row_impl_Cells B4 (by rfl) ?_
   replace B2 := X2.blk (B2.ext E6) q_g2_g4
   refine wrow row_impl_Cells B2 (by rfl) ?_
   refine wcl (eqCells_same ((ofL xs).1) ((ofL xs).2) _) ?_
   intro w9 E7
   refine wv (.bool false) ?_
   refine wv (.bool false) ?_
   refine wv (.int .i64 (ofC xs)) ?_
   refine wv (.int .i64 (ofC xs)) ?_
   refine wvv (.bool ((ofC xs) != (ofC xs))) (.bool false) (by simp) ?_
   refine wv (.bool false) ?_
   refine wpList_nil (then_normal ?_)
   refine wp_frame (a' := ⟨#[v, undef, .bool false, .pointer (some ⟨g2, 0, none⟩), .int .i64 (ofC xs), .slice (some ⟨g3, 0, none⟩) xs.length cap2, .pointer (some ⟨g4, 0, none⟩), .int .i64 (ofC xs), v, .int .i64 (xs.length : Int), .bool (decide (1048576 < (xs.length : Int))), .tuple #[.agg #[.int .u64 ((ofL xs).1), .int .u64 ((ofL xs).2)], .int .i64 (ofC xs)], v, .slice (some ⟨g1, 0, none⟩) xs.length cap1, .tuple #[.agg #[.int .u64 ((ofL xs).1), .int .u64 ((ofL xs).2)], .int .i64 (ofC xs)], .agg #[.int .u64 ((ofL xs).1), .int .u64 ((ofL xs).2)], .int .i64 (ofC xs), v, .slice (some ⟨g3, 0, none⟩) xs.length cap2, .tuple #[.agg #[.int .u64 ((ofL xs).1), .int .u64 ((ofL xs).2)], .int .i64 (ofC xs)], .slice (some ⟨g3, 0, none⟩) xs.length cap2, .tuple #[.agg #[.int .u64 ((ofL xs).1), .int .u64 ((ofL xs).2)], .int .i64 (ofC xs)], .agg #[.int .u64 ((ofL xs).1), .int .u64 ((ofL xs).2)], .int .i64 (ofC xs), .agg #[.int .u64 ((ofL xs).1), .int .u64 ((ofL xs).2)], .agg #[.int .u64 ((ofL xs).1), .int .u64 ((ofL xs).2)], .bool true, .bool false, .bool false, .int .i64 (ofC xs), .int .i64 (ofC xs), .bool false, .bool false, undef, undef, undef, undef, undef], []⟩) (by kernel_rfl) ?_
   refine wcf ?_
   refine wp_skip ?_
   refine then_normal ?_
   refine wp_seq ?_
   refine wsr ?_
   refine wv (.slice (some ⟨g3, 0, none⟩) xs.length cap2) ?_
   refine wv v ?_
   have H4 := (X2.ext w lo_g4 (H3.trans E6)).trans E7
   replace B1 := (X2.blk (B1.ext E6) q_g1_g4).ext E7
   replace B2 := B2.ext E7
   replace B3 := (X2.blk (B3.ext E6) q_g3_g4).ext E7
   replace B4 := B4.ext E7
   refine wcli (toInt64S_any xs v (by omega) _ (SlIn.ext hin H4)) ?_
   intro g5 cap3 cs3 w10 B5 S3 E8 hg_
   have q_g1_g5 := Nat.ne_of_lt (Nat.lt_of_lt_of_le B1.lt hg_)
   have q_g2_g5 := Nat.ne_of_lt (Nat.lt_of_lt_of_le B2.lt hg_)
   have q_g3_g5 := Nat.ne_of_lt (Nat.lt_of_lt_of_le B3.lt hg_)
   have q_g4_g5 := Nat.ne_of_lt (Nat.lt_of_lt_of_le B4.lt hg_)
   have lo_g5 := Nat.le_trans (H4).size hg_
   replace B3 := B3.ext E8
   refine wcl (eqInt64S_same xs g3 cap2 cs2 S2 g5 cap3 cs3 S3 (by omega) _ B3 B5) ?_
   intro w11 E9
   refine wv (.bool false) ?_
   refine wpList_nil (then_normal ?_)
   refine wcf ?_
   refine wp_skip ?_
   refine then_normal ?_
   refine wsr ?_
   refine wv (.bool true) ?_
   refine wpList_nil (then_normal ?_)
   refine wp_ret ?_
   have H5 := (H4.trans E8).trans E9
   refine ret1 (.bool true) rfl ?_ rfl ?_
   · exact resT (by kernel_rfl)
   exact ⟨rfl, H5⟩
end
--# row FnExactCellsOf
set_option maxRecDepth 100000 in
theorem fnExactCellsOf_lifted (os : Os) (started : os.Started) (H : Type) (enc : TypeId × Value → H) :
    ReturnsInHanded {} Try.checked os 14 .any (Rows.fnExactCellsOfSpec.pre6 enc Try.prog Try.f14 Rows.fnExactCellsOfRow.domain false) (Rows.fnExactCellsOfSpec.post enc Try.prog Try.f14 false true false false) := by
  refine returnsInHanded_of_change (C := Try.checked) ownKnob_none started (by kernel_rfl) Try.func14
    (ChangeSpec.witness6 (enc := enc) (C := Try.checked) false ⟨#[], #[.slice none 0 0], []⟩ 8 (by kernel_rfl) (by kernel_rfl) (by kernel_rfl) (by kernel_rfl)) ?_
  intro W base args ds gs before hval0 hW hcnd _
  have hval : ∀ (j : Nat) t v, Try.f14.params[j]? = some t → args[j]? = some v → Value.okWide Try.prog W .any base t v := hval0
  have hW' := hW
  obtain ⟨p, q, hA0, hV, rfl, hfz, hnd⟩ := hW
  have hA : DataW.TrodAll enc Try.prog W 0 (fun _ => true) true Try.f14.params.toList args.toList ds p := hA0
  rw [Try.params14] at hA hval
  obtain ⟨v0, vs0, d0, ds0, p0, q0, hargs, rfl, rfl, h0, r0⟩ := trodAll_cons hA
  obtain ⟨rfl, rfl, rfl⟩ := trodAll_nil r0
  obtain rfl : args = #[v0] := by cases args; simp_all
  obtain ⟨rfl, rfl⟩ := trodVars_none hV
  have k0 := h0
  have lt0 : ∀ x ∈ p0, x.block < W.heap.size := by obtain ⟨m, hm⟩ := k0; exact DataW.trod_lt m _ _ _ hm
  obtain ⟨xs, hin0, hwl0⟩ := open_slin (k := .i64) Try.underlying48 Try.underlying2 (by kernel_rfl) (hval 0 48 v0 rfl rfl) h0
  clear hA0 hval0
  refine (FnExactCellsOf_walk xs v0 W hin0).mono fun e W' ⟨he, hx⟩ => ?_
  have bel := hx.below
  subst he
  exact ⟨_, rfl, _, _, _, [], _, [], hW', trodAll_mk1 (shut_bool Try.underlying4 _), (trodAll_cons_mk (Below.trod laidOut_ (by kernel_rfl) (of_decide_eq_true (by kernel_rfl)) k0 bel lt0) trodAll_mk0), rfl, bel.frame _, fun h => by cases h⟩
theorem fnExactCellsOf_holds : Rows.FnExactCellsOfSaid :=
  OpenClaim.holds_of_wide 14 Try.f14 rfl rfl rfl rfl rfl rfl rfl ⟨rfl, rfl, rfl, rfl, rfl⟩ rfl rfl rfl rfl rfl (by kernel_rfl) Try.func14 (by kernel_rfl)
    (of_decide_eq_true (by kernel_rfl)) (by unfold Func.isWrapper; first | (rw [if_pos (by decide +kernel)]; kernel_rfl) | (rw [if_neg (by decide +kernel)]; exact ⟨rfl, rfl⟩))
    (fun os started H enc _ => fnExactCellsOf_lifted os started H enc)
end Go.Proofs.Ythmdcnoockoggaa
