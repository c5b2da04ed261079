/-
  For all arguments, the law FnExactSameFlocks returns true; its arguments read as they did. No conditions.
-/
import Derived.Test.YthiiampknelbjaaRows
import Derived.Test.YthiiampknelbjaaFn13
import Derived.Test.YthiiampknelbjaaRowk
import Derived.WalkKit
import Derived.ProofKit
import Derived.OpenShut
import Derived.ShutString
import Derived.ChangeOld
import Derived.Below
import Derived.SizedLaws
namespace Go.Proofs.Ythiiampknelbjaa
open Go.ChangeShapes Go.WideShapes Go.ChangeAt Go.RowKit
open Go.ChangeMaps (open_string shut_string)
set_option linter.unusedVariables false
theorem ownKnob_none : ownKnob Try.prog.godebug = none := by kernel_rfl
theorem laidOut_ : laidOutB Try.prog = true := by kernel_rfl
section
set_option maxHeartbeats 4000000
set_option maxRecDepth 100000
attribute [local irreducible] wpList Code.wp
--# walk FnExactSameFlocks
theorem FnExactSameFlocks_walk (v : Value) (n : Nat) (f : Nat → Nat → Int) (v2 : Value) (n2 : Nat) (f2 : Nat → Nat → Int) (w : World) (hn : n ≤ 9223372036854775807) (hn2 : n2 ≤ 9223372036854775807) (hin : SlRIn w v n 6 [.i16, .i16, .i16, .i16, .i16, .i8] f) (hin2 : SlRIn w v2 n2 6 [.i16, .i16, .i16, .i16, .i16, .i8] f2) :
 Calls Try.prog 14 #[v, v2] w fun e w' => e = .returned (.bool true) ∧ Ext w w' := by
 refine calls_of_wp Try.func14 rfl ?_
 refine wp_frame (a' := ⟨#[v, v2, undef, undef, undef, undef, undef, undef, undef, undef, undef, undef, undef, undef, undef, undef, undef, undef, undef, undef, undef, undef, undef, undef, undef, undef, undef, undef, undef, undef, undef, undef, undef, undef, undef, undef, undef, undef, undef, undef, undef, undef, undef, undef, undef], []⟩) (by kernel_rfl) ?_
 refine wsr ?_
 refine wv (.bool false) ?_
 refine wpList_nil (then_normal ?_)
 refine wsr ?_
 refine wv (.int .i64 1048576) ?_
 refine wpList_nil (then_normal ?_)
 refine wsr ?_
 refine wv v ?_
 refine wv (.int .i64 1048576) ?_
 refine wcl (szFlockS_any v n f 1048576 (by omega) (by omega) _ (SlRIn.ext hin (Ext.refl w))) ?_
 intro w1 E1
 have sz1 := szL_b 1048576 n
 refine wv (.int .i64 (szL 1048576 n)) ?_
 refine wpList_nil (then_normal ?_)
 refine wp_seq ?_
 refine wsr ?_
 refine wv (.int .i64 (szL 1048576 n)) ?_
 refine wv (.bool (decide ((szL 1048576 n) < 0))) ?_
 refine wpList_nil (then_normal ?_)
 refine wsplit (decide ((szL 1048576 n) < 0)) (fun h1 => ?_) (fun h1 => ?_)
 · skip
   have h1d := dT h1
   refine wsr ?_
   refine wv (.bool true) ?_
   refine wpList_nil (then_normal ?_)
   refine wp_ret ?_
   refine then_ret ?_
   have H1 := (Ext.refl w).trans E1
   refine ret1 (.bool true) rfl ?_ rfl ?_
   · exact resT (by kernel_rfl)
   exact ⟨rfl, H1⟩
 · skip
   have h1d := dF h1
   refine wp_skip ?_
   refine then_normal ?_
   refine wsr ?_
   refine wv v2 ?_
   refine wv (.int .i64 (szL 1048576 n)) ?_
   have H2 := (Ext.refl w).trans E1
   refine wcl (szFlockS_any v2 n2 f2 (szL 1048576 n) (by omega) (by omega) _ (SlRIn.ext hin2 H2)) ?_
   intro w2 E2
   have sz2 := szL_b (szL 1048576 n) n2
   refine wv (.int .i64 (szL (szL 1048576 n) n2)) ?_
   refine wpList_nil (then_normal ?_)
   refine wp_seq ?_
   refine wsr ?_
   refine wv (.int .i64 (szL (szL 1048576 n) n2)) ?_
   refine wv (.bool (decide ((szL (szL 1048576 n) n2) < 0))) ?_
   refine wpList_nil (then_normal ?_)
   refine wsplit (decide ((szL (szL 1048576 n) n2) < 0)) (fun h2 => ?_) (fun h2 => ?_)
   · skip
     have h2d := dT h2
     refine wsr ?_
     refine wv (.bool true) ?_
     refine wpList_nil (then_normal ?_)
     refine wp_ret ?_
     refine then_ret ?_
     have H3 := H2.trans E2
     refine ret1 (.bool true) rfl ?_ rfl ?_
     · exact resT (by kernel_rfl)
     exact ⟨rfl, H3⟩
   · skip
     have h2d := dF h2
     refine wp_skip ?_
     refine then_normal ?_
     refine wsr ?_
     refine wv v ?_
     have H4 := H2.trans E2
     refine wclr (toFlockS_any v n f (by omega) _ (SlRIn.ext hin H4)) ?_
     intro g1 cs1 w3 B1 S1 E3 hg_
     have lo_g1 := Nat.le_trans (H4).size hg_
     refine wv v2 ?_
     have H5 := H4.trans E3
     refine wclr (toFlockS_any v2 n2 f2 (by omega) _ (SlRIn.ext hin2 H5)) ?_
     intro g2 cs2 w4 B2 S2 E4 hg_
     have lo_g2 := Nat.le_trans (H5).size hg_
     replace B1 := B1.ext E4
     refine wcl (sSameFlock_any n f g1 cs1 S1 n2 f2 g2 cs2 S2 (by omega) (by omega) _ B1 B2) ?_
     intro w5 E5
     refine wv (.bool (eqS n n2 6 f f2)) ?_
     refine wpList_nil (then_normal ?_)
     refine wsr ?_
     refine wv v ?_
     have H6 := (H5.trans E4).trans E5
     replace B1 := B1.ext E5
     replace B2 := B2.ext E5
     refine wclr (toFlockS_any v n f (by omega) _ (SlRIn.ext hin H6)) ?_
     intro g3 cs3 w6 B3 S3 E6 hg_
     have lo_g3 := Nat.le_trans (H6).size hg_
     refine wv (.slice (some ⟨g3, 0, none⟩) n n) ?_
     refine wpList_nil (then_normal ?_)
     refine wsr ?_
     refine wv v2 ?_
     have H7 := H6.trans E6
     replace B1 := B1.ext E6
     replace B2 := B2.ext E6
     refine wclr (toFlockS_any v2 n2 f2 (by omega) _ (SlRIn.ext hin2 H7)) ?_
     intro g4 cs4 w7 B4 S4 E7 hg_
     have lo_g4 := Nat.le_trans (H7).size hg_
     refine wv (.slice (some ⟨g4, 0, none⟩) n2 n2) ?_
     refine wpList_nil (then_normal ?_)
     refine wsr ?_
     refine wv (.slice (some ⟨g3, 0, none⟩) n n) ?_
     refine wv (.slice (some ⟨g4, 0, none⟩) n2 n2) ?_
     replace B3 := B3.ext E7
     refine wcl (iSameFlock_any n f g3 cs3 S3 n2 f2 g4 cs4 S4 (by omega) (by omega) _ B3 B4) ?_
     intro w8 E8
     refine wv (.bool (eqS n n2 6 f f2)) ?_
     refine wpList_nil (then_normal ?_)
     refine wp_seq ?_
     refine wsr ?_
     refine wv (.bool (eqS n n2 6 f f2)) ?_
     refine wv (.bool (eqS n n2 6 f f2)) ?_
     refine wvv (.bool ((eqS n n2 6 f f2) != (eqS n n2 6 f f2))) (.bool false) (by simp) ?_
     refine wpList_nil (then_normal ?_)
     refine wp_frame (a' := ⟨#[v, v2, undef, undef, .bool false, .int .i64 (szL (szL 1048576 n) n2), .bool (eqS n n2 6 f f2), .slice (some ⟨g3, 0, none⟩) n n, .slice (some ⟨g4, 0, none⟩) n2 n2, .bool (eqS n n2 6 f f2), v, .int .i64 1048576, .int .i64 (szL 1048576 n), .int .i64 (szL 1048576 n), .bool (decide ((szL 1048576 n) < 0)), v2, .int .i64 (szL 1048576 n), .int .i64 (szL (szL 1048576 n) n2), .int .i64 (szL (szL 1048576 n) n2), .bool (decide ((szL (szL 1048576 n) n2) < 0)), v, .slice (some ⟨g1, 0, none⟩) n n, v2, .slice (some ⟨g2, 0, none⟩) n2 n2, .bool (eqS n n2 6 f f2), v, .slice (some ⟨g3, 0, none⟩) n n, v2, .slice (some ⟨g4, 0, none⟩) n2 n2, .slice (some ⟨g3, 0, none⟩) n n, .slice (some ⟨g4, 0, none⟩) n2 n2, .bool (eqS n n2 6 f f2), .bool (eqS n n2 6 f f2), .bool (eqS n n2 6 f f2), .bool false, undef, undef, undef, undef, undef, undef, undef, undef, undef, undef], []⟩) (by kernel_rfl) ?_
     refine wcf ?_
     refine wp_skip ?_
     refine then_normal ?_
     refine wp_seq ?_
     refine wsr ?_
     refine wv (.slice (some ⟨g3, 0, none⟩) n n) ?_
     refine wv v ?_
     have H8 := (H7.trans E7).trans E8
     replace B1 := (B1.ext E7).ext E8
     replace B2 := (B2.ext E7).ext E8
     replace B3 := B3.ext E8
     replace B4 := B4.ext E8
     refine wclr (toFlockS_any v n f (by omega) _ (SlRIn.ext hin H8)) ?_
     intro g5 cs5 w9 B5 S5 E9 hg_
     have lo_g5 := Nat.le_trans (H8).size hg_
     replace B3 := B3.ext E9
     refine wcl (eqFlockS_same n f g3 cs3 S3 g5 cs5 S5 (by omega) _ B3 B5) ?_
     intro w10 E10
     refine wv (.bool false) ?_
     refine wpList_nil (then_normal ?_)
     refine wcf ?_
     refine wp_skip ?_
     refine then_normal ?_
     refine wp_seq ?_
     refine wsr ?_
     refine wv (.slice (some ⟨g4, 0, none⟩) n2 n2) ?_
     refine wv v2 ?_
     have H9 := (H8.trans E9).trans E10
     replace B1 := (B1.ext E9).ext E10
     replace B2 := (B2.ext E9).ext E10
     replace B3 := B3.ext E10
     replace B4 := (B4.ext E9).ext E10
     replace B5 := B5.ext E10
     refine wclr (toFlockS_any v2 n2 f2 (by omega) _ (SlRIn.ext hin2 H9)) ?_
     intro g6 cs6 w11 B6 S6 E11 hg_
     have lo_g6 := Nat.le_trans (H9).size hg_
     replace B4 := B4.ext E11
     refine wcl (eqFlockS_same n2 f2 g4 cs4 S4 g6 cs6 S6 (by omega) _ B4 B6) ?_
     intro w12 E12
     refine wv (.bool false) ?_
     refine wpList_nil (then_normal ?_)
     refine wcf ?_
     refine wp_skip ?_
     refine then_normal ?_
     refine wsr ?_
     refine wv (.bool true) ?_
     refine wpList_nil (then_normal ?_)
     refine wp_ret ?_
     have H10 := (H9.trans E11).trans E12
     refine ret1 (.bool true) rfl ?_ rfl ?_
     · exact resT (by kernel_rfl)
     exact ⟨rfl, H10⟩
end
--# row FnExactSameFlocks
set_option maxRecDepth 100000 in
theorem fnExactSameFlocks_lifted (os : Os) (started : os.Started) (H : Type) (enc : TypeId × Value → H) :
    ReturnsInHanded {} Try.checked os 14 .any (Rows.fnExactSameFlocksSpec.pre6 enc Try.prog Try.f14 Rows.fnExactSameFlocksRow.domain false) (Rows.fnExactSameFlocksSpec.post enc Try.prog Try.f14 false true false false) := by
  refine returnsInHanded_of_change (C := Try.checked) ownKnob_none started (by kernel_rfl) Try.func14
    (ChangeSpec.witness6 (enc := enc) (C := Try.checked) false ⟨#[], #[.slice none 0 0, .slice none 0 0], []⟩ 8 (by kernel_rfl) (by kernel_rfl) (by kernel_rfl) (by kernel_rfl)) ?_
  intro W base args ds gs before hval0 hW hcnd _
  have hval : ∀ (j : Nat) t v, Try.f14.params[j]? = some t → args[j]? = some v → Value.okWide Try.prog W .any base t v := hval0
  have hW' := hW
  obtain ⟨p, q, hA0, hV, rfl, hfz, hnd⟩ := hW
  have hA : DataW.TrodAll enc Try.prog W 0 (fun _ => true) true Try.f14.params.toList args.toList ds p := hA0
  rw [Try.params14] at hA hval
  obtain ⟨v0, vs0, d0, ds0, p0, q0, hargs, rfl, rfl, h0, r0⟩ := trodAll_cons hA
  obtain ⟨v1, vs1, d1, ds1, p1, q1, rfl, rfl, rfl, h1, r1⟩ := trodAll_cons r0
  obtain ⟨rfl, rfl, rfl⟩ := trodAll_nil r1
  obtain rfl : args = #[v0, v1] := by cases args; simp_all
  obtain ⟨rfl, rfl⟩ := trodVars_none hV
  have k0 := h0
  have lt0 : ∀ x ∈ p0, x.block < W.heap.size := by obtain ⟨m, hm⟩ := k0; exact DataW.trod_lt m _ _ _ hm
  obtain ⟨n, f, hn0, hin0⟩ := open_slr (ks := [.i16, .i16, .i16, .i16, .i16, .i8]) Try.underlying74 Try.underlying119 (by kernel_rfl) (by kernel_rfl) (hval 0 74 v0 rfl rfl) h0
  have k1 := h1
  have lt1 : ∀ x ∈ p1, x.block < W.heap.size := by obtain ⟨m, hm⟩ := k1; exact DataW.trod_lt m _ _ _ hm
  obtain ⟨n2, f2, hn1, hin1⟩ := open_slr (ks := [.i16, .i16, .i16, .i16, .i16, .i8]) Try.underlying74 Try.underlying119 (by kernel_rfl) (by kernel_rfl) (hval 1 74 v1 rfl rfl) h1
  clear hA0 hval0
  refine (FnExactSameFlocks_walk v0 n f v1 n2 f2 W hn0 hn1 hin0 hin1).mono fun e W' ⟨he, hx⟩ => ?_
  have bel := hx.below
  subst he
  exact ⟨_, rfl, _, _, _, [], _, [], hW', trodAll_mk1 (shut_bool Try.underlying4 _), (trodAll_cons_mk (Below.trod laidOut_ (by kernel_rfl) (of_decide_eq_true (by kernel_rfl)) k0 bel lt0) (trodAll_cons_mk (Below.trod laidOut_ (by kernel_rfl) (of_decide_eq_true (by kernel_rfl)) k1 bel lt1) trodAll_mk0)), rfl, bel.frame _, fun h => by cases h⟩
theorem fnExactSameFlocks_holds : Rows.FnExactSameFlocksSaid :=
  OpenClaim.holds_of_wide 14 Try.f14 rfl rfl rfl rfl rfl rfl rfl ⟨rfl, rfl, rfl, rfl, rfl⟩ rfl rfl rfl rfl rfl (by kernel_rfl) Try.func14 (by kernel_rfl)
    (of_decide_eq_true (by kernel_rfl)) (by unfold Func.isWrapper; first | (rw [if_pos (by decide +kernel)]; kernel_rfl) | (rw [if_neg (by decide +kernel)]; exact ⟨rfl, rfl⟩))
    (fun os started H enc _ => fnExactSameFlocks_lifted os started H enc)
end Go.Proofs.Ythiiampknelbjaa
