/-
  For all arguments, the law FnExactCheckShifts returns true; its arguments read as they did. No conditions.
-/
import Derived.Test.YtbjcloilcpoafaaRows
import Derived.Test.YtbjcloilcpoafaaFn8
import Derived.Test.YtbjcloilcpoafaaRowk
import Derived.WalkKit
import Derived.ProofKit
import Derived.OpenShut
import Derived.ShutString
import Derived.ChangeOld
import Derived.Below
import Derived.SizedLaws
namespace Go.Proofs.Ytbjcloilcpoafaa
open Go.ChangeShapes Go.WideShapes Go.ChangeAt Go.RowKit
open Go.ChangeMaps (open_string shut_string)
set_option linter.unusedVariables false
theorem ownKnob_none : ownKnob Try.prog.godebug = none := by kernel_rfl
theorem laidOut_ : laidOutB Try.prog = true := by kernel_rfl
section
set_option maxHeartbeats 4000000
set_option maxRecDepth 100000
attribute [local irreducible] wpList Code.wp
--# walk FnExactCheckShifts
theorem FnExactCheckShifts_walk (need : List Int) (v : Value) (len : Int) (starts : List Int) (v2 : Value) (w : World) (hin : SlIn w v .i64 need) (hin2 : SlIn w v2 .i64 starts) :
 Calls Try.prog 4 #[v, .int .i64 len, v2] w fun e w' => e = .returned (.bool true) ∧ Ext w w' := by
 refine calls_of_wp Try.func4 rfl ?_
 refine wp_frame (a' := ⟨#[v, .int .i64 len, v2, undef, undef, undef, undef, undef, undef, undef, undef, undef, undef, undef, undef, undef, undef, undef, undef, undef, undef, undef, undef, undef, undef, undef, undef, undef, undef, undef, undef, undef, undef, undef, undef, undef, undef, undef, undef, undef, undef, undef, undef, undef, undef, undef, undef, undef, undef, undef, undef, undef, undef, undef, undef, undef, undef], []⟩) (by kernel_rfl) ?_
 refine wsr ?_
 refine wv (.bool false) ?_
 refine wpList_nil (then_normal ?_)
 refine wp_seq ?_
 refine wsr ?_
 refine wv v ?_
 refine wlen (SlIn.ext hin (Ext.refl w)) ⟨_, slt__int64.1⟩ ?_
 refine wv (.bool (decide (1048576 < (need.length : Int)))) ?_
 refine wpList_nil (then_normal ?_)
 refine wsplit (decide (1048576 < (need.length : Int))) (fun h1 => ?_) (fun h1 => ?_)
 · skip
   have h1d := dT h1
   refine wsr ?_
   refine wv (.bool true) ?_
   refine wpList_nil (then_normal ?_)
   refine wp_ret ?_
   refine then_ret ?_
   refine ret1 (.bool true) rfl ?_ rfl ?_
   · exact resT (by kernel_rfl)
   exact ⟨rfl, (Ext.refl w)⟩
 · skip
   have h1d := dF h1
   refine wp_skip ?_
   refine then_normal ?_
   refine wp_seq ?_
   refine wsr ?_
   refine wv v2 ?_
   refine wlen (SlIn.ext hin2 (Ext.refl w)) ⟨_, slt__int64.1⟩ ?_
   refine wv (.bool (decide (1048576 < (starts.length : Int)))) ?_
   refine wpList_nil (then_normal ?_)
   refine wsplit (decide (1048576 < (starts.length : Int))) (fun h2 => ?_) (fun h2 => ?_)
   · skip
     have h2d := dT h2
     refine wsr ?_
     refine wv (.bool true) ?_
     refine wpList_nil (then_normal ?_)
     refine wp_ret ?_
     refine then_ret ?_
     refine ret1 (.bool true) rfl ?_ rfl ?_
     · exact resT (by kernel_rfl)
     exact ⟨rfl, (Ext.refl w)⟩
   · skip
     have h2d := dF h2
     refine wp_skip ?_
     refine then_normal ?_
     refine wsr ?_
     refine wv v ?_
     refine wcli (toInt64S_any need v (by omega) _ (SlIn.ext hin (Ext.refl w))) ?_
     intro g1 cap1 cs1 w1 B1 S1 E1 hg_
     have lo_g1 := Nat.le_trans ((Ext.refl w)).size hg_
     refine wv (.int .i64 len) ?_
     refine wv v2 ?_
     have H1 := (Ext.refl w).trans E1
     refine wcli (toInt64S_any starts v2 (by omega) _ (SlIn.ext hin2 H1)) ?_
     intro g2 cap2 cs2 w2 B2 S2 E2 hg_
     have lo_g2 := Nat.le_trans (H1).size hg_
     replace B1 := B1.ext E2
     refine wcl (sCheckShifts_any need need.length g1 cap1 cs1 S1 len starts starts.length g2 cap2 cs2 S2 (by omega) (by omega) _ B1 B2) ?_
     intro w3 E3
     refine wv (.tuple #[.bool (ck0 need len starts), .int .i64 (shC need len starts)]) ?_
     refine wv (.bool (ck0 need len starts)) ?_
     refine wv (.int .i64 (shC need len starts)) ?_
     refine wv (.bool (ck0 need len starts)) ?_
     refine wv (.int .i64 (shC need len starts)) ?_
     refine wpList_nil (then_normal ?_)
     refine wsr ?_
     refine wv v ?_
     have H2 := (H1.trans E2).trans E3
     replace B1 := B1.ext E3
     replace B2 := B2.ext E3
     refine wcli (toInt64S_any need v (by omega) _ (SlIn.ext hin H2)) ?_
     intro g3 cap3 cs3 w4 B3 S3 E4 hg_
     have lo_g3 := Nat.le_trans (H2).size hg_
     refine wv (.slice (some ⟨g3, 0, none⟩) need.length cap3) ?_
     refine wpList_nil (then_normal ?_)
     refine wsr ?_
     refine wv v2 ?_
     have H3 := H2.trans E4
     replace B1 := B1.ext E4
     replace B2 := B2.ext E4
     refine wcli (toInt64S_any starts v2 (by omega) _ (SlIn.ext hin2 H3)) ?_
     intro g4 cap4 cs4 w5 B4 S4 E5 hg_
     have lo_g4 := Nat.le_trans (H3).size hg_
     refine wv (.slice (some ⟨g4, 0, none⟩) starts.length cap4) ?_
     refine wpList_nil (then_normal ?_)
     refine wsr ?_
     refine wv (.slice (some ⟨g3, 0, none⟩) need.length cap3) ?_
     refine wv (.int .i64 len) ?_
     refine wv (.slice (some ⟨g4, 0, none⟩) starts.length cap4) ?_
     replace B3 := B3.ext E5
     refine wcl (iCheckShifts_any need need.length g3 cap3 cs3 S3 len starts starts.length g4 cap4 cs4 S4 (by omega) (by omega) _ B3 B4) ?_
     intro w6 E6
     refine wv (.tuple #[.bool (ck0 need len starts), .int .i64 (shC need len starts)]) ?_
     refine wv (.bool (ck0 need len starts)) ?_
     refine wv (.int .i64 (shC need len starts)) ?_
     refine wv (.bool (ck0 need len starts)) ?_
     refine wv (.int .i64 (shC need len starts)) ?_
     refine wpList_nil (then_normal ?_)
     refine wp_frame (a' := ⟨#[v, .int .i64 len, v2, undef, undef, undef, .bool false, .bool (ck0 need len starts), .int .i64 (shC need len starts), .slice (some ⟨g3, 0, none⟩) need.length cap3, .slice (some ⟨g4, 0, none⟩) starts.length cap4, .bool (ck0 need len starts), .int .i64 (shC need len starts), v, .int .i64 (need.length : Int), .bool (decide (1048576 < (need.length : Int))), v2, .int .i64 (starts.length : Int), .bool (decide (1048576 < (starts.length : Int))), .tuple #[.bool (ck0 need len starts), .int .i64 (shC need len starts)], v, .slice (some ⟨g1, 0, none⟩) need.length cap1, .int .i64 len, v2, .slice (some ⟨g2, 0, none⟩) starts.length cap2, .tuple #[.bool (ck0 need len starts), .int .i64 (shC need len starts)], .bool (ck0 need len starts), .int .i64 (shC need len starts), v, .slice (some ⟨g3, 0, none⟩) need.length cap3, v2, .slice (some ⟨g4, 0, none⟩) starts.length cap4, .tuple #[.bool (ck0 need len starts), .int .i64 (shC need len starts)], .slice (some ⟨g3, 0, none⟩) need.length cap3, .int .i64 len, .slice (some ⟨g4, 0, none⟩) starts.length cap4, .tuple #[.bool (ck0 need len starts), .int .i64 (shC need len starts)], .bool (ck0 need len starts), .int .i64 (shC need len starts), undef, undef, undef, undef, undef, undef, undef, undef, undef, undef, undef, undef, undef, undef, undef, undef, undef, undef], []⟩) (by kernel_rfl) ?_
     refine wp_seq ?_
     refine wsr ?_
     refine wv (.bool (ck0 need len starts)) ?_
     refine wv (.bool (ck0 need len starts)) ?_
     refine wvv (.bool ((ck0 need len starts) != (ck0 need len starts))) (.bool false) (by simp) ?_
     refine wv (.bool false) ?_
     refine wv (.int .i64 (shC need len starts)) ?_
     refine wv (.int .i64 (shC need len starts)) ?_
     refine wvv (.bool ((shC need len starts) != (shC need len starts))) (.bool false) (by simp) ?_
     refine wv (.bool false) ?_
     refine wpList_nil (then_normal ?_)
     refine wcf ?_
     refine wp_skip ?_
     refine then_normal ?_
     refine wp_seq ?_
     refine wsr ?_
     refine wv (.slice (some ⟨g3, 0, none⟩) need.length cap3) ?_
     refine wv v ?_
     have H4 := (H3.trans E5).trans E6
     replace B1 := (B1.ext E5).ext E6
     replace B2 := (B2.ext E5).ext E6
     replace B3 := B3.ext E6
     replace B4 := B4.ext E6
     refine wcli (toInt64S_any need v (by omega) _ (SlIn.ext hin H4)) ?_
     intro g5 cap5 cs5 w7 B5 S5 E7 hg_
     have lo_g5 := Nat.le_trans (H4).size hg_
     replace B3 := B3.ext E7
     refine wcl (eqInt64S_same need g3 cap3 cs3 S3 g5 cap5 cs5 S5 (by omega) _ B3 B5) ?_
     intro w8 E8
     refine wv (.bool false) ?_
     refine wpList_nil (then_normal ?_)
     refine wcf ?_
     refine wp_skip ?_
     refine then_normal ?_
     refine wp_seq ?_
     refine wsr ?_
     refine wv (.slice (some ⟨g4, 0, none⟩) starts.length cap4) ?_
     refine wv v2 ?_
     have H5 := (H4.trans E7).trans E8
     replace B1 := (B1.ext E7).ext E8
     replace B2 := (B2.ext E7).ext E8
     replace B3 := B3.ext E8
     replace B4 := (B4.ext E7).ext E8
     replace B5 := B5.ext E8
     refine wcli (toInt64S_any starts v2 (by omega) _ (SlIn.ext hin2 H5)) ?_
     intro g6 cap6 cs6 w9 B6 S6 E9 hg_
     have lo_g6 := Nat.le_trans (H5).size hg_
     replace B4 := B4.ext E9
     refine wcl (eqInt64S_same starts g4 cap4 cs4 S4 g6 cap6 cs6 S6 (by omega) _ B4 B6) ?_
     intro w10 E10
     refine wv (.bool false) ?_
     refine wpList_nil (then_normal ?_)
     refine wcf ?_
     refine wp_skip ?_
     refine then_normal ?_
     refine wsr ?_
     refine wv (.bool true) ?_
     refine wpList_nil (then_normal ?_)
     refine wp_ret ?_
     have H6 := (H5.trans E9).trans E10
     refine ret1 (.bool true) rfl ?_ rfl ?_
     · exact resT (by kernel_rfl)
     exact ⟨rfl, H6⟩
end
--# row FnExactCheckShifts
set_option maxRecDepth 100000 in
theorem fnExactCheckShifts_lifted (os : Os) (started : os.Started) (H : Type) (enc : TypeId × Value → H) :
    ReturnsInHanded {} Try.checked os 4 .any (Rows.fnExactCheckShiftsSpec.pre6 enc Try.prog Try.f4 Rows.fnExactCheckShiftsRow.domain false) (Rows.fnExactCheckShiftsSpec.post enc Try.prog Try.f4 false true false false) := by
  refine returnsInHanded_of_change (C := Try.checked) ownKnob_none started (by kernel_rfl) Try.func4
    (ChangeSpec.witness6 (enc := enc) (C := Try.checked) false ⟨#[], #[.slice none 0 0, .int .i64 0, .slice none 0 0], []⟩ 8 (by kernel_rfl) (by kernel_rfl) (by kernel_rfl) (by kernel_rfl)) ?_
  intro W base args ds gs before hval0 hW hcnd _
  have hval : ∀ (j : Nat) t v, Try.f4.params[j]? = some t → args[j]? = some v → Value.okWide Try.prog W .any base t v := hval0
  have hW' := hW
  obtain ⟨p, q, hA0, hV, rfl, hfz, hnd⟩ := hW
  have hA : DataW.TrodAll enc Try.prog W 0 (fun _ => true) true Try.f4.params.toList args.toList ds p := hA0
  rw [Try.params4] at hA hval
  obtain ⟨v0, vs0, d0, ds0, p0, q0, hargs, rfl, rfl, h0, r0⟩ := trodAll_cons hA
  obtain ⟨v1, vs1, d1, ds1, p1, q1, rfl, rfl, rfl, h1, r1⟩ := trodAll_cons r0
  obtain ⟨v2, vs2, d2, ds2, p2, q2, rfl, rfl, rfl, h2, r2⟩ := trodAll_cons r1
  obtain ⟨rfl, rfl, rfl⟩ := trodAll_nil r2
  obtain rfl : args = #[v0, v1, v2] := by cases args; simp_all
  obtain ⟨rfl, rfl⟩ := trodVars_none hV
  have k0 := h0
  have lt0 : ∀ x ∈ p0, x.block < W.heap.size := by obtain ⟨m, hm⟩ := k0; exact DataW.trod_lt m _ _ _ hm
  obtain ⟨need, hin0, hwl0⟩ := open_slin (k := .i64) Try.underlying22 Try.underlying2 (by kernel_rfl) (hval 0 22 v0 rfl rfl) h0
  have k1 := h1
  have lt1 : ∀ x ∈ p1, x.block < W.heap.size := by obtain ⟨m, hm⟩ := k1; exact DataW.trod_lt m _ _ _ hm
  obtain ⟨len, rfl, rfl, rfl, wlen⟩ := open_int Try.underlying2 (hval 1 2 v1 rfl rfl) h1
  have hblen := bounds_i64 wlen
  have k2 := h2
  have lt2 : ∀ x ∈ p2, x.block < W.heap.size := by obtain ⟨m, hm⟩ := k2; exact DataW.trod_lt m _ _ _ hm
  obtain ⟨starts, hin2, hwl2⟩ := open_slin (k := .i64) Try.underlying22 Try.underlying2 (by kernel_rfl) (hval 2 22 v2 rfl rfl) h2
  clear hA0 hval0
  refine (FnExactCheckShifts_walk need v0 len starts v2 W hin0 hin2).mono fun e W' ⟨he, hx⟩ => ?_
  have bel := hx.below
  subst he
  exact ⟨_, rfl, _, _, _, [], _, [], hW', trodAll_mk1 (shut_bool Try.underlying4 _), (trodAll_cons_mk (Below.trod laidOut_ (by kernel_rfl) (of_decide_eq_true (by kernel_rfl)) k0 bel lt0) (trodAll_cons_mk (Below.trod laidOut_ (by kernel_rfl) (of_decide_eq_true (by kernel_rfl)) k1 bel lt1) (trodAll_cons_mk (Below.trod laidOut_ (by kernel_rfl) (of_decide_eq_true (by kernel_rfl)) k2 bel lt2) trodAll_mk0))), rfl, bel.frame _, fun h => by cases h⟩
theorem fnExactCheckShifts_holds : Rows.FnExactCheckShiftsSaid :=
  OpenClaim.holds_of_wide 4 Try.f4 rfl rfl rfl rfl rfl rfl rfl ⟨rfl, rfl, rfl, rfl, rfl⟩ rfl rfl rfl rfl rfl (by kernel_rfl) Try.func4 (by kernel_rfl)
    (of_decide_eq_true (by kernel_rfl)) (by unfold Func.isWrapper; first | (rw [if_pos (by decide +kernel)]; kernel_rfl) | (rw [if_neg (by decide +kernel)]; exact ⟨rfl, rfl⟩))
    (fun os started H enc _ => fnExactCheckShifts_lifted os started H enc)
end Go.Proofs.Ytbjcloilcpoafaa
