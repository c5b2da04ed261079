/-
  For all arguments, the law FnExactCheckApart returns true; its arguments read as they did. No conditions.
-/
import Derived.Test.YtbjcloilcpoafaaRows
import Derived.Test.YtbjcloilcpoafaaFn17
import Derived.Test.YtbjcloilcpoafaaRowk
import Derived.WalkKit
import Derived.ProofKit
import Derived.OpenShut
import Derived.ShutString
import Derived.ChangeOld
import Derived.Below
import Derived.SizedLaws
namespace Go.Proofs.Ytbjcloilcpoafaa
open Go.ChangeShapes Go.WideShapes Go.ChangeAt Go.RowKit
open Go.ChangeMaps (open_string shut_string)
set_option linter.unusedVariables false
theorem ownKnob_none : ownKnob Try.prog.godebug = none := by kernel_rfl
theorem laidOut_ : laidOutB Try.prog = true := by kernel_rfl
section
set_option maxHeartbeats 4000000
set_option maxRecDepth 100000
attribute [local irreducible] wpList Code.wp
--# walk FnExactCheckApart
theorem FnExactCheckApart_walk (F : Fld) (hF : F.wf) (m : Int) (l : Int) (xs : List Int) (v : Value) (w : World) (hin : SlIn w v .i64 xs) :
 Calls Try.prog 9 #[.agg F.cells, .int .i64 m, .int .i64 l, v] w fun e w' => e = .returned (.bool true) ∧ Ext w w' := by
 refine calls_of_wp Try.func9 rfl ?_
 refine wp_frame (a' := ⟨#[.agg F.cells, .int .i64 m, .int .i64 l, v, undef, undef, undef, undef, undef, undef, undef, undef, undef, undef, undef, undef, undef, undef, undef, undef, undef, undef, undef, undef, undef, undef, undef, undef, undef, undef, undef, undef, undef, undef, undef, undef, undef, undef, undef, undef, undef, undef, undef, undef, undef, undef, undef, undef, undef, undef, undef], []⟩) (by kernel_rfl) ?_
 refine wsr ?_
 refine wbox F.cells ?_
 intro g1 w1 B1 E1 _
 refine wv (.bool false) ?_
 refine wpList_nil (then_normal ?_)
 refine wp_seq ?_
 refine wsr ?_
 refine wv v ?_
 have H1 := (Ext.refl w).trans E1
 refine wlen (SlIn.ext hin H1) ⟨_, slt__int64.1⟩ ?_
 refine wv (.bool (decide (1048576 < (xs.length : Int)))) ?_
 refine wpList_nil (then_normal ?_)
 refine wsplit (decide (1048576 < (xs.length : Int))) (fun h1 => ?_) (fun h1 => ?_)
 · skip
   have h1d := dT h1
   refine wsr ?_
   refine wv (.bool true) ?_
   refine wpList_nil (then_normal ?_)
   refine wp_ret ?_
   refine then_ret ?_
   refine ret1 (.bool true) rfl ?_ rfl ?_
   · exact resT (by kernel_rfl)
   exact ⟨rfl, H1⟩
 · skip
   have h1d := dF h1
   refine wp_skip ?_
   refine then_normal ?_
   refine wsr ?_
   refine wrow row_laws_Field B1 (by exact Fld.size_cells _) ?_
   refine wcl (toField_any F hF _) ?_
   intro w2 E2
   refine wv (.int .i64 m) ?_
   refine wv (.int .i64 l) ?_
   refine wv v ?_
   have H2 := H1.trans E2
   replace B1 := B1.ext E2
   refine wcli (toInt64S_any xs v (by omega) _ (SlIn.ext hin H2)) ?_
   intro g2 cap1 cs1 w3 B2 S1 E3 hg_
   have lo_g2 := Nat.le_trans (H2).size hg_
   refine wcl (sCheckApart_any F hF m l xs xs.length g2 cap1 cs1 S1 (by omega) _ B2) ?_
   intro w4 E4
   refine wv (.tuple #[.bool (caB F m l xs), .int .i64 (code F (inB m 1 1000 && inB l 1 1000))]) ?_
   refine wv (.bool (caB F m l xs)) ?_
   refine wv (.int .i64 (code F (inB m 1 1000 && inB l 1 1000))) ?_
   refine wv (.bool (caB F m l xs)) ?_
   refine wv (.int .i64 (code F (inB m 1 1000 && inB l 1 1000))) ?_
   refine wpList_nil (then_normal ?_)
   refine wsr ?_
   refine wv v ?_
   have H3 := (H2.trans E3).trans E4
   replace B1 := (B1.ext E3).ext E4
   replace B2 := B2.ext E4
   refine wcli (toInt64S_any xs v (by omega) _ (SlIn.ext hin H3)) ?_
   intro g3 cap2 cs2 w5 B3 S2 E5 hg_
   have lo_g3 := Nat.le_trans (H3).size hg_
   refine wv (.slice (some ⟨g3, 0, none⟩) xs.length cap2) ?_
   refine wpList_nil (then_normal ?_)
   refine wsr ?_
   replace B1 := B1.ext E5
   refine wrow row_laws_Field B1 (by exact Fld.size_cells _) ?_
   refine wcl (toField_any F hF _) ?_
   intro w6 E6
   refine wv (.int .i64 m) ?_
   refine wv (.int .i64 l) ?_
   refine wv (.slice (some ⟨g3, 0, none⟩) xs.length cap2) ?_
   replace B3 := B3.ext E6
   refine wcl (iCheckApart_any F hF m l xs xs.length g3 cap2 cs2 S2 (by omega) _ B3) ?_
   intro w7 E7
   refine wv (.tuple #[.bool (caB F m l xs), .int .i64 (code F (inB m 1 1000 && inB l 1 1000))]) ?_
   refine wv (.bool (caB F m l xs)) ?_
   refine wv (.int .i64 (code F (inB m 1 1000 && inB l 1 1000))) ?_
   refine wv (.bool (caB F m l xs)) ?_
   refine wv (.int .i64 (code F (inB m 1 1000 && inB l 1 1000))) ?_
   refine wpList_nil (then_normal ?_)
   refine wp_frame (a' := ⟨#[.agg F.cells, .int .i64 m, .int .i64 l, v, .pointer (some ⟨g1, 0, none⟩), undef, undef, undef, .bool false, .bool (caB F m l xs), .int .i64 (code F (inB m 1 1000 && inB l 1 1000)), .slice (some ⟨g3, 0, none⟩) xs.length cap2, .bool (caB F m l xs), .int .i64 (code F (inB m 1 1000 && inB l 1 1000)), v, .int .i64 (xs.length : Int), .bool (decide (1048576 < (xs.length : Int))), .tuple #[.bool (caB F m l xs), .int .i64 (code F (inB m 1 1000 && inB l 1 1000))], .agg F.cells, .agg F.cells, .int .i64 m, .int .i64 l, v, .slice (some ⟨g2, 0, none⟩) xs.length cap1, .tuple #[.bool (caB F m l xs), .int .i64 (code F (inB m 1 1000 && inB l 1 1000))], .bool (caB F m l xs), .int .i64 (code F (inB m 1 1000 && inB l 1 1000)), v, .slice (some ⟨g3, 0, none⟩) xs.length cap2, .tuple #[.bool (caB F m l xs), .int .i64 (code F (inB m 1 1000 && inB l 1 1000))], .agg F.cells, .agg F.cells, .int .i64 m, .int .i64 l, .slice (some ⟨g3, 0, none⟩) xs.length cap2, .tuple #[.bool (caB F m l xs), .int .i64 (code F (inB m 1 1000 && inB l 1 1000))], .bool (caB F m l xs), .int .i64 (code F (inB m 1 1000 && inB l 1 1000)), undef, undef, undef, undef, undef, undef, undef, undef, undef, undef, undef, undef, undef], []⟩) (by kernel_rfl) ?_
   refine wp_seq ?_
   refine wsr ?_
   refine wv (.bool (caB F m l xs)) ?_
   refine wv (.bool (caB F m l xs)) ?_
   refine wvv (.bool ((caB F m l xs) != (caB F m l xs))) (.bool false) (by simp) ?_
   refine wv (.bool false) ?_
   refine wv (.int .i64 (code F (inB m 1 1000 && inB l 1 1000))) ?_
   refine wv (.int .i64 (code F (inB m 1 1000 && inB l 1 1000))) ?_
   refine wvv (.bool ((code F (inB m 1 1000 && inB l 1 1000)) != (code F (inB m 1 1000 && inB l 1 1000)))) (.bool false) (by simp) ?_
   refine wv (.bool false) ?_
   refine wpList_nil (then_normal ?_)
   refine wcf ?_
   refine wp_skip ?_
   refine then_normal ?_
   refine wp_seq ?_
   refine wsr ?_
   refine wv (.slice (some ⟨g3, 0, none⟩) xs.length cap2) ?_
   refine wv v ?_
   have H4 := ((H3.trans E5).trans E6).trans E7
   replace B1 := (B1.ext E6).ext E7
   replace B2 := ((B2.ext E5).ext E6).ext E7
   replace B3 := B3.ext E7
   refine wcli (toInt64S_any xs v (by omega) _ (SlIn.ext hin H4)) ?_
   intro g4 cap3 cs3 w8 B4 S3 E8 hg_
   have lo_g4 := Nat.le_trans (H4).size hg_
   replace B3 := B3.ext E8
   refine wcl (eqInt64S_same xs g3 cap2 cs2 S2 g4 cap3 cs3 S3 (by omega) _ B3 B4) ?_
   intro w9 E9
   refine wv (.bool false) ?_
   refine wpList_nil (then_normal ?_)
   refine wcf ?_
   refine wp_skip ?_
   refine then_normal ?_
   refine wsr ?_
   refine wv (.bool true) ?_
   refine wpList_nil (then_normal ?_)
   refine wp_ret ?_
   have H5 := (H4.trans E8).trans E9
   refine ret1 (.bool true) rfl ?_ rfl ?_
   · exact resT (by kernel_rfl)
   exact ⟨rfl, H5⟩
end
--# row FnExactCheckApart
set_option maxRecDepth 100000 in
theorem fnExactCheckApart_lifted (os : Os) (started : os.Started) (H : Type) (enc : TypeId × Value → H) :
    ReturnsInHanded {} Try.checked os 9 .any (Rows.fnExactCheckApartSpec.pre6 enc Try.prog Try.f9 Rows.fnExactCheckApartRow.domain false) (Rows.fnExactCheckApartSpec.post enc Try.prog Try.f9 false true false false) := by
  refine returnsInHanded_of_change (C := Try.checked) ownKnob_none started (by kernel_rfl) Try.func9
    (ChangeSpec.witness6 (enc := enc) (C := Try.checked) false ⟨#[], #[.agg Try.zeroCells44, .int .i64 0, .int .i64 0, .slice none 0 0], []⟩ 8 (by kernel_rfl) (by kernel_rfl) (by kernel_rfl) (by kernel_rfl)) ?_
  intro W base args ds gs before hval0 hW hcnd _
  have hval : ∀ (j : Nat) t v, Try.f9.params[j]? = some t → args[j]? = some v → Value.okWide Try.prog W .any base t v := hval0
  have hW' := hW
  obtain ⟨p, q, hA0, hV, rfl, hfz, hnd⟩ := hW
  have hA : DataW.TrodAll enc Try.prog W 0 (fun _ => true) true Try.f9.params.toList args.toList ds p := hA0
  rw [Try.params9] at hA hval
  obtain ⟨v0, vs0, d0, ds0, p0, q0, hargs, rfl, rfl, h0, r0⟩ := trodAll_cons hA
  obtain ⟨v1, vs1, d1, ds1, p1, q1, rfl, rfl, rfl, h1, r1⟩ := trodAll_cons r0
  obtain ⟨v2, vs2, d2, ds2, p2, q2, rfl, rfl, rfl, h2, r2⟩ := trodAll_cons r1
  obtain ⟨v3, vs3, d3, ds3, p3, q3, rfl, rfl, rfl, h3, r3⟩ := trodAll_cons r2
  obtain ⟨rfl, rfl, rfl⟩ := trodAll_nil r3
  obtain rfl : args = #[v0, v1, v2, v3] := by cases args; simp_all
  obtain ⟨rfl, rfl⟩ := trodVars_none hV
  have k0 := h0
  have lt0 : ∀ x ∈ p0, x.block < W.heap.size := by obtain ⟨m, hm⟩ := k0; exact DataW.trod_lt m _ _ _ hm
  obtain ⟨F, rfl, hF⟩ := open_field Try.underlying44 (by kernel_rfl) (by kernel_rfl) Try.underlying39 Try.underlying5 Try.underlying41 (hval 0 44 v0 rfl rfl)
  have k1 := h1
  have lt1 : ∀ x ∈ p1, x.block < W.heap.size := by obtain ⟨m, hm⟩ := k1; exact DataW.trod_lt m _ _ _ hm
  obtain ⟨m, rfl, rfl, rfl, wm⟩ := open_int Try.underlying2 (hval 1 2 v1 rfl rfl) h1
  have hbm := bounds_i64 wm
  have k2 := h2
  have lt2 : ∀ x ∈ p2, x.block < W.heap.size := by obtain ⟨m, hm⟩ := k2; exact DataW.trod_lt m _ _ _ hm
  obtain ⟨l, rfl, rfl, rfl, wl⟩ := open_int Try.underlying2 (hval 2 2 v2 rfl rfl) h2
  have hbl := bounds_i64 wl
  have k3 := h3
  have lt3 : ∀ x ∈ p3, x.block < W.heap.size := by obtain ⟨m, hm⟩ := k3; exact DataW.trod_lt m _ _ _ hm
  obtain ⟨xs, hin3, hwl3⟩ := open_slin (k := .i64) Try.underlying22 Try.underlying2 (by kernel_rfl) (hval 3 22 v3 rfl rfl) h3
  clear hA0 hval0
  refine (FnExactCheckApart_walk F hF m l xs v3 W hin3).mono fun e W' ⟨he, hx⟩ => ?_
  have bel := hx.below
  subst he
  exact ⟨_, rfl, _, _, _, [], _, [], hW', trodAll_mk1 (shut_bool Try.underlying4 _), (trodAll_cons_mk (Below.trod laidOut_ (by kernel_rfl) (of_decide_eq_true (by kernel_rfl)) k0 bel lt0) (trodAll_cons_mk (Below.trod laidOut_ (by kernel_rfl) (of_decide_eq_true (by kernel_rfl)) k1 bel lt1) (trodAll_cons_mk (Below.trod laidOut_ (by kernel_rfl) (of_decide_eq_true (by kernel_rfl)) k2 bel lt2) (trodAll_cons_mk (Below.trod laidOut_ (by kernel_rfl) (of_decide_eq_true (by kernel_rfl)) k3 bel lt3) trodAll_mk0)))), rfl, bel.frame _, fun h => by cases h⟩
theorem fnExactCheckApart_holds : Rows.FnExactCheckApartSaid :=
  OpenClaim.holds_of_wide 9 Try.f9 rfl rfl rfl rfl rfl rfl rfl ⟨rfl, rfl, rfl, rfl, rfl⟩ rfl rfl rfl rfl rfl (by kernel_rfl) Try.func9 (by kernel_rfl)
    (of_decide_eq_true (by kernel_rfl)) (by unfold Func.isWrapper; first | (rw [if_pos (by decide +kernel)]; kernel_rfl) | (rw [if_neg (by decide +kernel)]; exact ⟨rfl, rfl⟩))
    (fun os started H enc _ => fnExactCheckApart_lifted os started H enc)
end Go.Proofs.Ytbjcloilcpoafaa
