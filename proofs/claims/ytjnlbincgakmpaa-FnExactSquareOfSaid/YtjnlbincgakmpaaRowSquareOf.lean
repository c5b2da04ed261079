/-
  For all arguments, the law FnExactSquareOf returns true; its arguments read as they did. No conditions.
-/
import Derived.Test.YtjnlbincgakmpaaRows
import Derived.Test.YtjnlbincgakmpaaFn3
import Derived.Test.YtjnlbincgakmpaaRowk
import Derived.WalkKit
import Derived.ProofKit
import Derived.OpenShut
import Derived.ShutString
import Derived.ChangeOld
import Derived.Below
import Derived.SizedLaws
namespace Go.Proofs.Ytjnlbincgakmpaa
open Go.ChangeShapes Go.WideShapes Go.ChangeAt Go.RowKit
open Go.ChangeMaps (open_string shut_string)
set_option linter.unusedVariables false
theorem ownKnob_none : ownKnob Try.prog.godebug = none := by kernel_rfl
theorem laidOut_ : laidOutB Try.prog = true := by kernel_rfl
section
set_option maxHeartbeats 4000000
attribute [local irreducible] wpList Code.wp
--# walk FnExactSquareOf
theorem FnExactSquareOf_walk (F : Fld) (hF : F.wf) (a : Int) (b : Int) (w : World) :
 Calls Try.prog 10 #[.agg F.cells, .int .i64 a, .int .i64 b] w fun e w' => e = .returned (.bool true) ∧ Ext w w' := by
  refine calls_of_wp Try.func10 rfl ?_
  refine wp_frame (a' := ⟨#[.agg F.cells, .int .i64 a, .int .i64 b, undef, undef, undef, undef, undef, undef, undef, undef, undef, undef, undef, undef, undef, undef, undef, undef, undef, undef, undef, undef, undef, undef, undef, undef, undef, undef, undef, undef, undef, undef, undef, undef], []⟩) (by kernel_rfl) ?_
  refine wp_seq ?_
  refine wp_region_lit ?_
  refine wpl_box (v := .agg F.cells) F.cells rfl (by kernel_rfl) rfl (by kernel_rfl) rfl ?_
  intro g1 w1 B1 E1 hg_
  have lo_g1 : w.heap.size ≤ g1 := Nat.le_trans ((Ext.refl w)).size hg_
  clear hg_
  have H1 := ((Ext.refl w)).trans E1
  clear E1
  refine wpl_val (.bool false) (.bool false) rfl (by kernel_rfl) (by kernel_rfl) rfl ?_
  refine wpList_nil ?_
  refine then_normal ?_
  refine wp_frame (a' := ⟨#[.agg F.cells, .int .i64 a, .int .i64 b, .pointer (some ⟨g1, 0, none⟩), undef, undef, .bool false, undef, undef, undef, undef, undef, undef, undef, undef, undef, undef, undef, undef, undef, undef, undef, undef, undef, undef, undef, undef, undef, undef, undef, undef, undef, undef, undef, undef], []⟩) (by kernel_rfl) ?_
  refine wp_seq ?_
  refine wp_region_lit ?_
  refine wpl_row F.cells rfl (by kernel_rfl) row_laws_Field B1 (by exact Fld.size_cells _) rfl (by kernel_rfl) ?_
  refine wpl_call (24) #[.agg F.cells] rfl (by kernel_rfl) (by kernel_rfl) (toField_any F hF _) ?_
  intro w2 E2
  replace B1 := B1.ext E2
  have H2 := (H1).trans E2
  clear E2
  refine wpl_val (.int .i64 a) (.int .i64 a) rfl (by kernel_rfl) (by kernel_rfl) rfl ?_
  refine wpl_val (.int .i64 b) (.int .i64 b) rfl (by kernel_rfl) (by kernel_rfl) rfl ?_
  refine wpl_call (35) #[.agg F.cells, .int .i64 a, .int .i64 b] rfl (by kernel_rfl) (by kernel_rfl) (sSquareOf_any F hF a b _) ?_
  intro w3 E3
  replace B1 := B1.ext E3
  have H3 := (H2).trans E3
  clear E3
  refine wpl_val (.tuple #[.int .i64 (if code F (isB F a && isB F b) = 0 then sqr a b else 0), .int .i64 (code F (isB F a && isB F b))]) (.tuple #[.int .i64 (if code F (isB F a && isB F b) = 0 then sqr a b else 0), .int .i64 (code F (isB F a && isB F b))]) rfl (by kernel_rfl) (by kernel_rfl) rfl ?_
  refine wpl_val (.int .i64 (if code F (isB F a && isB F b) = 0 then sqr a b else 0)) (.int .i64 (if code F (isB F a && isB F b) = 0 then sqr a b else 0)) rfl (by kernel_rfl) (by kernel_rfl) rfl ?_
  refine wpl_val (.int .i64 (code F (isB F a && isB F b))) (.int .i64 (code F (isB F a && isB F b))) rfl (by kernel_rfl) (by kernel_rfl) rfl ?_
  refine wpl_val (.int .i64 (if code F (isB F a && isB F b) = 0 then sqr a b else 0)) (.int .i64 (if code F (isB F a && isB F b) = 0 then sqr a b else 0)) rfl (by kernel_rfl) (by kernel_rfl) rfl ?_
  refine wpl_val (.int .i64 (code F (isB F a && isB F b))) (.int .i64 (code F (isB F a && isB F b))) rfl (by kernel_rfl) (by kernel_rfl) rfl ?_
  refine wpList_nil ?_
  refine then_normal ?_
  refine wp_frame (a' := ⟨#[.agg F.cells, .int .i64 a, .int .i64 b, .pointer (some ⟨g1, 0, none⟩), undef, undef, .bool false, .int .i64 (if code F (isB F a && isB F b) = 0 then sqr a b else 0), .int .i64 (code F (isB F a && isB F b)), undef, undef, .tuple #[.int .i64 (if code F (isB F a && isB F b) = 0 then sqr a b else 0), .int .i64 (code F (isB F a && isB F b))], .agg F.cells, .agg F.cells, .int .i64 a, .int .i64 b, .tuple #[.int .i64 (if code F (isB F a && isB F b) = 0 then sqr a b else 0), .int .i64 (code F (isB F a && isB F b))], .int .i64 (if code F (isB F a && isB F b) = 0 then sqr a b else 0), .int .i64 (code F (isB F a && isB F b)), undef, undef, undef, undef, undef, undef, undef, undef, undef, undef, undef, undef, undef, undef, undef, undef], []⟩) (by kernel_rfl) ?_
  refine wp_seq ?_
  refine wp_region_lit ?_
  refine wpl_row F.cells rfl (by kernel_rfl) row_laws_Field B1 (by exact Fld.size_cells _) rfl (by kernel_rfl) ?_
  refine wpl_call (24) #[.agg F.cells] rfl (by kernel_rfl) (by kernel_rfl) (toField_any F hF _) ?_
  intro w4 E4
  replace B1 := B1.ext E4
  have H4 := (H3).trans E4
  clear E4
  refine wpl_val (.int .i64 a) (.int .i64 a) rfl (by kernel_rfl) (by kernel_rfl) rfl ?_
  refine wpl_val (.int .i64 b) (.int .i64 b) rfl (by kernel_rfl) (by kernel_rfl) rfl ?_
  refine wpl_call (36) #[.agg F.cells, .int .i64 a, .int .i64 b] rfl (by kernel_rfl) (by kernel_rfl) (iSquareOf_any F hF a b _) ?_
  intro w5 E5
  replace B1 := B1.ext E5
  have H5 := (H4).trans E5
  clear E5
  refine wpl_val (.tuple #[.int .i64 (if code F (isB F a && isB F b) = 0 then sqr a b else 0), .int .i64 (code F (isB F a && isB F b))]) (.tuple #[.int .i64 (if code F (isB F a && isB F b) = 0 then sqr a b else 0), .int .i64 (code F (isB F a && isB F b))]) rfl (by kernel_rfl) (by kernel_rfl) rfl ?_
  refine wpl_val (.int .i64 (if code F (isB F a && isB F b) = 0 then sqr a b else 0)) (.int .i64 (if code F (isB F a && isB F b) = 0 then sqr a b else 0)) rfl (by kernel_rfl) (by kernel_rfl) rfl ?_
  refine wpl_val (.int .i64 (code F (isB F a && isB F b))) (.int .i64 (code F (isB F a && isB F b))) rfl (by kernel_rfl) (by kernel_rfl) rfl ?_
  refine wpl_val (.int .i64 (if code F (isB F a && isB F b) = 0 then sqr a b else 0)) (.int .i64 (if code F (isB F a && isB F b) = 0 then sqr a b else 0)) rfl (by kernel_rfl) (by kernel_rfl) rfl ?_
  refine wpl_val (.int .i64 (code F (isB F a && isB F b))) (.int .i64 (code F (isB F a && isB F b))) rfl (by kernel_rfl) (by kernel_rfl) rfl ?_
  refine wpList_nil ?_
  refine then_normal ?_
  refine wp_frame (a' := ⟨#[.agg F.cells, .int .i64 a, .int .i64 b, .pointer (some ⟨g1, 0, none⟩), undef, undef, .bool false, .int .i64 (if code F (isB F a && isB F b) = 0 then sqr a b else 0), .int .i64 (code F (isB F a && isB F b)), .int .i64 (if code F (isB F a && isB F b) = 0 then sqr a b else 0), .int .i64 (code F (isB F a && isB F b)), .tuple #[.int .i64 (if code F (isB F a && isB F b) = 0 then sqr a b else 0), .int .i64 (code F (isB F a && isB F b))], .agg F.cells, .agg F.cells, .int .i64 a, .int .i64 b, .tuple #[.int .i64 (if code F (isB F a && isB F b) = 0 then sqr a b else 0), .int .i64 (code F (isB F a && isB F b))], .int .i64 (if code F (isB F a && isB F b) = 0 then sqr a b else 0), .int .i64 (code F (isB F a && isB F b)), .tuple #[.int .i64 (if code F (isB F a && isB F b) = 0 then sqr a b else 0), .int .i64 (code F (isB F a && isB F b))], .agg F.cells, .agg F.cells, .int .i64 a, .int .i64 b, .tuple #[.int .i64 (if code F (isB F a && isB F b) = 0 then sqr a b else 0), .int .i64 (code F (isB F a && isB F b))], .int .i64 (if code F (isB F a && isB F b) = 0 then sqr a b else 0), .int .i64 (code F (isB F a && isB F b)), undef, undef, undef, undef, undef, undef, undef, undef], []⟩) (by kernel_rfl) ?_
  refine wp_seq ?_
  refine wp_seq ?_
  refine wp_region_lit ?_
  refine wpl_val (.int .i64 (if code F (isB F a && isB F b) = 0 then sqr a b else 0)) (.int .i64 (if code F (isB F a && isB F b) = 0 then sqr a b else 0)) rfl (by kernel_rfl) (by kernel_rfl) rfl ?_
  refine wpl_val (.int .i64 (if code F (isB F a && isB F b) = 0 then sqr a b else 0)) (.int .i64 (if code F (isB F a && isB F b) = 0 then sqr a b else 0)) rfl (by kernel_rfl) (by kernel_rfl) rfl ?_
  refine wpl_val (.bool ((if code F (isB F a && isB F b) = 0 then sqr a b else 0) != (if code F (isB F a && isB F b) = 0 then sqr a b else 0))) (.bool false) rfl (by kernel_rfl) (by kernel_rfl) (by simp) ?_
  refine wpl_val (.bool false) (.bool false) rfl (by kernel_rfl) (by kernel_rfl) rfl ?_
  refine wpl_val (.int .i64 (code F (isB F a && isB F b))) (.int .i64 (code F (isB F a && isB F b))) rfl (by kernel_rfl) (by kernel_rfl) rfl ?_
  refine wpl_val (.int .i64 (code F (isB F a && isB F b))) (.int .i64 (code F (isB F a && isB F b))) rfl (by kernel_rfl) (by kernel_rfl) rfl ?_
  refine wpl_val (.bool ((code F (isB F a && isB F b)) != (code F (isB F a && isB F b)))) (.bool false) rfl (by kernel_rfl) (by kernel_rfl) (by simp) ?_
  refine wpl_val (.bool false) (.bool false) rfl (by kernel_rfl) (by kernel_rfl) rfl ?_
  refine wpList_nil ?_
  refine then_normal ?_
  refine wp_frame (a' := ⟨#[.agg F.cells, .int .i64 a, .int .i64 b, .pointer (some ⟨g1, 0, none⟩), undef, undef, .bool false, .int .i64 (if code F (isB F a && isB F b) = 0 then sqr a b else 0), .int .i64 (code F (isB F a && isB F b)), .int .i64 (if code F (isB F a && isB F b) = 0 then sqr a b else 0), .int .i64 (code F (isB F a && isB F b)), .tuple #[.int .i64 (if code F (isB F a && isB F b) = 0 then sqr a b else 0), .int .i64 (code F (isB F a && isB F b))], .agg F.cells, .agg F.cells, .int .i64 a, .int .i64 b, .tuple #[.int .i64 (if code F (isB F a && isB F b) = 0 then sqr a b else 0), .int .i64 (code F (isB F a && isB F b))], .int .i64 (if code F (isB F a && isB F b) = 0 then sqr a b else 0), .int .i64 (code F (isB F a && isB F b)), .tuple #[.int .i64 (if code F (isB F a && isB F b) = 0 then sqr a b else 0), .int .i64 (code F (isB F a && isB F b))], .agg F.cells, .agg F.cells, .int .i64 a, .int .i64 b, .tuple #[.int .i64 (if code F (isB F a && isB F b) = 0 then sqr a b else 0), .int .i64 (code F (isB F a && isB F b))], .int .i64 (if code F (isB F a && isB F b) = 0 then sqr a b else 0), .int .i64 (code F (isB F a && isB F b)), .int .i64 (if code F (isB F a && isB F b) = 0 then sqr a b else 0), .int .i64 (if code F (isB F a && isB F b) = 0 then sqr a b else 0), .bool false, .bool false, .int .i64 (code F (isB F a && isB F b)), .int .i64 (code F (isB F a && isB F b)), .bool false, .bool false], []⟩) (by kernel_rfl) ?_
  refine wp_cond_false rfl ?_
  refine wp_skip ?_
  refine then_normal ?_
  refine wp_frame (a' := ⟨#[.agg F.cells, .int .i64 a, .int .i64 b, .pointer (some ⟨g1, 0, none⟩), undef, undef, .bool false, .int .i64 (if code F (isB F a && isB F b) = 0 then sqr a b else 0), .int .i64 (code F (isB F a && isB F b)), .int .i64 (if code F (isB F a && isB F b) = 0 then sqr a b else 0), .int .i64 (code F (isB F a && isB F b)), .tuple #[.int .i64 (if code F (isB F a && isB F b) = 0 then sqr a b else 0), .int .i64 (code F (isB F a && isB F b))], .agg F.cells, .agg F.cells, .int .i64 a, .int .i64 b, .tuple #[.int .i64 (if code F (isB F a && isB F b) = 0 then sqr a b else 0), .int .i64 (code F (isB F a && isB F b))], .int .i64 (if code F (isB F a && isB F b) = 0 then sqr a b else 0), .int .i64 (code F (isB F a && isB F b)), .tuple #[.int .i64 (if code F (isB F a && isB F b) = 0 then sqr a b else 0), .int .i64 (code F (isB F a && isB F b))], .agg F.cells, .agg F.cells, .int .i64 a, .int .i64 b, .tuple #[.int .i64 (if code F (isB F a && isB F b) = 0 then sqr a b else 0), .int .i64 (code F (isB F a && isB F b))], .int .i64 (if code F (isB F a && isB F b) = 0 then sqr a b else 0), .int .i64 (code F (isB F a && isB F b)), .int .i64 (if code F (isB F a && isB F b) = 0 then sqr a b else 0), .int .i64 (if code F (isB F a && isB F b) = 0 then sqr a b else 0), .bool false, .bool false, .int .i64 (code F (isB F a && isB F b)), .int .i64 (code F (isB F a && isB F b)), .bool false, .bool false], []⟩) (by kernel_rfl) ?_
  refine wp_seq ?_
  refine wp_region_lit ?_
  refine wpl_val (.bool true) (.bool true) rfl (by kernel_rfl) (by kernel_rfl) rfl ?_
  refine wpList_nil ?_
  refine then_normal ?_
  refine wp_frame (a' := ⟨#[.agg F.cells, .int .i64 a, .int .i64 b, .pointer (some ⟨g1, 0, none⟩), undef, undef, .bool true, .int .i64 (if code F (isB F a && isB F b) = 0 then sqr a b else 0), .int .i64 (code F (isB F a && isB F b)), .int .i64 (if code F (isB F a && isB F b) = 0 then sqr a b else 0), .int .i64 (code F (isB F a && isB F b)), .tuple #[.int .i64 (if code F (isB F a && isB F b) = 0 then sqr a b else 0), .int .i64 (code F (isB F a && isB F b))], .agg F.cells, .agg F.cells, .int .i64 a, .int .i64 b, .tuple #[.int .i64 (if code F (isB F a && isB F b) = 0 then sqr a b else 0), .int .i64 (code F (isB F a && isB F b))], .int .i64 (if code F (isB F a && isB F b) = 0 then sqr a b else 0), .int .i64 (code F (isB F a && isB F b)), .tuple #[.int .i64 (if code F (isB F a && isB F b) = 0 then sqr a b else 0), .int .i64 (code F (isB F a && isB F b))], .agg F.cells, .agg F.cells, .int .i64 a, .int .i64 b, .tuple #[.int .i64 (if code F (isB F a && isB F b) = 0 then sqr a b else 0), .int .i64 (code F (isB F a && isB F b))], .int .i64 (if code F (isB F a && isB F b) = 0 then sqr a b else 0), .int .i64 (code F (isB F a && isB F b)), .int .i64 (if code F (isB F a && isB F b) = 0 then sqr a b else 0), .int .i64 (if code F (isB F a && isB F b) = 0 then sqr a b else 0), .bool false, .bool false, .int .i64 (code F (isB F a && isB F b)), .int .i64 (code F (isB F a && isB F b)), .bool false, .bool false], []⟩) (by kernel_rfl) ?_
  refine wp_ret ?_
  refine body_frame (a' := ⟨#[.agg F.cells, .int .i64 a, .int .i64 b, .pointer (some ⟨g1, 0, none⟩), undef, undef, .bool true, .int .i64 (if code F (isB F a && isB F b) = 0 then sqr a b else 0), .int .i64 (code F (isB F a && isB F b)), .int .i64 (if code F (isB F a && isB F b) = 0 then sqr a b else 0), .int .i64 (code F (isB F a && isB F b)), .tuple #[.int .i64 (if code F (isB F a && isB F b) = 0 then sqr a b else 0), .int .i64 (code F (isB F a && isB F b))], .agg F.cells, .agg F.cells, .int .i64 a, .int .i64 b, .tuple #[.int .i64 (if code F (isB F a && isB F b) = 0 then sqr a b else 0), .int .i64 (code F (isB F a && isB F b))], .int .i64 (if code F (isB F a && isB F b) = 0 then sqr a b else 0), .int .i64 (code F (isB F a && isB F b)), .tuple #[.int .i64 (if code F (isB F a && isB F b) = 0 then sqr a b else 0), .int .i64 (code F (isB F a && isB F b))], .agg F.cells, .agg F.cells, .int .i64 a, .int .i64 b, .tuple #[.int .i64 (if code F (isB F a && isB F b) = 0 then sqr a b else 0), .int .i64 (code F (isB F a && isB F b))], .int .i64 (if code F (isB F a && isB F b) = 0 then sqr a b else 0), .int .i64 (code F (isB F a && isB F b)), .int .i64 (if code F (isB F a && isB F b) = 0 then sqr a b else 0), .int .i64 (if code F (isB F a && isB F b) = 0 then sqr a b else 0), .bool false, .bool false, .int .i64 (code F (isB F a && isB F b)), .int .i64 (code F (isB F a && isB F b)), .bool false, .bool false], []⟩) (by kernel_rfl) ?_
  refine ret1 (.bool true) rfl ?_ rfl ?_
  · show (.bool true : Value) = (.bool true)
    rfl
  exact ⟨rfl, H5⟩
end
--# row FnExactSquareOf
set_option maxRecDepth 100000 in
theorem fnExactSquareOf_lifted (os : Os) (started : os.Started) (H : Type) (enc : TypeId × Value → H) :
    ReturnsInHanded {} Try.checked os 10 .any (Rows.fnExactSquareOfSpec.pre6 enc Try.prog Try.f10 Rows.fnExactSquareOfRow.domain false) (Rows.fnExactSquareOfSpec.post enc Try.prog Try.f10 false true false false) := by
  refine returnsInHanded_of_change (C := Try.checked) ownKnob_none started (by kernel_rfl) Try.func10
    (ChangeSpec.witness6 (enc := enc) (C := Try.checked) false ⟨#[], #[.agg Try.zeroCells37, .int .i64 0, .int .i64 0], []⟩ 8 (by kernel_rfl) (by kernel_rfl) (by kernel_rfl) (by kernel_rfl)) ?_
  intro W base args ds gs before hval0 hW hcnd _
  have hval : ∀ (j : Nat) t v, Try.f10.params[j]? = some t → args[j]? = some v → Value.okWide Try.prog W .any base t v := hval0
  have hW' := hW
  obtain ⟨p, q, hA0, hV, rfl, hfz, hnd⟩ := hW
  have hA : DataW.TrodAll enc Try.prog W 0 (fun _ => true) true Try.f10.params.toList args.toList ds p := hA0
  rw [Try.params10] at hA hval
  obtain ⟨v0, vs0, d0, ds0, p0, q0, hargs, rfl, rfl, h0, r0⟩ := trodAll_cons hA
  obtain ⟨v1, vs1, d1, ds1, p1, q1, rfl, rfl, rfl, h1, r1⟩ := trodAll_cons r0
  obtain ⟨v2, vs2, d2, ds2, p2, q2, rfl, rfl, rfl, h2, r2⟩ := trodAll_cons r1
  obtain ⟨rfl, rfl, rfl⟩ := trodAll_nil r2
  obtain rfl : args = #[v0, v1, v2] := by cases args; simp_all
  obtain ⟨rfl, rfl⟩ := trodVars_none hV
  have k0 := h0
  have lt0 : ∀ x ∈ p0, x.block < W.heap.size := by obtain ⟨m, hm⟩ := k0; exact DataW.trod_lt m _ _ _ hm
  obtain ⟨F, rfl, hF⟩ := open_field Try.underlying37 (by kernel_rfl) (by kernel_rfl) Try.underlying32 Try.underlying5 Try.underlying34 (hval 0 37 v0 rfl rfl)
  have k1 := h1
  have lt1 : ∀ x ∈ p1, x.block < W.heap.size := by obtain ⟨m, hm⟩ := k1; exact DataW.trod_lt m _ _ _ hm
  obtain ⟨a, rfl, rfl, rfl, wa⟩ := open_int Try.underlying2 (hval 1 2 v1 rfl rfl) h1
  have hba := bounds_i64 wa
  have k2 := h2
  have lt2 : ∀ x ∈ p2, x.block < W.heap.size := by obtain ⟨m, hm⟩ := k2; exact DataW.trod_lt m _ _ _ hm
  obtain ⟨b, rfl, rfl, rfl, wb⟩ := open_int Try.underlying2 (hval 2 2 v2 rfl rfl) h2
  have hbb := bounds_i64 wb
  clear hA0 hval0
  refine (FnExactSquareOf_walk F hF a b W).mono fun e W' ⟨he, hx⟩ => ?_
  have bel := hx.below
  subst he
  exact ⟨_, rfl, _, _, _, [], _, [], hW', trodAll_mk1 (shut_bool Try.underlying4 _), (trodAll_cons_mk (Below.trod laidOut_ (by kernel_rfl) (of_decide_eq_true (by kernel_rfl)) k0 bel lt0) (trodAll_cons_mk (Below.trod laidOut_ (by kernel_rfl) (of_decide_eq_true (by kernel_rfl)) k1 bel lt1) (trodAll_cons_mk (Below.trod laidOut_ (by kernel_rfl) (of_decide_eq_true (by kernel_rfl)) k2 bel lt2) trodAll_mk0))), rfl, bel.frame _, fun h => by cases h⟩
theorem fnExactSquareOf_holds : Rows.FnExactSquareOfSaid :=
  OpenClaim.holds_of_wide 10 Try.f10 rfl rfl rfl rfl rfl rfl rfl ⟨rfl, rfl, rfl, rfl, rfl⟩ rfl rfl rfl rfl rfl (by kernel_rfl) Try.func10 (by kernel_rfl)
    (of_decide_eq_true (by kernel_rfl)) (by unfold Func.isWrapper; first | (rw [if_pos (by decide +kernel)]; kernel_rfl) | (rw [if_neg (by decide +kernel)]; exact ⟨rfl, rfl⟩))
    (fun os started H enc _ => fnExactSquareOf_lifted os started H enc)
end Go.Proofs.Ytjnlbincgakmpaa
