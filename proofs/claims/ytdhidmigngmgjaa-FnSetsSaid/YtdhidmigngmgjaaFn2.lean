/-
  Contracts: conversions, comparisons, codes. No conditions.
-/
import Derived.Test.YtdhidmigngmgjaaTy
import Derived.Test.YtdhidmigngmgjaaSl
import Derived.Test.YtdhidmigngmgjaaMth
import Derived.Test.YtdhidmigngmgjaaFn1b
namespace Go.Proofs.Ytdhidmigngmgjaa
open Go.RowKit
set_option linter.unusedSimpArgs false
set_option linter.unusedVariables false
set_option maxHeartbeats 4000000
set_option maxRecDepth 100000
attribute [local irreducible] wpList Code.wp
--# fieldCode_any
theorem fieldCode_any (F : Fld) (hF : F.wf) (b : Nat) (t : TypeId) (V : Value) (fn : FuncId) (full : Array Value) (hV : Clo Try.prog V #[] fn full) (B : Bool) (w : World) (hb : Blk w b t F.cells) (hc : ∀ w', Ext w w' → Calls Try.prog fn full w' fun e w'' => e = .returned (.bool B) ∧ Ext w' w'') :
 Calls Try.prog 42 #[.pointer (some ⟨b, 0, none⟩), V] w fun e w' => e = .returned (.int .i64 (code F B)) ∧ Ext w w' := by
 refine calls_of_wp Try.func42 rfl ?_
 refine wp_frame (a' := ⟨#[.pointer (some ⟨b, 0, none⟩), V, undef, undef, undef, undef, undef, undef, undef, undef, undef, undef, undef, undef, undef], []⟩) (by kernel_rfl) ?_
 refine wsr ?_
 refine wv (.int .i64 0) ?_
 refine wpList_nil (then_normal ?_)
 refine wp_seq ?_
 refine wp_block ?_
 refine wsr ?_
 refine wv (.pointer (some ⟨b, 0, none⟩)) ?_
 refine wv (.pointer (some ⟨b, 0, none⟩)) ?_
 refine wrow row_impl_Field hb (by exact Fld.size_cells _) ?_
 refine wcl (iValidField_any F hF _) ?_
 intro w1 E1
 refine wv (.bool (!(okB F))) ?_
 refine wv (.bool (!(okB F))) ?_
 refine wpList_nil (then_normal ?_)
 refine wsplit (!(okB F)) (fun h1 => ?_) (fun h1 => ?_)
 · skip
   replace h1 := nbT h1
   refine wsr ?_
   refine wv (.int .i64 1) ?_
   refine wpList_nil (then_normal ?_)
   refine wp_ret ?_
   refine block_ret (then_ret ?_)
   have H1 := (Ext.refl w).trans E1
   refine ret1 (.int .i64 (code F B)) rfl ?_ rfl ?_
   · refine (resT (v := .int .i64 1) (by kernel_rfl)).trans ?_
     refine congrArg (Value.int _) ?_
     first | exact (code_1 (by assumption)).symm | exact (code_2 (by assumption) (by assumption)).symm | exact (code_0 (by assumption) (by assumption)).symm
   exact ⟨rfl, H1⟩
 · skip
   replace h1 := nbF h1
   refine wsr ?_
   refine wv V ?_
   have H2 := (Ext.refl w).trans E1
   refine wcl (he := (Eq.trans (b := (callV V #[]).run Try.prog _) (by kernel_rfl) (hV _))) (hc _ H2) ?_
   intro w2 E2
   refine wv (.bool (!B)) ?_
   refine wv (.bool (!B)) ?_
   refine wpList_nil (then_normal ?_)
   refine wsplit (!B) (fun h2 => ?_) (fun h2 => ?_)
   · skip
     replace h2 := nbT h2
     refine wsr ?_
     refine wv (.int .i64 2) ?_
     refine wpList_nil (then_normal ?_)
     refine wp_ret ?_
     refine block_ret (then_ret ?_)
     have H3 := H2.trans E2
     refine ret1 (.int .i64 (code F B)) rfl ?_ rfl ?_
     · refine (resT (v := .int .i64 2) (by kernel_rfl)).trans ?_
       refine congrArg (Value.int _) ?_
       first | exact (code_1 (by assumption)).symm | exact (code_2 (by assumption) (by assumption)).symm | exact (code_0 (by assumption) (by assumption)).symm
     exact ⟨rfl, H3⟩
   · skip
     replace h2 := nbF h2
     refine wp_skip ?_
     refine block_normal (then_normal ?_)
     refine wsr ?_
     refine wv (.int .i64 0) ?_
     refine wpList_nil (then_normal ?_)
     refine wp_ret ?_
     have H4 := H2.trans E2
     refine ret1 (.int .i64 (code F B)) rfl ?_ rfl ?_
     · refine (resT (v := .int .i64 0) (by kernel_rfl)).trans ?_
       refine congrArg (Value.int _) ?_
       first | exact (code_1 (by assumption)).symm | exact (code_2 (by assumption) (by assumption)).symm | exact (code_0 (by assumption) (by assumption)).symm
     exact ⟨rfl, H4⟩


--# NearestIn1_any
theorem NearestIn1_any (F : Fld) (hF : F.wf) (b0 : Nat) (t0 : TypeId) (c : Int) (b1 : Nat) (t1 : TypeId) (w : World) (hb0 : Blk w b0 t0 F.cells) (hb1 : Blk w b1 t1 #[.int .i64 c]) :
 Calls Try.prog 43 #[.pointer (some ⟨b0, 0, none⟩), .pointer (some ⟨b1, 0, none⟩)] w fun e w' => e = .returned (.bool (isB F c)) ∧ Ext w w' := by
 have w1_ := hF.w1
 have w2_ := hF.w2
 have h1_ := hF.h1
 have h2_ := hF.h2
 refine calls_of_wp Try.func43 rfl ?_
 refine wp_frame (a' := ⟨#[.pointer (some ⟨b0, 0, none⟩), .pointer (some ⟨b1, 0, none⟩), undef, undef, undef], []⟩) (by kernel_rfl) ?_
 refine wsr ?_
 refine wv (.bool false) ?_
 refine wpList_nil (then_normal ?_)
 refine wsr ?_
 refine wld (v := .int .i64 c) b1 (0) scal_int64 (hb1.get (rfl)) ?_
 refine wcl (has_any F hF b0 _ c _ hb0) ?_
 intro w1 E1
 refine wv (.bool (isB F c)) ?_
 refine wpList_nil (then_normal ?_)
 refine wp_ret ?_
 have H1 := (Ext.refl w).trans E1
 refine ret1 (.bool (isB F c)) rfl ?_ rfl ?_
 · exact resT (by kernel_rfl)
 exact ⟨rfl, H1⟩


--# NeighboursOf1_any
theorem NeighboursOf1_any (F : Fld) (hF : F.wf) (b0 : Nat) (t0 : TypeId) (c : Int) (b1 : Nat) (t1 : TypeId) (w : World) (hb0 : Blk w b0 t0 F.cells) (hb1 : Blk w b1 t1 #[.int .i64 c]) :
 Calls Try.prog 60 #[.pointer (some ⟨b0, 0, none⟩), .pointer (some ⟨b1, 0, none⟩)] w fun e w' => e = .returned (.bool (isB F c)) ∧ Ext w w' := by
 have w1_ := hF.w1
 have w2_ := hF.w2
 have h1_ := hF.h1
 have h2_ := hF.h2
 refine calls_of_wp Try.func60 rfl ?_
 refine wp_frame (a' := ⟨#[.pointer (some ⟨b0, 0, none⟩), .pointer (some ⟨b1, 0, none⟩), undef, undef, undef], []⟩) (by kernel_rfl) ?_
 refine wsr ?_
 refine wv (.bool false) ?_
 refine wpList_nil (then_normal ?_)
 refine wsr ?_
 refine wld (v := .int .i64 c) b1 (0) scal_int64 (hb1.get (rfl)) ?_
 refine wcl (has_any F hF b0 _ c _ hb0) ?_
 intro w1 E1
 refine wv (.bool (isB F c)) ?_
 refine wpList_nil (then_normal ?_)
 refine wp_ret ?_
 have H1 := (Ext.refl w).trans E1
 refine ret1 (.bool (isB F c)) rfl ?_ rfl ?_
 · exact resT (by kernel_rfl)
 exact ⟨rfl, H1⟩


--# SquareOf1_any
theorem SquareOf1_any (F : Fld) (hF : F.wf) (b0 : Nat) (t0 : TypeId) (a : Int) (b1 : Nat) (t1 : TypeId) (b : Int) (b2 : Nat) (t2 : TypeId) (w : World) (hb0 : Blk w b0 t0 F.cells) (hb1 : Blk w b1 t1 #[.int .i64 a]) (hb2 : Blk w b2 t2 #[.int .i64 b]) :
 Calls Try.prog 66 #[.pointer (some ⟨b0, 0, none⟩), .pointer (some ⟨b1, 0, none⟩), .pointer (some ⟨b2, 0, none⟩)] w fun e w' => e = .returned (.bool (isB F a && isB F b)) ∧ Ext w w' := by
 have w1_ := hF.w1
 have w2_ := hF.w2
 have h1_ := hF.h1
 have h2_ := hF.h2
 refine calls_of_wp Try.func66 rfl ?_
 refine wp_frame (a' := ⟨#[.pointer (some ⟨b0, 0, none⟩), .pointer (some ⟨b1, 0, none⟩), .pointer (some ⟨b2, 0, none⟩), undef, undef, undef, undef, undef, undef, undef], []⟩) (by kernel_rfl) ?_
 refine wsr ?_
 refine wv (.bool false) ?_
 refine wpList_nil (then_normal ?_)
 refine wsr ?_
 refine wld (v := .int .i64 a) b1 (0) scal_int64 (hb1.get (rfl)) ?_
 refine wcl (has_any F hF b0 _ a _ hb0) ?_
 intro w1 E1
 refine wv (.bool (isB F a)) ?_
 refine split_bool (isB F a) (fun h1 => ?_) (fun h1 => ?_)
 · skip
   refine wbl 6 true h1 ?_
   have h1d := isB_true.1 h1
   replace hb2 := hb2.ext E1
   refine wld (v := .int .i64 b) b2 (0) scal_int64 (hb2.get (rfl)) ?_
   replace hb0 := hb0.ext E1
   refine wcl (has_any F hF b0 _ b _ hb0) ?_
   intro w2 E2
   refine wv (.bool (isB F b)) ?_
   refine wv (.bool (isB F b)) ?_
   refine wpList_nil (then_normal ?_)
   refine wp_ret ?_
   have H1 := ((Ext.refl w).trans E1).trans E2
   refine ret1 (.bool (isB F a && isB F b)) rfl ?_ rfl ?_
   · refine (resT (v := .bool (isB F b)) (by kernel_rfl)).trans ?_
     refine congrArg Value.bool ?_
     first | (simp [*]; done) | (simp [inB, *]; done) | (simp [inB, *]; omega)
   exact ⟨rfl, H1⟩
 · skip
   refine wbl 6 false h1 ?_
   refine wsk ?_
   refine wsk ?_
   refine wv (.bool false) ?_
   refine wv (.bool false) ?_
   refine wpList_nil (then_normal ?_)
   refine wp_ret ?_
   have H2 := (Ext.refl w).trans E1
   refine ret1 (.bool (isB F a && isB F b)) rfl ?_ rfl ?_
   · refine (resT (v := .bool false) (by kernel_rfl)).trans ?_
     refine congrArg Value.bool ?_
     first | (simp [*]; done) | (simp [inB, *]; done) | (simp [inB, *]; omega)
   exact ⟨rfl, H2⟩


--# CellsOfKind1_any
theorem CellsOfKind1_any (k : Int) (b0 : Nat) (t0 : TypeId) (w : World) (hb0 : Blk w b0 t0 #[.int .i64 k]) :
 Calls Try.prog 62 #[.pointer (some ⟨b0, 0, none⟩)] w fun e w' => e = .returned (.bool (inB k 0 3)) ∧ Ext w w' := by
 refine calls_of_wp Try.func62 rfl ?_
 refine wp_frame (a' := ⟨#[.pointer (some ⟨b0, 0, none⟩), undef, undef, undef], []⟩) (by kernel_rfl) ?_
 refine wsr ?_
 refine wv (.bool false) ?_
 refine wpList_nil (then_normal ?_)
 refine wsr ?_
 refine wld (v := .int .i64 k) b0 (0) scal_int64 (hb0.get (rfl)) ?_
 refine wcl (isKind_any k _) ?_
 intro w1 E1
 refine wv (.bool (inB k 0 3)) ?_
 refine wpList_nil (then_normal ?_)
 refine wp_ret ?_
 have H1 := (Ext.refl w).trans E1
 refine ret1 (.bool (inB k 0 3)) rfl ?_ rfl ?_
 · exact resT (by kernel_rfl)
 exact ⟨rfl, H1⟩


--# RingOf1_any
theorem RingOf1_any (F : Fld) (hF : F.wf) (b0 : Nat) (t0 : TypeId) (c : Int) (b1 : Nat) (t1 : TypeId) (q : Int) (b2 : Nat) (t2 : TypeId) (w : World) (hb0 : Blk w b0 t0 F.cells) (hb1 : Blk w b1 t1 #[.int .i64 c]) (hb2 : Blk w b2 t2 #[.int .i64 q]) :
 Calls Try.prog 56 #[.pointer (some ⟨b0, 0, none⟩), .pointer (some ⟨b1, 0, none⟩), .pointer (some ⟨b2, 0, none⟩)] w fun e w' => e = .returned (.bool (isB F c && inB q 0 200)) ∧ Ext w w' := by
 have w1_ := hF.w1
 have w2_ := hF.w2
 have h1_ := hF.h1
 have h2_ := hF.h2
 refine calls_of_wp Try.func56 rfl ?_
 refine wp_frame (a' := ⟨#[.pointer (some ⟨b0, 0, none⟩), .pointer (some ⟨b1, 0, none⟩), .pointer (some ⟨b2, 0, none⟩), undef, undef, undef, undef, undef, undef, undef], []⟩) (by kernel_rfl) ?_
 refine wsr ?_
 refine wv (.bool false) ?_
 refine wpList_nil (then_normal ?_)
 refine wsr ?_
 refine wld (v := .int .i64 c) b1 (0) scal_int64 (hb1.get (rfl)) ?_
 refine wcl (has_any F hF b0 _ c _ hb0) ?_
 intro w1 E1
 refine wv (.bool (isB F c)) ?_
 refine split_bool (isB F c) (fun h1 => ?_) (fun h1 => ?_)
 · skip
   refine wbl 6 true h1 ?_
   have h1d := isB_true.1 h1
   replace hb2 := hb2.ext E1
   refine wld (v := .int .i64 q) b2 (0) scal_int64 (hb2.get (rfl)) ?_
   refine wcl (within_any q 0 200 _) ?_
   intro w2 E2
   refine wv (.bool (inB q 0 200)) ?_
   refine wv (.bool (inB q 0 200)) ?_
   refine wpList_nil (then_normal ?_)
   refine wp_ret ?_
   have H1 := ((Ext.refl w).trans E1).trans E2
   refine ret1 (.bool (isB F c && inB q 0 200)) rfl ?_ rfl ?_
   · refine (resT (v := .bool (inB q 0 200)) (by kernel_rfl)).trans ?_
     refine congrArg Value.bool ?_
     first | (simp [*]; done) | (simp [inB, *]; done) | (simp [inB, *]; omega)
   exact ⟨rfl, H1⟩
 · skip
   refine wbl 6 false h1 ?_
   refine wsk ?_
   refine wsk ?_
   refine wv (.bool false) ?_
   refine wv (.bool false) ?_
   refine wpList_nil (then_normal ?_)
   refine wp_ret ?_
   have H2 := (Ext.refl w).trans E1
   refine ret1 (.bool (isB F c && inB q 0 200)) rfl ?_ rfl ?_
   · refine (resT (v := .bool false) (by kernel_rfl)).trans ?_
     refine congrArg Value.bool ?_
     first | (simp [*]; done) | (simp [inB, *]; done) | (simp [inB, *]; omega)
   exact ⟨rfl, H2⟩


