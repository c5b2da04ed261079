/-
 Contracts: conversions, comparisons, codes. No conditions.
-/
import Derived.Test.YtgglcebaanomhaaTy
import Derived.Test.YtgglcebaanomhaaSl
import Derived.Test.YtgglcebaanomhaaMth
import Derived.Test.YtgglcebaanomhaaFn1b
namespace Go.Proofs.Ytgglcebaanomhaa
open Go.RowKit
set_option linter.unusedSimpArgs false
set_option linter.unusedVariables false
set_option maxHeartbeats 4000000
set_option maxRecDepth 100000
attribute [local irreducible] wpList Code.wp
theorem fieldCode_any (F : Fld) (hF : F.wf) (b : Nat) (t : TypeId) (V : Value) (fn : FuncId) (full : Array Value) (hV : Clo Try.prog V #[] fn full) (B : Bool) (w : World) (hb : Blk w b t F.cells) (hc : ∀ w', Ext w w' → Calls Try.prog fn full w' fun e w'' => e = .returned (.bool B) ∧ Ext w' w'') :
 Calls Try.prog 29 #[.pointer (some ⟨b, 0, none⟩), V] w fun e w' => e = .returned (.int .i64 (code F B)) ∧ Ext w w' := by
 refine calls_of_wp Try.func29 rfl ?_
 refine wp_frame (a' := ⟨#[.pointer (some ⟨b, 0, none⟩), V, undef, undef, undef, undef, undef, undef, undef, undef, undef, undef, undef, undef, undef], []⟩) (by kernel_rfl) ?_
 refine wsr ?_
 refine wv (.int .i64 0) ?_
 refine wpList_nil (then_normal ?_)
 refine wp_seq ?_
 refine wp_block ?_
 refine wsr ?_
 refine wv (.pointer (some ⟨b, 0, none⟩)) ?_
 refine wv (.pointer (some ⟨b, 0, none⟩)) ?_
 refine wrow row_impl_Field hb (by exact Fld.size_cells _) ?_
 refine wcl (iValidField_any F hF _) ?_
 intro w1 E1
 refine wv (.bool (!(okB F))) ?_
 refine wv (.bool (!(okB F))) ?_
 refine wpList_nil (then_normal ?_)
 refine wsplit (!(okB F)) (fun h1 => ?_) (fun h1 => ?_)
 ·skip
  replace h1 := nbT h1
  refine wsr ?_
  refine wv (.int .i64 1) ?_
  refine wpList_nil (then_normal ?_)
  refine wp_ret ?_
  refine block_ret (then_ret ?_)
  have H1 := (Ext.refl w).trans E1
  refine ret1 (.int .i64 (code F B)) rfl ?_ rfl ?_
  ·refine (resT (v := .int .i64 1) (by kernel_rfl)).trans ?_
   refine congrArg (Value.int _) ?_
   first | exact (code_1 (by assumption)).symm | exact (code_2 (by assumption) (by assumption)).symm | exact (code_0 (by assumption) (by assumption)).symm
  exact ⟨rfl, H1⟩
 ·skip
  replace h1 := nbF h1
  refine wsr ?_
  refine wv V ?_
  have H2 := (Ext.refl w).trans E1
  refine wcl (he := (Eq.trans (b := (callV V #[]).run Try.prog _) (by kernel_rfl) (hV _))) (hc _ H2) ?_
  intro w2 E2
  refine wv (.bool (!B)) ?_
  refine wv (.bool (!B)) ?_
  refine wpList_nil (then_normal ?_)
  refine wsplit (!B) (fun h2 => ?_) (fun h2 => ?_)
  ·skip
   replace h2 := nbT h2
   refine wsr ?_
   refine wv (.int .i64 2) ?_
   refine wpList_nil (then_normal ?_)
   refine wp_ret ?_
   refine block_ret (then_ret ?_)
   have H3 := H2.trans E2
   refine ret1 (.int .i64 (code F B)) rfl ?_ rfl ?_
   ·refine (resT (v := .int .i64 2) (by kernel_rfl)).trans ?_
    refine congrArg (Value.int _) ?_
    first | exact (code_1 (by assumption)).symm | exact (code_2 (by assumption) (by assumption)).symm | exact (code_0 (by assumption) (by assumption)).symm
   exact ⟨rfl, H3⟩
  ·skip
   replace h2 := nbF h2
   refine wp_skip ?_
   refine block_normal (then_normal ?_)
   refine wsr ?_
   refine wv (.int .i64 0) ?_
   refine wpList_nil (then_normal ?_)
   refine wp_ret ?_
   have H4 := H2.trans E2
   refine ret1 (.int .i64 (code F B)) rfl ?_ rfl ?_
   ·refine (resT (v := .int .i64 0) (by kernel_rfl)).trans ?_
    refine congrArg (Value.int _) ?_
    first | exact (code_1 (by assumption)).symm | exact (code_2 (by assumption) (by assumption)).symm | exact (code_0 (by assumption) (by assumption)).symm
   exact ⟨rfl, H4⟩
