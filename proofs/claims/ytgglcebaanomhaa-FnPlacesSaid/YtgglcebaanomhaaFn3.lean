/-
 Contracts: the functions of fields. No conditions.
-/
import Derived.Test.YtgglcebaanomhaaTy
import Derived.Test.YtgglcebaanomhaaSl
import Derived.Test.YtgglcebaanomhaaMth
import Derived.Test.YtgglcebaanomhaaFn2
namespace Go.Proofs.Ytgglcebaanomhaa
open Go.RowKit
set_option linter.unusedSimpArgs false
set_option linter.unusedVariables false
set_option maxHeartbeats 4000000
set_option maxRecDepth 100000
attribute [local irreducible] wpList Code.wp
theorem square_any (a : Int) (b : Int) (ha : 0 ≤ a ∧ a ≤ 1000) (hb : 0 ≤ b ∧ b ≤ 1000) (w : World) :
 Calls Try.prog 91 #[.int .i64 a, .int .i64 b] w fun e w' => e = .returned (.int .i64 (sqr a b)) ∧ Ext w w' := by
 refine calls_of_wp Try.func91 rfl ?_
 refine wp_frame (a' := ⟨#[.int .i64 a, .int .i64 b, undef, undef, undef, undef, undef, undef, undef, undef, undef, undef, undef, undef, undef, undef, undef, undef, undef, undef, undef, undef, undef, undef], []⟩) (by kernel_rfl) ?_
 refine wsr ?_
 refine wv (.int .i64 0) ?_
 refine wpList_nil (then_normal ?_)
 refine wsr ?_
 refine wv (.int .i64 a) ?_
 refine wrem a 10 ?_
 refine wv (.int .i64 b) ?_
 refine wrem b 10 ?_
 refine wi64 ((a % 10) - (b % 10)) ?_
 refine wv (.int .i64 a) ?_
 refine wquo a 10 ?_
 refine wv (.int .i64 b) ?_
 refine wquo b 10 ?_
 refine wi64 ((a / 10) - (b / 10)) ?_
 refine wv (.int .i64 ((a % 10) - (b % 10))) ?_
 refine wv (.int .i64 ((a / 10) - (b / 10))) ?_
 refine wpList_nil (then_normal ?_)
 refine wsr ?_
 refine wv (.int .i64 ((a % 10) - (b % 10))) ?_
 refine wv (.int .i64 ((a % 10) - (b % 10))) ?_
 have sq1 := sq_b (x := ((a % 10) - (b % 10))) (by omega)
 refine wi64 (((a % 10) - (b % 10)) * ((a % 10) - (b % 10))) ?_
 refine wv (.int .i64 ((a / 10) - (b / 10))) ?_
 refine wv (.int .i64 ((a / 10) - (b / 10))) ?_
 have sq2 := sq_b (x := ((a / 10) - (b / 10))) (by omega)
 refine wi64 (((a / 10) - (b / 10)) * ((a / 10) - (b / 10))) ?_
 refine wi64 ((((a % 10) - (b % 10)) * ((a % 10) - (b % 10))) + (((a / 10) - (b / 10)) * ((a / 10) - (b / 10)))) ?_
 refine wv (.int .i64 ((((a % 10) - (b % 10)) * ((a % 10) - (b % 10))) + (((a / 10) - (b / 10)) * ((a / 10) - (b / 10))))) ?_
 refine wpList_nil (then_normal ?_)
 refine wp_ret ?_
 refine ret1 (.int .i64 (sqr a b)) rfl ?_ rfl ?_
 ·refine (resT (v := .int .i64 ((((a % 10) - (b % 10)) * ((a % 10) - (b % 10))) + (((a / 10) - (b / 10)) * ((a / 10) - (b / 10))))) (by kernel_rfl)).trans ?_
  refine congrArg (Value.int _) ?_
  unfold sqr; rfl
 exact ⟨rfl, (Ext.refl w)⟩
theorem l01Square_any (a : Int) (b : Int) (ha : 0 ≤ a ∧ a ≤ 1000) (hb : 0 ≤ b ∧ b ≤ 1000) (w : World) :
 Calls Try.prog 87 #[.int .i64 a, .int .i64 b] w fun e w' => e = .returned (.int .i64 (sqr a b)) ∧ Ext w w' := by
 refine calls_of_wp Try.func87 rfl ?_
 refine wp_frame (a' := ⟨#[.int .i64 a, .int .i64 b, undef, undef, undef, undef, undef, undef, undef, undef, undef, undef, undef, undef, undef, undef, undef, undef, undef, undef, undef, undef, undef, undef], []⟩) (by kernel_rfl) ?_
 refine wsr ?_
 refine wv (.int .i64 0) ?_
 refine wpList_nil (then_normal ?_)
 refine wsr ?_
 refine wv (.int .i64 a) ?_
 refine wrem a 10 ?_
 refine wv (.int .i64 b) ?_
 refine wrem b 10 ?_
 refine wi64 ((a % 10) - (b % 10)) ?_
 refine wv (.int .i64 ((a % 10) - (b % 10))) ?_
 refine wpList_nil (then_normal ?_)
 refine wsr ?_
 refine wv (.int .i64 a) ?_
 refine wquo a 10 ?_
 refine wv (.int .i64 b) ?_
 refine wquo b 10 ?_
 refine wi64 ((a / 10) - (b / 10)) ?_
 refine wv (.int .i64 ((a / 10) - (b / 10))) ?_
 refine wpList_nil (then_normal ?_)
 refine wsr ?_
 refine wv (.int .i64 ((a % 10) - (b % 10))) ?_
 refine wv (.int .i64 ((a % 10) - (b % 10))) ?_
 have sq1 := sq_b (x := ((a % 10) - (b % 10))) (by omega)
 refine wi64 (((a % 10) - (b % 10)) * ((a % 10) - (b % 10))) ?_
 refine wv (.int .i64 ((a / 10) - (b / 10))) ?_
 refine wv (.int .i64 ((a / 10) - (b / 10))) ?_
 have sq2 := sq_b (x := ((a / 10) - (b / 10))) (by omega)
 refine wi64 (((a / 10) - (b / 10)) * ((a / 10) - (b / 10))) ?_
 refine wi64 ((((a % 10) - (b % 10)) * ((a % 10) - (b % 10))) + (((a / 10) - (b / 10)) * ((a / 10) - (b / 10)))) ?_
 refine wv (.int .i64 ((((a % 10) - (b % 10)) * ((a % 10) - (b % 10))) + (((a / 10) - (b / 10)) * ((a / 10) - (b / 10))))) ?_
 refine wpList_nil (then_normal ?_)
 refine wp_ret ?_
 refine ret1 (.int .i64 (sqr a b)) rfl ?_ rfl ?_
 ·refine (resT (v := .int .i64 ((((a % 10) - (b % 10)) * ((a % 10) - (b % 10))) + (((a / 10) - (b / 10)) * ((a / 10) - (b / 10))))) (by kernel_rfl)).trans ?_
  refine congrArg (Value.int _) ?_
  unfold sqr; rfl
 exact ⟨rfl, (Ext.refl w)⟩
