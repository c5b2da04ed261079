/-
  Contracts: the functions of fields. No conditions.
-/
import Derived.Test.YtldlaohefgianaaTy
import Derived.Test.YtldlaohefgianaaSl
import Derived.Test.YtldlaohefgianaaMth
import Derived.Test.YtldlaohefgianaaFn2
namespace Go.Proofs.Ytldlaohefgianaa
open Go.RowKit
set_option linter.unusedSimpArgs false
set_option linter.unusedVariables false
set_option maxHeartbeats 4000000
set_option maxRecDepth 100000
attribute [local irreducible] wpList Code.wp
--# square_any
theorem square_any (a : Int) (b : Int) (ha : 0 ≤ a ∧ a ≤ 1000) (hb : 0 ≤ b ∧ b ≤ 1000) (w : World) :
 Calls Try.prog 70 #[.int .i64 a, .int .i64 b] w fun e w' => e = .returned (.int .i64 (sqr a b)) ∧ Ext w w' := by
 refine calls_of_wp Try.func70 rfl ?_
 refine wp_frame (a' := ⟨#[.int .i64 a, .int .i64 b, undef, undef, undef, undef, undef, undef, undef, undef, undef, undef, undef, undef, undef, undef, undef, undef, undef, undef, undef, undef, undef, undef], []⟩) (by kernel_rfl) ?_
 refine wsr ?_
 refine wv (.int .i64 0) ?_
 refine wpList_nil (then_normal ?_)
 refine wsr ?_
 refine wv (.int .i64 a) ?_
 refine wrem a 10 ?_
 refine wv (.int .i64 b) ?_
 refine wrem b 10 ?_
 refine wi64 ((a % 10) - (b % 10)) ?_
 refine wv (.int .i64 a) ?_
 refine wquo a 10 ?_
 refine wv (.int .i64 b) ?_
 refine wquo b 10 ?_
 refine wi64 ((a / 10) - (b / 10)) ?_
 refine wv (.int .i64 ((a % 10) - (b % 10))) ?_
 refine wv (.int .i64 ((a / 10) - (b / 10))) ?_
 refine wpList_nil (then_normal ?_)
 refine wsr ?_
 refine wv (.int .i64 ((a % 10) - (b % 10))) ?_
 refine wv (.int .i64 ((a % 10) - (b % 10))) ?_
 have sq1 := sq_b (x := ((a % 10) - (b % 10))) (by omega)
 refine wi64 (((a % 10) - (b % 10)) * ((a % 10) - (b % 10))) ?_
 refine wv (.int .i64 ((a / 10) - (b / 10))) ?_
 refine wv (.int .i64 ((a / 10) - (b / 10))) ?_
 have sq2 := sq_b (x := ((a / 10) - (b / 10))) (by omega)
 refine wi64 (((a / 10) - (b / 10)) * ((a / 10) - (b / 10))) ?_
 refine wi64 ((((a % 10) - (b % 10)) * ((a % 10) - (b % 10))) + (((a / 10) - (b / 10)) * ((a / 10) - (b / 10)))) ?_
 refine wv (.int .i64 ((((a % 10) - (b % 10)) * ((a % 10) - (b % 10))) + (((a / 10) - (b / 10)) * ((a / 10) - (b / 10))))) ?_
 refine wpList_nil (then_normal ?_)
 refine wp_ret ?_
 refine ret1 (.int .i64 (sqr a b)) rfl ?_ rfl ?_
 · refine (resT (v := .int .i64 ((((a % 10) - (b % 10)) * ((a % 10) - (b % 10))) + (((a / 10) - (b / 10)) * ((a / 10) - (b / 10))))) (by kernel_rfl)).trans ?_
   refine congrArg (Value.int _) ?_
   unfold sqr; rfl
 exact ⟨rfl, (Ext.refl w)⟩


--# l01Square_any
theorem l01Square_any (a : Int) (b : Int) (ha : 0 ≤ a ∧ a ≤ 1000) (hb : 0 ≤ b ∧ b ≤ 1000) (w : World) :
 Calls Try.prog 40 #[.int .i64 a, .int .i64 b] w fun e w' => e = .returned (.int .i64 (sqr a b)) ∧ Ext w w' := by
 refine calls_of_wp Try.func40 rfl ?_
 refine wp_frame (a' := ⟨#[.int .i64 a, .int .i64 b, undef, undef, undef, undef, undef, undef, undef, undef, undef, undef, undef, undef, undef, undef, undef, undef, undef, undef, undef, undef, undef, undef], []⟩) (by kernel_rfl) ?_
 refine wsr ?_
 refine wv (.int .i64 0) ?_
 refine wpList_nil (then_normal ?_)
 refine wsr ?_
 refine wv (.int .i64 a) ?_
 refine wrem a 10 ?_
 refine wv (.int .i64 b) ?_
 refine wrem b 10 ?_
 refine wi64 ((a % 10) - (b % 10)) ?_
 refine wv (.int .i64 ((a % 10) - (b % 10))) ?_
 refine wpList_nil (then_normal ?_)
 refine wsr ?_
 refine wv (.int .i64 a) ?_
 refine wquo a 10 ?_
 refine wv (.int .i64 b) ?_
 refine wquo b 10 ?_
 refine wi64 ((a / 10) - (b / 10)) ?_
 refine wv (.int .i64 ((a / 10) - (b / 10))) ?_
 refine wpList_nil (then_normal ?_)
 refine wsr ?_
 refine wv (.int .i64 ((a % 10) - (b % 10))) ?_
 refine wv (.int .i64 ((a % 10) - (b % 10))) ?_
 have sq1 := sq_b (x := ((a % 10) - (b % 10))) (by omega)
 refine wi64 (((a % 10) - (b % 10)) * ((a % 10) - (b % 10))) ?_
 refine wv (.int .i64 ((a / 10) - (b / 10))) ?_
 refine wv (.int .i64 ((a / 10) - (b / 10))) ?_
 have sq2 := sq_b (x := ((a / 10) - (b / 10))) (by omega)
 refine wi64 (((a / 10) - (b / 10)) * ((a / 10) - (b / 10))) ?_
 refine wi64 ((((a % 10) - (b % 10)) * ((a % 10) - (b % 10))) + (((a / 10) - (b / 10)) * ((a / 10) - (b / 10)))) ?_
 refine wv (.int .i64 ((((a % 10) - (b % 10)) * ((a % 10) - (b % 10))) + (((a / 10) - (b / 10)) * ((a / 10) - (b / 10))))) ?_
 refine wpList_nil (then_normal ?_)
 refine wp_ret ?_
 refine ret1 (.int .i64 (sqr a b)) rfl ?_ rfl ?_
 · refine (resT (v := .int .i64 ((((a % 10) - (b % 10)) * ((a % 10) - (b % 10))) + (((a / 10) - (b / 10)) * ((a / 10) - (b / 10))))) (by kernel_rfl)).trans ?_
   refine congrArg (Value.int _) ?_
   unfold sqr; rfl
 exact ⟨rfl, (Ext.refl w)⟩


