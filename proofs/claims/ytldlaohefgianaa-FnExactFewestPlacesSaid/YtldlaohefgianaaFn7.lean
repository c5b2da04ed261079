/-
  Contracts: more functions. No conditions.
-/
import Derived.Test.YtldlaohefgianaaTy
import Derived.Test.YtldlaohefgianaaSl
import Derived.Test.YtldlaohefgianaaMth
import Derived.Test.YtldlaohefgianaaFn5
import Derived.Test.YtldlaohefgianaaMth2
namespace Go.Proofs.Ytldlaohefgianaa
open Go.RowKit
set_option linter.unusedSimpArgs false
set_option linter.unusedVariables false
set_option maxHeartbeats 4000000
set_option maxRecDepth 100000
attribute [local irreducible] wpList Code.wp
--# pin
theorem pin_1 {a b v : Int} (h : inB a 1 10 = false) : pin a b v = false := by unfold pin; rw [h]; rfl
theorem pin_2 {a b v : Int} (h : inB b 1 10 = false) : pin a b v = false := by unfold pin; rw [h, Bool.and_false]; rfl
theorem pin_3 {a b v : Int} (h : inB v 0 1000 = false) : pin a b v = false := by unfold pin; rw [h, Bool.and_false]
theorem pin_t {a b v : Int} (h : inB a 1 10 = true) (h2 : inB b 1 10 = true) (h3 : inB v 0 1000 = true) : pin a b v = true := by unfold pin; rw [h, h2, h3]; rfl


--# eqInt64S_nil
theorem eqInt64S_nil (b cap : Nat) (w : World) :
 Calls Try.prog 15 #[.slice none 0 0, .slice (some ⟨b, 0, none⟩) 0 cap] w fun e w' => e = .returned (.bool true) ∧ Ext w w' := by
 refine calls_of_wp Try.func15 rfl ?_
 refine wp_frame (a' := ⟨#[.slice none 0 0, .slice (some ⟨b, 0, none⟩) 0 cap, undef, undef, undef, undef, undef, undef, undef, undef, undef, undef, undef, undef, undef, undef, undef, undef, undef, undef, undef, undef, undef, undef, undef, undef], []⟩) (by kernel_rfl) ?_
 refine wsr ?_
 refine wv (.bool false) ?_
 refine wpList_nil (then_normal ?_)
 refine wp_seq ?_
 refine wsr ?_
 refine wv (.slice none 0 0) ?_
 refine wv (.int .i64 0) ?_
 refine wv (.slice (some ⟨b, 0, none⟩) 0 cap) ?_
 refine wv (.int .i64 0) ?_
 refine wvv (.bool (0 != 0)) (.bool false) (by simp) ?_
 refine wpList_nil (then_normal ?_)
 refine wcf ?_
 refine wp_skip ?_
 refine then_normal ?_
 refine wp_seq ?_
 refine wsr ?_
 refine wv (.int .i64 0) ?_
 refine wpList_nil (then_normal ?_)
 refine wp_block ?_
 refine wp_loop_rounds 1 ?_
 refine rounds_s ?_
 refine wp_seq ?_
 refine wsr ?_
 refine wv (.int .i64 0) ?_
 refine wv (.slice none 0 0) ?_
 refine wv (.int .i64 0) ?_
 refine wv (.bool false) ?_
 refine wpList_nil (then_normal ?_)
 refine wcf ?_
 refine wp_exit ?_
 refine then_exit ?_
 refine then_exit ?_
 refine block_exit ?_
 refine then_normal ?_
 refine wsr ?_
 refine wv (.bool true) ?_
 refine wpList_nil (then_normal ?_)
 refine wp_ret ?_
 refine ret1 (.bool true) rfl ?_ rfl ?_
 · exact resT (by kernel_rfl)
 exact ⟨rfl, (Ext.refl w)⟩


--# markInt64S_nil
theorem markInt64S_nil (k : Int) (w : World) :
 Calls Try.prog 16 #[.slice none 0 0, .int .i64 k] w fun e w' => e = .returned (.int .i64 k) ∧ Ext w w' := by
 refine calls_of_wp Try.func16 rfl ?_
 refine wp_frame (a' := ⟨#[.slice none 0 0, .int .i64 k, undef, undef, undef, undef, undef, undef, undef, undef, undef, undef, undef, undef, undef, undef, undef, undef, undef], []⟩) (by kernel_rfl) ?_
 refine wsr ?_
 refine wv (.int .i64 0) ?_
 refine wpList_nil (then_normal ?_)
 refine wp_seq ?_
 refine wsr ?_
 refine wv (.int .i64 0) ?_
 refine wpList_nil (then_normal ?_)
 refine wp_block ?_
 refine wp_loop_rounds 1 ?_
 refine rounds_s ?_
 refine wp_seq ?_
 refine wsr ?_
 refine wv (.int .i64 0) ?_
 refine wv (.slice none 0 0) ?_
 refine wv (.int .i64 0) ?_
 refine wv (.bool false) ?_
 refine wpList_nil (then_normal ?_)
 refine wcf ?_
 refine wp_exit ?_
 refine then_exit ?_
 refine then_exit ?_
 refine block_exit ?_
 refine then_normal ?_
 refine wsr ?_
 refine wv (.int .i64 k) ?_
 refine wv (.int .i64 k) ?_
 refine wpList_nil (then_normal ?_)
 refine wp_ret ?_
 refine ret1 (.int .i64 k) rfl ?_ rfl ?_
 · exact resT (by kernel_rfl)
 exact ⟨rfl, (Ext.refl w)⟩


--# heldInt64S_nil
theorem heldInt64S_nil (k : Int) (w : World) :
 Calls Try.prog 17 #[.slice none 0 0, .int .i64 k] w fun e w' => e = .returned (.int .i64 k) ∧ Ext w w' := by
 refine calls_of_wp Try.func17 rfl ?_
 refine wp_frame (a' := ⟨#[.slice none 0 0, .int .i64 k, undef, undef, undef, undef, undef, undef, undef, undef, undef, undef, undef, undef, undef, undef, undef, undef, undef, undef, undef], []⟩) (by kernel_rfl) ?_
 refine wsr ?_
 refine wv (.int .i64 0) ?_
 refine wpList_nil (then_normal ?_)
 refine wp_seq ?_
 refine wsr ?_
 refine wv (.int .i64 0) ?_
 refine wpList_nil (then_normal ?_)
 refine wp_block ?_
 refine wp_loop_rounds 1 ?_
 refine rounds_s ?_
 refine wp_seq ?_
 refine wsr ?_
 refine wv (.int .i64 0) ?_
 refine wv (.slice none 0 0) ?_
 refine wv (.int .i64 0) ?_
 refine wv (.bool false) ?_
 refine wpList_nil (then_normal ?_)
 refine wcf ?_
 refine wp_exit ?_
 refine then_exit ?_
 refine then_exit ?_
 refine block_exit ?_
 refine then_normal ?_
 refine wsr ?_
 refine wv (.int .i64 k) ?_
 refine wv (.int .i64 k) ?_
 refine wpList_nil (then_normal ?_)
 refine wp_ret ?_
 refine ret1 (.int .i64 k) rfl ?_ rfl ?_
 · exact resT (by kernel_rfl)
 exact ⟨rfl, (Ext.refl w)⟩


