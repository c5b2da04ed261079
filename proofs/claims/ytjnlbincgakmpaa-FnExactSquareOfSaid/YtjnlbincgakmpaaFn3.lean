/-
  Contracts: the functions of fields. No conditions.
-/
import Derived.Test.YtjnlbincgakmpaaTy
import Derived.Test.YtjnlbincgakmpaaMth
import Derived.Test.YtjnlbincgakmpaaFn2
namespace Go.Proofs.Ytjnlbincgakmpaa
open Go.RowKit
set_option linter.unusedSimpArgs false
set_option linter.unusedVariables false
set_option maxHeartbeats 4000000
attribute [local irreducible] wpList Code.wp
--# square_any
theorem square_any (a : Int) (b : Int) (ha : 0 ≤ a ∧ a ≤ 1000) (hb : 0 ≤ b ∧ b ≤ 1000) (w : World) :
 Calls Try.prog 69 #[.int .i64 a, .int .i64 b] w fun e w' => e = .returned (.int .i64 (sqr a b)) ∧ Ext w w' := by
  refine calls_of_wp Try.func69 rfl ?_
  refine wp_frame (a' := ⟨#[.int .i64 a, .int .i64 b, undef, undef, undef, undef, undef, undef, undef, undef, undef, undef, undef, undef, undef, undef, undef, undef, undef, undef, undef, undef, undef, undef], []⟩) (by kernel_rfl) ?_
  refine wp_seq ?_
  refine wp_region_lit ?_
  refine wpl_val (.int .i64 0) (.int .i64 0) rfl (by kernel_rfl) (by kernel_rfl) rfl ?_
  refine wpList_nil ?_
  refine then_normal ?_
  refine wp_frame (a' := ⟨#[.int .i64 a, .int .i64 b, undef, undef, .int .i64 0, undef, undef, undef, undef, undef, undef, undef, undef, undef, undef, undef, undef, undef, undef, undef, undef, undef, undef, undef], []⟩) (by kernel_rfl) ?_
  refine wp_seq ?_
  refine wp_region_lit ?_
  refine wpl_val (.int .i64 a) (.int .i64 a) rfl (by kernel_rfl) (by kernel_rfl) rfl ?_
  refine wpl_val (.int .i64 (Int.tmod a 10)) (.int .i64 (a % 10)) rfl (by kernel_rfl) (by kernel_rfl) (by exact congrArg _ (Int.tmod_eq_emod_of_nonneg (by omega))) ?_
  refine wpl_val (.int .i64 b) (.int .i64 b) rfl (by kernel_rfl) (by kernel_rfl) rfl ?_
  refine wpl_val (.int .i64 (Int.tmod b 10)) (.int .i64 (b % 10)) rfl (by kernel_rfl) (by kernel_rfl) (by exact congrArg _ (Int.tmod_eq_emod_of_nonneg (by omega))) ?_
  refine wpl_val (.int .i64 (IntKind.i64.wrap ((a % 10) - (b % 10)))) (.int .i64 ((a % 10) - (b % 10))) rfl (by kernel_rfl) (by kernel_rfl) (by exact congrArg _ (IntWalk.i64_in _ (by omega))) ?_
  refine wpl_val (.int .i64 a) (.int .i64 a) rfl (by kernel_rfl) (by kernel_rfl) rfl ?_
  refine wpl_val (.int .i64 (IntKind.i64.wrap (Int.tdiv a 10))) (.int .i64 (a / 10)) rfl (by kernel_rfl) (by kernel_rfl) (by exact congrArg _ (quo_in (by omega) (by omega))) ?_
  refine wpl_val (.int .i64 b) (.int .i64 b) rfl (by kernel_rfl) (by kernel_rfl) rfl ?_
  refine wpl_val (.int .i64 (IntKind.i64.wrap (Int.tdiv b 10))) (.int .i64 (b / 10)) rfl (by kernel_rfl) (by kernel_rfl) (by exact congrArg _ (quo_in (by omega) (by omega))) ?_
  refine wpl_val (.int .i64 (IntKind.i64.wrap ((a / 10) - (b / 10)))) (.int .i64 ((a / 10) - (b / 10))) rfl (by kernel_rfl) (by kernel_rfl) (by exact congrArg _ (IntWalk.i64_in _ (by omega))) ?_
  refine wpl_val (.int .i64 ((a % 10) - (b % 10))) (.int .i64 ((a % 10) - (b % 10))) rfl (by kernel_rfl) (by kernel_rfl) rfl ?_
  refine wpl_val (.int .i64 ((a / 10) - (b / 10))) (.int .i64 ((a / 10) - (b / 10))) rfl (by kernel_rfl) (by kernel_rfl) rfl ?_
  refine wpList_nil ?_
  refine then_normal ?_
  refine wp_frame (a' := ⟨#[.int .i64 a, .int .i64 b, undef, undef, .int .i64 0, .int .i64 ((a % 10) - (b % 10)), .int .i64 ((a / 10) - (b / 10)), .int .i64 a, .int .i64 (a % 10), .int .i64 b, .int .i64 (b % 10), .int .i64 ((a % 10) - (b % 10)), .int .i64 a, .int .i64 (a / 10), .int .i64 b, .int .i64 (b / 10), .int .i64 ((a / 10) - (b / 10)), undef, undef, undef, undef, undef, undef, undef], []⟩) (by kernel_rfl) ?_
  refine wp_seq ?_
  refine wp_region_lit ?_
  refine wpl_val (.int .i64 ((a % 10) - (b % 10))) (.int .i64 ((a % 10) - (b % 10))) rfl (by kernel_rfl) (by kernel_rfl) rfl ?_
  refine wpl_val (.int .i64 ((a % 10) - (b % 10))) (.int .i64 ((a % 10) - (b % 10))) rfl (by kernel_rfl) (by kernel_rfl) rfl ?_
  have sq1 := sq_b (x := ((a % 10) - (b % 10))) (by omega)
  refine wpl_val (.int .i64 (IntKind.i64.wrap (((a % 10) - (b % 10)) * ((a % 10) - (b % 10))))) (.int .i64 (((a % 10) - (b % 10)) * ((a % 10) - (b % 10)))) rfl (by kernel_rfl) (by kernel_rfl) (by exact congrArg _ (IntWalk.i64_in _ (sq_in (by omega)))) ?_
  refine wpl_val (.int .i64 ((a / 10) - (b / 10))) (.int .i64 ((a / 10) - (b / 10))) rfl (by kernel_rfl) (by kernel_rfl) rfl ?_
  refine wpl_val (.int .i64 ((a / 10) - (b / 10))) (.int .i64 ((a / 10) - (b / 10))) rfl (by kernel_rfl) (by kernel_rfl) rfl ?_
  have sq2 := sq_b (x := ((a / 10) - (b / 10))) (by omega)
  refine wpl_val (.int .i64 (IntKind.i64.wrap (((a / 10) - (b / 10)) * ((a / 10) - (b / 10))))) (.int .i64 (((a / 10) - (b / 10)) * ((a / 10) - (b / 10)))) rfl (by kernel_rfl) (by kernel_rfl) (by exact congrArg _ (IntWalk.i64_in _ (sq_in (by omega)))) ?_
  refine wpl_val (.int .i64 (IntKind.i64.wrap ((((a % 10) - (b % 10)) * ((a % 10) - (b % 10))) + (((a / 10) - (b / 10)) * ((a / 10) - (b / 10)))))) (.int .i64 ((((a % 10) - (b % 10)) * ((a % 10) - (b % 10))) + (((a / 10) - (b / 10)) * ((a / 10) - (b / 10))))) rfl (by kernel_rfl) (by kernel_rfl) (by exact congrArg _ (IntWalk.i64_in _ (by omega))) ?_
  refine wpl_val (.int .i64 ((((a % 10) - (b % 10)) * ((a % 10) - (b % 10))) + (((a / 10) - (b / 10)) * ((a / 10) - (b / 10))))) (.int .i64 ((((a % 10) - (b % 10)) * ((a % 10) - (b % 10))) + (((a / 10) - (b / 10)) * ((a / 10) - (b / 10))))) rfl (by kernel_rfl) (by kernel_rfl) rfl ?_
  refine wpList_nil ?_
  refine then_normal ?_
  refine wp_frame (a' := ⟨#[.int .i64 a, .int .i64 b, undef, undef, .int .i64 ((((a % 10) - (b % 10)) * ((a % 10) - (b % 10))) + (((a / 10) - (b / 10)) * ((a / 10) - (b / 10)))), .int .i64 ((a % 10) - (b % 10)), .int .i64 ((a / 10) - (b / 10)), .int .i64 a, .int .i64 (a % 10), .int .i64 b, .int .i64 (b % 10), .int .i64 ((a % 10) - (b % 10)), .int .i64 a, .int .i64 (a / 10), .int .i64 b, .int .i64 (b / 10), .int .i64 ((a / 10) - (b / 10)), .int .i64 ((a % 10) - (b % 10)), .int .i64 ((a % 10) - (b % 10)), .int .i64 (((a % 10) - (b % 10)) * ((a % 10) - (b % 10))), .int .i64 ((a / 10) - (b / 10)), .int .i64 ((a / 10) - (b / 10)), .int .i64 (((a / 10) - (b / 10)) * ((a / 10) - (b / 10))), .int .i64 ((((a % 10) - (b % 10)) * ((a % 10) - (b % 10))) + (((a / 10) - (b / 10)) * ((a / 10) - (b / 10))))], []⟩) (by kernel_rfl) ?_
  refine wp_ret ?_
  refine body_frame (a' := ⟨#[.int .i64 a, .int .i64 b, undef, undef, .int .i64 ((((a % 10) - (b % 10)) * ((a % 10) - (b % 10))) + (((a / 10) - (b / 10)) * ((a / 10) - (b / 10)))), .int .i64 ((a % 10) - (b % 10)), .int .i64 ((a / 10) - (b / 10)), .int .i64 a, .int .i64 (a % 10), .int .i64 b, .int .i64 (b % 10), .int .i64 ((a % 10) - (b % 10)), .int .i64 a, .int .i64 (a / 10), .int .i64 b, .int .i64 (b / 10), .int .i64 ((a / 10) - (b / 10)), .int .i64 ((a % 10) - (b % 10)), .int .i64 ((a % 10) - (b % 10)), .int .i64 (((a % 10) - (b % 10)) * ((a % 10) - (b % 10))), .int .i64 ((a / 10) - (b / 10)), .int .i64 ((a / 10) - (b / 10)), .int .i64 (((a / 10) - (b / 10)) * ((a / 10) - (b / 10))), .int .i64 ((((a % 10) - (b % 10)) * ((a % 10) - (b % 10))) + (((a / 10) - (b / 10)) * ((a / 10) - (b / 10))))], []⟩) (by kernel_rfl) ?_
  refine ret1 (.int .i64 (sqr a b)) rfl ?_ rfl ?_
  · show (.int .i64 ((((a % 10) - (b % 10)) * ((a % 10) - (b % 10))) + (((a / 10) - (b / 10)) * ((a / 10) - (b / 10)))) : Value) = (.int .i64 (sqr a b))
    refine congrArg (Value.int _) ?_
    unfold sqr; rfl
  exact ⟨rfl, (Ext.refl w)⟩


--# l01Square_any
theorem l01Square_any (a : Int) (b : Int) (ha : 0 ≤ a ∧ a ≤ 1000) (hb : 0 ≤ b ∧ b ≤ 1000) (w : World) :
 Calls Try.prog 67 #[.int .i64 a, .int .i64 b] w fun e w' => e = .returned (.int .i64 (sqr a b)) ∧ Ext w w' := by
  refine calls_of_wp Try.func67 rfl ?_
  refine wp_frame (a' := ⟨#[.int .i64 a, .int .i64 b, undef, undef, undef, undef, undef, undef, undef, undef, undef, undef, undef, undef, undef, undef, undef, undef, undef, undef, undef, undef, undef, undef], []⟩) (by kernel_rfl) ?_
  refine wp_seq ?_
  refine wp_region_lit ?_
  refine wpl_val (.int .i64 0) (.int .i64 0) rfl (by kernel_rfl) (by kernel_rfl) rfl ?_
  refine wpList_nil ?_
  refine then_normal ?_
  refine wp_frame (a' := ⟨#[.int .i64 a, .int .i64 b, undef, undef, .int .i64 0, undef, undef, undef, undef, undef, undef, undef, undef, undef, undef, undef, undef, undef, undef, undef, undef, undef, undef, undef], []⟩) (by kernel_rfl) ?_
  refine wp_seq ?_
  refine wp_region_lit ?_
  refine wpl_val (.int .i64 a) (.int .i64 a) rfl (by kernel_rfl) (by kernel_rfl) rfl ?_
  refine wpl_val (.int .i64 (Int.tmod a 10)) (.int .i64 (a % 10)) rfl (by kernel_rfl) (by kernel_rfl) (by exact congrArg _ (Int.tmod_eq_emod_of_nonneg (by omega))) ?_
  refine wpl_val (.int .i64 b) (.int .i64 b) rfl (by kernel_rfl) (by kernel_rfl) rfl ?_
  refine wpl_val (.int .i64 (Int.tmod b 10)) (.int .i64 (b % 10)) rfl (by kernel_rfl) (by kernel_rfl) (by exact congrArg _ (Int.tmod_eq_emod_of_nonneg (by omega))) ?_
  refine wpl_val (.int .i64 (IntKind.i64.wrap ((a % 10) - (b % 10)))) (.int .i64 ((a % 10) - (b % 10))) rfl (by kernel_rfl) (by kernel_rfl) (by exact congrArg _ (IntWalk.i64_in _ (by omega))) ?_
  refine wpl_val (.int .i64 ((a % 10) - (b % 10))) (.int .i64 ((a % 10) - (b % 10))) rfl (by kernel_rfl) (by kernel_rfl) rfl ?_
  refine wpList_nil ?_
  refine then_normal ?_
  refine wp_frame (a' := ⟨#[.int .i64 a, .int .i64 b, undef, undef, .int .i64 0, .int .i64 ((a % 10) - (b % 10)), undef, .int .i64 a, .int .i64 (a % 10), .int .i64 b, .int .i64 (b % 10), .int .i64 ((a % 10) - (b % 10)), undef, undef, undef, undef, undef, undef, undef, undef, undef, undef, undef, undef], []⟩) (by kernel_rfl) ?_
  refine wp_seq ?_
  refine wp_region_lit ?_
  refine wpl_val (.int .i64 a) (.int .i64 a) rfl (by kernel_rfl) (by kernel_rfl) rfl ?_
  refine wpl_val (.int .i64 (IntKind.i64.wrap (Int.tdiv a 10))) (.int .i64 (a / 10)) rfl (by kernel_rfl) (by kernel_rfl) (by exact congrArg _ (quo_in (by omega) (by omega))) ?_
  refine wpl_val (.int .i64 b) (.int .i64 b) rfl (by kernel_rfl) (by kernel_rfl) rfl ?_
  refine wpl_val (.int .i64 (IntKind.i64.wrap (Int.tdiv b 10))) (.int .i64 (b / 10)) rfl (by kernel_rfl) (by kernel_rfl) (by exact congrArg _ (quo_in (by omega) (by omega))) ?_
  refine wpl_val (.int .i64 (IntKind.i64.wrap ((a / 10) - (b / 10)))) (.int .i64 ((a / 10) - (b / 10))) rfl (by kernel_rfl) (by kernel_rfl) (by exact congrArg _ (IntWalk.i64_in _ (by omega))) ?_
  refine wpl_val (.int .i64 ((a / 10) - (b / 10))) (.int .i64 ((a / 10) - (b / 10))) rfl (by kernel_rfl) (by kernel_rfl) rfl ?_
  refine wpList_nil ?_
  refine then_normal ?_
  refine wp_frame (a' := ⟨#[.int .i64 a, .int .i64 b, undef, undef, .int .i64 0, .int .i64 ((a % 10) - (b % 10)), .int .i64 ((a / 10) - (b / 10)), .int .i64 a, .int .i64 (a % 10), .int .i64 b, .int .i64 (b % 10), .int .i64 ((a % 10) - (b % 10)), .int .i64 a, .int .i64 (a / 10), .int .i64 b, .int .i64 (b / 10), .int .i64 ((a / 10) - (b / 10)), undef, undef, undef, undef, undef, undef, undef], []⟩) (by kernel_rfl) ?_
  refine wp_seq ?_
  refine wp_region_lit ?_
  refine wpl_val (.int .i64 ((a % 10) - (b % 10))) (.int .i64 ((a % 10) - (b % 10))) rfl (by kernel_rfl) (by kernel_rfl) rfl ?_
  refine wpl_val (.int .i64 ((a % 10) - (b % 10))) (.int .i64 ((a % 10) - (b % 10))) rfl (by kernel_rfl) (by kernel_rfl) rfl ?_
  have sq1 := sq_b (x := ((a % 10) - (b % 10))) (by omega)
  refine wpl_val (.int .i64 (IntKind.i64.wrap (((a % 10) - (b % 10)) * ((a % 10) - (b % 10))))) (.int .i64 (((a % 10) - (b % 10)) * ((a % 10) - (b % 10)))) rfl (by kernel_rfl) (by kernel_rfl) (by exact congrArg _ (IntWalk.i64_in _ (sq_in (by omega)))) ?_
  refine wpl_val (.int .i64 ((a / 10) - (b / 10))) (.int .i64 ((a / 10) - (b / 10))) rfl (by kernel_rfl) (by kernel_rfl) rfl ?_
  refine wpl_val (.int .i64 ((a / 10) - (b / 10))) (.int .i64 ((a / 10) - (b / 10))) rfl (by kernel_rfl) (by kernel_rfl) rfl ?_
  have sq2 := sq_b (x := ((a / 10) - (b / 10))) (by omega)
  refine wpl_val (.int .i64 (IntKind.i64.wrap (((a / 10) - (b / 10)) * ((a / 10) - (b / 10))))) (.int .i64 (((a / 10) - (b / 10)) * ((a / 10) - (b / 10)))) rfl (by kernel_rfl) (by kernel_rfl) (by exact congrArg _ (IntWalk.i64_in _ (sq_in (by omega)))) ?_
  refine wpl_val (.int .i64 (IntKind.i64.wrap ((((a % 10) - (b % 10)) * ((a % 10) - (b % 10))) + (((a / 10) - (b / 10)) * ((a / 10) - (b / 10)))))) (.int .i64 ((((a % 10) - (b % 10)) * ((a % 10) - (b % 10))) + (((a / 10) - (b / 10)) * ((a / 10) - (b / 10))))) rfl (by kernel_rfl) (by kernel_rfl) (by exact congrArg _ (IntWalk.i64_in _ (by omega))) ?_
  refine wpl_val (.int .i64 ((((a % 10) - (b % 10)) * ((a % 10) - (b % 10))) + (((a / 10) - (b / 10)) * ((a / 10) - (b / 10))))) (.int .i64 ((((a % 10) - (b % 10)) * ((a % 10) - (b % 10))) + (((a / 10) - (b / 10)) * ((a / 10) - (b / 10))))) rfl (by kernel_rfl) (by kernel_rfl) rfl ?_
  refine wpList_nil ?_
  refine then_normal ?_
  refine wp_frame (a' := ⟨#[.int .i64 a, .int .i64 b, undef, undef, .int .i64 ((((a % 10) - (b % 10)) * ((a % 10) - (b % 10))) + (((a / 10) - (b / 10)) * ((a / 10) - (b / 10)))), .int .i64 ((a % 10) - (b % 10)), .int .i64 ((a / 10) - (b / 10)), .int .i64 a, .int .i64 (a % 10), .int .i64 b, .int .i64 (b % 10), .int .i64 ((a % 10) - (b % 10)), .int .i64 a, .int .i64 (a / 10), .int .i64 b, .int .i64 (b / 10), .int .i64 ((a / 10) - (b / 10)), .int .i64 ((a % 10) - (b % 10)), .int .i64 ((a % 10) - (b % 10)), .int .i64 (((a % 10) - (b % 10)) * ((a % 10) - (b % 10))), .int .i64 ((a / 10) - (b / 10)), .int .i64 ((a / 10) - (b / 10)), .int .i64 (((a / 10) - (b / 10)) * ((a / 10) - (b / 10))), .int .i64 ((((a % 10) - (b % 10)) * ((a % 10) - (b % 10))) + (((a / 10) - (b / 10)) * ((a / 10) - (b / 10))))], []⟩) (by kernel_rfl) ?_
  refine wp_ret ?_
  refine body_frame (a' := ⟨#[.int .i64 a, .int .i64 b, undef, undef, .int .i64 ((((a % 10) - (b % 10)) * ((a % 10) - (b % 10))) + (((a / 10) - (b / 10)) * ((a / 10) - (b / 10)))), .int .i64 ((a % 10) - (b % 10)), .int .i64 ((a / 10) - (b / 10)), .int .i64 a, .int .i64 (a % 10), .int .i64 b, .int .i64 (b % 10), .int .i64 ((a % 10) - (b % 10)), .int .i64 a, .int .i64 (a / 10), .int .i64 b, .int .i64 (b / 10), .int .i64 ((a / 10) - (b / 10)), .int .i64 ((a % 10) - (b % 10)), .int .i64 ((a % 10) - (b % 10)), .int .i64 (((a % 10) - (b % 10)) * ((a % 10) - (b % 10))), .int .i64 ((a / 10) - (b / 10)), .int .i64 ((a / 10) - (b / 10)), .int .i64 (((a / 10) - (b / 10)) * ((a / 10) - (b / 10))), .int .i64 ((((a % 10) - (b % 10)) * ((a % 10) - (b % 10))) + (((a / 10) - (b / 10)) * ((a / 10) - (b / 10))))], []⟩) (by kernel_rfl) ?_
  refine ret1 (.int .i64 (sqr a b)) rfl ?_ rfl ?_
  · show (.int .i64 ((((a % 10) - (b % 10)) * ((a % 10) - (b % 10))) + (((a / 10) - (b / 10)) * ((a / 10) - (b / 10)))) : Value) = (.int .i64 (sqr a b))
    refine congrArg (Value.int _) ?_
    unfold sqr; rfl
  exact ⟨rfl, (Ext.refl w)⟩


--# sKindAt_any
theorem sKindAt_any (F : Fld) (hF : F.wf) (c : Int) (w : World) :
 Calls Try.prog 31 #[.agg F.cells, .int .i64 c] w fun e w' => e = .returned (.tuple #[.int .i64 (if code F (isB F c) = 0 then F.k c.toNat else 0), .int .i64 (code F (isB F c))]) ∧ Ext w w' := by
  refine calls_of_wp Try.func31 rfl ?_
  refine wp_frame (a' := ⟨#[.agg F.cells, .int .i64 c, undef, undef, undef, undef, undef, undef, undef, undef, undef, undef, undef, undef, undef, undef, undef], []⟩) (by kernel_rfl) ?_
  refine wp_seq ?_
  refine wp_region_lit ?_
  refine wpl_box (v := .agg F.cells) F.cells rfl (by kernel_rfl) rfl (by kernel_rfl) rfl ?_
  intro g1 w1 B1 E1 hg_
  have lo_g1 : w.heap.size ≤ g1 := Nat.le_trans ((Ext.refl w)).size hg_
  clear hg_
  have H1 := ((Ext.refl w)).trans E1
  clear E1
  refine wpl_val (.int .i64 0) (.int .i64 0) rfl (by kernel_rfl) (by kernel_rfl) rfl ?_
  refine wpl_val (.int .i64 0) (.int .i64 0) rfl (by kernel_rfl) (by kernel_rfl) rfl ?_
  refine wpList_nil ?_
  refine then_normal ?_
  refine wp_frame (a' := ⟨#[.agg F.cells, .int .i64 c, .pointer (some ⟨g1, 0, none⟩), undef, .int .i64 0, .int .i64 0, undef, undef, undef, undef, undef, undef, undef, undef, undef, undef, undef], []⟩) (by kernel_rfl) ?_
  refine wp_seq ?_
  refine wp_seq ?_
  refine wp_region_lit ?_
  refine wpl_val (.int .i64 c) (.int .i64 c) rfl (by kernel_rfl) (by kernel_rfl) rfl ?_
  refine wpl_call (63) #[.pointer (some ⟨g1, 0, none⟩), .int .i64 c, .bool true] rfl (by kernel_rfl) (by kernel_rfl) (l01Asked_any F hF g1 _ c true (isB F c) (Bool.and_true _) _ B1) ?_
  intro w2 E2
  replace B1 := B1.ext E2
  have H2 := (H1).trans E2
  clear E2
  refine wpl_val (.int .i64 (code F (isB F c))) (.int .i64 (code F (isB F c))) rfl (by kernel_rfl) (by kernel_rfl) rfl ?_
  refine wpList_nil ?_
  refine then_normal ?_
  refine wp_frame (a' := ⟨#[.agg F.cells, .int .i64 c, .pointer (some ⟨g1, 0, none⟩), undef, .int .i64 0, .int .i64 0, .int .i64 (code F (isB F c)), .int .i64 c, .int .i64 (code F (isB F c)), undef, undef, undef, undef, undef, undef, undef, undef], []⟩) (by kernel_rfl) ?_
  refine wp_seq ?_
  refine wp_region_lit ?_
  refine wpl_val (.int .i64 (code F (isB F c))) (.int .i64 (code F (isB F c))) rfl (by kernel_rfl) (by kernel_rfl) rfl ?_
  refine wpl_val (.bool ((code F (isB F c)) != 0)) (.bool ((code F (isB F c)) != 0)) rfl (by kernel_rfl) (by kernel_rfl) rfl ?_
  refine wpList_nil ?_
  refine then_normal ?_
  refine wp_frame (a' := ⟨#[.agg F.cells, .int .i64 c, .pointer (some ⟨g1, 0, none⟩), undef, .int .i64 0, .int .i64 0, .int .i64 (code F (isB F c)), .int .i64 c, .int .i64 (code F (isB F c)), .int .i64 (code F (isB F c)), .bool ((code F (isB F c)) != 0), undef, undef, undef, undef, undef, undef], []⟩) (by kernel_rfl) ?_
  refine wp_cond_split (t := (code F (isB F c)) != 0) rfl (fun h1 => ?_) (fun h1 => ?_)
  · skip
    have hk1 := h1
    try simp only [decide_eq_true_eq, decide_eq_false_iff_not, Bool.and_eq_true, Bool.or_eq_true, Bool.and_eq_false_iff, Bool.or_eq_false_iff, Bool.not_eq_true', Bool.not_eq_false', beq_iff_eq, beq_eq_false_iff_ne, bne_iff_ne, bne_eq_false_iff_eq, gt_iff_lt, ge_iff_le, ne_eq, Decidable.not_not, Int.not_lt, Int.not_le, inB] at h1
    try (have z_ := code_zero h1; simp only [Bool.and_eq_true, isB_true, inB, decide_eq_true_eq] at z_)
    refine wp_seq ?_
    refine wp_region_lit ?_
    refine wpl_val (.int .i64 (code F (isB F c))) (.int .i64 (code F (isB F c))) rfl (by kernel_rfl) (by kernel_rfl) rfl ?_
    refine wpl_frame (a' := ⟨#[.agg F.cells, .int .i64 c, .pointer (some ⟨g1, 0, none⟩), undef, .int .i64 0, .int .i64 0, .int .i64 (code F (isB F c)), .int .i64 c, .int .i64 (code F (isB F c)), .int .i64 (code F (isB F c)), .bool ((code F (isB F c)) != 0), .int .i64 (code F (isB F c)), undef, undef, undef, undef, undef], []⟩) (by kernel_rfl) ?_
    refine wpl_frame (a' := ⟨#[.agg F.cells, .int .i64 c, .pointer (some ⟨g1, 0, none⟩), undef, .int .i64 0, .int .i64 0, .int .i64 (code F (isB F c)), .int .i64 c, .int .i64 (code F (isB F c)), .int .i64 (code F (isB F c)), .bool true, .int .i64 (code F (isB F c)), undef, undef, undef, undef, undef], []⟩) (by simp only [hk1, Bool.not_true, Bool.not_false]) ?_
    refine wpl_val (.int .i64 0) (.int .i64 0) rfl (by kernel_rfl) (by kernel_rfl) rfl ?_
    refine wpl_val (.int .i64 (code F (isB F c))) (.int .i64 (code F (isB F c))) rfl (by kernel_rfl) (by kernel_rfl) rfl ?_
    refine wpList_nil ?_
    refine then_normal ?_
    refine wp_frame (a' := ⟨#[.agg F.cells, .int .i64 c, .pointer (some ⟨g1, 0, none⟩), undef, .int .i64 0, .int .i64 (code F (isB F c)), .int .i64 (code F (isB F c)), .int .i64 c, .int .i64 (code F (isB F c)), .int .i64 (code F (isB F c)), .bool true, .int .i64 (code F (isB F c)), undef, undef, undef, undef, undef], []⟩) (by kernel_rfl) ?_
    refine wp_ret ?_
    refine then_ret ?_
    refine body_frame (a' := ⟨#[.agg F.cells, .int .i64 c, .pointer (some ⟨g1, 0, none⟩), undef, .int .i64 0, .int .i64 (code F (isB F c)), .int .i64 (code F (isB F c)), .int .i64 c, .int .i64 (code F (isB F c)), .int .i64 (code F (isB F c)), .bool true, .int .i64 (code F (isB F c)), undef, undef, undef, undef, undef], []⟩) (by kernel_rfl) ?_
    refine ret2 (.int .i64 (if code F (isB F c) = 0 then F.k c.toNat else 0)) (.int .i64 (code F (isB F c))) rfl ?_ ?_ rfl ?_
    · show (.int .i64 0 : Value) = (.int .i64 (if code F (isB F c) = 0 then F.k c.toNat else 0))
      refine congrArg (Value.int _) ?_
      simp [*]
    · show (.int .i64 (code F (isB F c)) : Value) = (.int .i64 (code F (isB F c)))
      rfl
    exact ⟨rfl, H2⟩
  · skip
    have hk2 := h1
    try simp only [decide_eq_true_eq, decide_eq_false_iff_not, Bool.and_eq_true, Bool.or_eq_true, Bool.and_eq_false_iff, Bool.or_eq_false_iff, Bool.not_eq_true', Bool.not_eq_false', beq_iff_eq, beq_eq_false_iff_ne, bne_iff_ne, bne_eq_false_iff_eq, gt_iff_lt, ge_iff_le, ne_eq, Decidable.not_not, Int.not_lt, Int.not_le, inB] at h1
    try (have z_ := code_zero h1; simp only [Bool.and_eq_true, isB_true, inB, decide_eq_true_eq] at z_)
    refine wp_skip ?_
    refine then_normal ?_
    refine wp_frame (a' := ⟨#[.agg F.cells, .int .i64 c, .pointer (some ⟨g1, 0, none⟩), undef, .int .i64 0, .int .i64 0, .int .i64 (code F (isB F c)), .int .i64 c, .int .i64 (code F (isB F c)), .int .i64 (code F (isB F c)), .bool ((code F (isB F c)) != 0), undef, undef, undef, undef, undef, undef], []⟩) (by kernel_rfl) ?_
    refine wp_seq ?_
    refine wp_region_lit ?_
    refine wpl_val (.int .i64 c) (.int .i64 c) rfl (by kernel_rfl) (by kernel_rfl) rfl ?_
    refine wpl_frame (a' := ⟨#[.agg F.cells, .int .i64 c, .pointer (some ⟨g1, 0, none⟩), undef, .int .i64 0, .int .i64 0, .int .i64 (code F (isB F c)), .int .i64 c, .int .i64 (code F (isB F c)), .int .i64 (code F (isB F c)), .bool ((code F (isB F c)) != 0), undef, .int .i64 c, undef, undef, undef, undef], []⟩) (by kernel_rfl) ?_
    refine wpl_frame (a' := ⟨#[.agg F.cells, .int .i64 c, .pointer (some ⟨g1, 0, none⟩), undef, .int .i64 0, .int .i64 0, .int .i64 (code F (isB F c)), .int .i64 c, .int .i64 (code F (isB F c)), .int .i64 (code F (isB F c)), .bool false, undef, .int .i64 c, undef, undef, undef, undef], []⟩) (by simp only [hk2, Bool.not_true, Bool.not_false]) ?_
    refine wpl_val (.pointer (some ⟨g1, 2, none⟩)) (.pointer (some ⟨g1, 2, none⟩)) rfl (by kernel_rfl) (by kernel_rfl) rfl ?_
    refine wpl_ixa (i := c) (k := .i64) (g := g1) (off := 2) rfl (by kernel_rfl) arrt__100_uint8 rfl (by kernel_rfl) (by kernel_rfl) (by omega) (by omega) ?_
    have ce1 := hF.k1 ((c).toNat) (by omega)
    refine wpl_cell (g := g1) (off := 2 + (c).toNat) (.int .u8 (F.k ((c).toNat))) rfl (by kernel_rfl) scal_uint8 rfl (by kernel_rfl) (by rw [B1.cell]; exact Fld.getk _ _ (by omega)) ?_
    refine wpl_val (.int .i64 (IntKind.i64.wrap (F.k ((c).toNat)))) (.int .i64 (F.k ((c).toNat))) rfl (by kernel_rfl) (by kernel_rfl) (by exact congrArg _ (IntWalk.i64_in _ (by omega))) ?_
    refine wpl_val (.int .i64 (F.k ((c).toNat))) (.int .i64 (F.k ((c).toNat))) rfl (by kernel_rfl) (by kernel_rfl) rfl ?_
    refine wpl_val (.int .i64 0) (.int .i64 0) rfl (by kernel_rfl) (by kernel_rfl) rfl ?_
    refine wpList_nil ?_
    refine then_normal ?_
    refine wp_frame (a' := ⟨#[.agg F.cells, .int .i64 c, .pointer (some ⟨g1, 0, none⟩), undef, .int .i64 (F.k ((c).toNat)), .int .i64 0, .int .i64 (code F (isB F c)), .int .i64 c, .int .i64 (code F (isB F c)), .int .i64 (code F (isB F c)), .bool false, undef, .int .i64 c, .pointer (some ⟨g1, 2, none⟩), .pointer (some ⟨g1, 2 + (c).toNat, none⟩), .int .u8 (F.k ((c).toNat)), .int .i64 (F.k ((c).toNat))], []⟩) (by kernel_rfl) ?_
    refine wp_ret ?_
    refine body_frame (a' := ⟨#[.agg F.cells, .int .i64 c, .pointer (some ⟨g1, 0, none⟩), undef, .int .i64 (F.k ((c).toNat)), .int .i64 0, .int .i64 (code F (isB F c)), .int .i64 c, .int .i64 (code F (isB F c)), .int .i64 (code F (isB F c)), .bool false, undef, .int .i64 c, .pointer (some ⟨g1, 2, none⟩), .pointer (some ⟨g1, 2 + (c).toNat, none⟩), .int .u8 (F.k ((c).toNat)), .int .i64 (F.k ((c).toNat))], []⟩) (by kernel_rfl) ?_
    refine ret2 (.int .i64 (if code F (isB F c) = 0 then F.k c.toNat else 0)) (.int .i64 (code F (isB F c))) rfl ?_ ?_ rfl ?_
    · show (.int .i64 (F.k ((c).toNat)) : Value) = (.int .i64 (if code F (isB F c) = 0 then F.k c.toNat else 0))
      refine congrArg (Value.int _) ?_
      simp [*]
    · show (.int .i64 0 : Value) = (.int .i64 (code F (isB F c)))
      refine congrArg (Value.int _) ?_
      simp [*]
    exact ⟨rfl, H2⟩


--# iKindAt_any
theorem iKindAt_any (F : Fld) (hF : F.wf) (c : Int) (w : World) :
 Calls Try.prog 32 #[.agg F.cells, .int .i64 c] w fun e w' => e = .returned (.tuple #[.int .i64 (if code F (isB F c) = 0 then F.k c.toNat else 0), .int .i64 (code F (isB F c))]) ∧ Ext w w' := by
  refine calls_of_wp Try.func32 rfl ?_
  refine wp_frame (a' := ⟨#[.agg F.cells, .int .i64 c, undef, undef, undef, undef, undef, undef, undef, undef, undef, undef, undef, undef, undef, undef, undef], []⟩) (by kernel_rfl) ?_
  refine wp_seq ?_
  refine wp_region_lit ?_
  refine wpl_box (v := .agg F.cells) F.cells rfl (by kernel_rfl) rfl (by kernel_rfl) rfl ?_
  intro g1 w1 B1 E1 hg_
  have lo_g1 : w.heap.size ≤ g1 := Nat.le_trans ((Ext.refl w)).size hg_
  clear hg_
  have H1 := ((Ext.refl w)).trans E1
  clear E1
  refine wpl_box (v := .int .i64 c) #[.int .i64 c] rfl (by kernel_rfl) rfl (by kernel_rfl) rfl ?_
  intro g2 w2 B2 E2 hg_
  have q_g1_g2 : g1 < g2 := Nat.lt_of_lt_of_le B1.lt hg_
  have lo_g2 : w.heap.size ≤ g2 := Nat.le_trans (H1).size hg_
  clear hg_
  replace B1 := B1.ext E2
  have H2 := (H1).trans E2
  clear E2
  refine wpl_val (.int .i64 0) (.int .i64 0) rfl (by kernel_rfl) (by kernel_rfl) rfl ?_
  refine wpl_val (.int .i64 0) (.int .i64 0) rfl (by kernel_rfl) (by kernel_rfl) rfl ?_
  refine wpList_nil ?_
  refine then_normal ?_
  refine wp_frame (a' := ⟨#[.agg F.cells, .int .i64 c, .pointer (some ⟨g1, 0, none⟩), .pointer (some ⟨g2, 0, none⟩), .int .i64 0, .int .i64 0, undef, undef, undef, undef, undef, undef, undef, undef, undef, undef, undef], []⟩) (by kernel_rfl) ?_
  refine wp_seq ?_
  refine wp_seq ?_
  refine wp_region_lit ?_
  refine wpl_val (.func (.func 65) #[] #[.pointer (some ⟨g1, 0, none⟩), .pointer (some ⟨g2, 0, none⟩)]) (.func (.func 65) #[] #[.pointer (some ⟨g1, 0, none⟩), .pointer (some ⟨g2, 0, none⟩)]) rfl (by kernel_rfl) (by kernel_rfl) rfl ?_
  refine wpl_call (64) (#[.pointer (some ⟨g1, 0, none⟩), .func (.func 65) #[] #[.pointer (some ⟨g1, 0, none⟩), .pointer (some ⟨g2, 0, none⟩)]]) rfl (by kernel_rfl) (by kernel_rfl) (fieldCode_any F hF g1 _ (.func (.func 65) #[] #[.pointer (some ⟨g1, 0, none⟩), .pointer (some ⟨g2, 0, none⟩)]) 65 #[.pointer (some ⟨g1, 0, none⟩), .pointer (some ⟨g2, 0, none⟩)] (fun _ => by kernel_rfl) (isB F c) _ B1 (fun _ E_ => KindAt1_any F hF g1 _ c g2 _ _ (B1.ext E_) (B2.ext E_))) ?_
  intro w3 E3
  replace B1 := B1.ext E3
  replace B2 := B2.ext E3
  have H3 := (H2).trans E3
  clear E3
  refine wpl_val (.int .i64 (code F (isB F c))) (.int .i64 (code F (isB F c))) rfl (by kernel_rfl) (by kernel_rfl) rfl ?_
  refine wpList_nil ?_
  refine then_normal ?_
  refine wp_frame (a' := ⟨#[.agg F.cells, .int .i64 c, .pointer (some ⟨g1, 0, none⟩), .pointer (some ⟨g2, 0, none⟩), .int .i64 0, .int .i64 0, .int .i64 (code F (isB F c)), .func (.func 65) #[] #[.pointer (some ⟨g1, 0, none⟩), .pointer (some ⟨g2, 0, none⟩)], .int .i64 (code F (isB F c)), undef, undef, undef, undef, undef, undef, undef, undef], []⟩) (by kernel_rfl) ?_
  refine wp_seq ?_
  refine wp_region_lit ?_
  refine wpl_val (.int .i64 (code F (isB F c))) (.int .i64 (code F (isB F c))) rfl (by kernel_rfl) (by kernel_rfl) rfl ?_
  refine wpl_val (.bool ((code F (isB F c)) != 0)) (.bool ((code F (isB F c)) != 0)) rfl (by kernel_rfl) (by kernel_rfl) rfl ?_
  refine wpList_nil ?_
  refine then_normal ?_
  refine wp_frame (a' := ⟨#[.agg F.cells, .int .i64 c, .pointer (some ⟨g1, 0, none⟩), .pointer (some ⟨g2, 0, none⟩), .int .i64 0, .int .i64 0, .int .i64 (code F (isB F c)), .func (.func 65) #[] #[.pointer (some ⟨g1, 0, none⟩), .pointer (some ⟨g2, 0, none⟩)], .int .i64 (code F (isB F c)), .int .i64 (code F (isB F c)), .bool ((code F (isB F c)) != 0), undef, undef, undef, undef, undef, undef], []⟩) (by kernel_rfl) ?_
  refine wp_cond_split (t := (code F (isB F c)) != 0) rfl (fun h1 => ?_) (fun h1 => ?_)
  · skip
    have hk1 := h1
    try simp only [decide_eq_true_eq, decide_eq_false_iff_not, Bool.and_eq_true, Bool.or_eq_true, Bool.and_eq_false_iff, Bool.or_eq_false_iff, Bool.not_eq_true', Bool.not_eq_false', beq_iff_eq, beq_eq_false_iff_ne, bne_iff_ne, bne_eq_false_iff_eq, gt_iff_lt, ge_iff_le, ne_eq, Decidable.not_not, Int.not_lt, Int.not_le, inB] at h1
    try (have z_ := code_zero h1; simp only [Bool.and_eq_true, isB_true, inB, decide_eq_true_eq] at z_)
    refine wp_seq ?_
    refine wp_region_lit ?_
    refine wpl_val (.int .i64 (code F (isB F c))) (.int .i64 (code F (isB F c))) rfl (by kernel_rfl) (by kernel_rfl) rfl ?_
    refine wpl_frame (a' := ⟨#[.agg F.cells, .int .i64 c, .pointer (some ⟨g1, 0, none⟩), .pointer (some ⟨g2, 0, none⟩), .int .i64 0, .int .i64 0, .int .i64 (code F (isB F c)), .func (.func 65) #[] #[.pointer (some ⟨g1, 0, none⟩), .pointer (some ⟨g2, 0, none⟩)], .int .i64 (code F (isB F c)), .int .i64 (code F (isB F c)), .bool ((code F (isB F c)) != 0), .int .i64 (code F (isB F c)), undef, undef, undef, undef, undef], []⟩) (by kernel_rfl) ?_
    refine wpl_frame (a' := ⟨#[.agg F.cells, .int .i64 c, .pointer (some ⟨g1, 0, none⟩), .pointer (some ⟨g2, 0, none⟩), .int .i64 0, .int .i64 0, .int .i64 (code F (isB F c)), .func (.func 65) #[] #[.pointer (some ⟨g1, 0, none⟩), .pointer (some ⟨g2, 0, none⟩)], .int .i64 (code F (isB F c)), .int .i64 (code F (isB F c)), .bool true, .int .i64 (code F (isB F c)), undef, undef, undef, undef, undef], []⟩) (by simp only [hk1, Bool.not_true, Bool.not_false]) ?_
    refine wpl_val (.int .i64 0) (.int .i64 0) rfl (by kernel_rfl) (by kernel_rfl) rfl ?_
    refine wpl_val (.int .i64 (code F (isB F c))) (.int .i64 (code F (isB F c))) rfl (by kernel_rfl) (by kernel_rfl) rfl ?_
    refine wpList_nil ?_
    refine then_normal ?_
    refine wp_frame (a' := ⟨#[.agg F.cells, .int .i64 c, .pointer (some ⟨g1, 0, none⟩), .pointer (some ⟨g2, 0, none⟩), .int .i64 0, .int .i64 (code F (isB F c)), .int .i64 (code F (isB F c)), .func (.func 65) #[] #[.pointer (some ⟨g1, 0, none⟩), .pointer (some ⟨g2, 0, none⟩)], .int .i64 (code F (isB F c)), .int .i64 (code F (isB F c)), .bool true, .int .i64 (code F (isB F c)), undef, undef, undef, undef, undef], []⟩) (by kernel_rfl) ?_
    refine wp_ret ?_
    refine then_ret ?_
    refine body_frame (a' := ⟨#[.agg F.cells, .int .i64 c, .pointer (some ⟨g1, 0, none⟩), .pointer (some ⟨g2, 0, none⟩), .int .i64 0, .int .i64 (code F (isB F c)), .int .i64 (code F (isB F c)), .func (.func 65) #[] #[.pointer (some ⟨g1, 0, none⟩), .pointer (some ⟨g2, 0, none⟩)], .int .i64 (code F (isB F c)), .int .i64 (code F (isB F c)), .bool true, .int .i64 (code F (isB F c)), undef, undef, undef, undef, undef], []⟩) (by kernel_rfl) ?_
    refine ret2 (.int .i64 (if code F (isB F c) = 0 then F.k c.toNat else 0)) (.int .i64 (code F (isB F c))) rfl ?_ ?_ rfl ?_
    · show (.int .i64 0 : Value) = (.int .i64 (if code F (isB F c) = 0 then F.k c.toNat else 0))
      refine congrArg (Value.int _) ?_
      simp [*]
    · show (.int .i64 (code F (isB F c)) : Value) = (.int .i64 (code F (isB F c)))
      rfl
    exact ⟨rfl, H3⟩
  · skip
    have hk2 := h1
    try simp only [decide_eq_true_eq, decide_eq_false_iff_not, Bool.and_eq_true, Bool.or_eq_true, Bool.and_eq_false_iff, Bool.or_eq_false_iff, Bool.not_eq_true', Bool.not_eq_false', beq_iff_eq, beq_eq_false_iff_ne, bne_iff_ne, bne_eq_false_iff_eq, gt_iff_lt, ge_iff_le, ne_eq, Decidable.not_not, Int.not_lt, Int.not_le, inB] at h1
    try (have z_ := code_zero h1; simp only [Bool.and_eq_true, isB_true, inB, decide_eq_true_eq] at z_)
    refine wp_skip ?_
    refine then_normal ?_
    refine wp_frame (a' := ⟨#[.agg F.cells, .int .i64 c, .pointer (some ⟨g1, 0, none⟩), .pointer (some ⟨g2, 0, none⟩), .int .i64 0, .int .i64 0, .int .i64 (code F (isB F c)), .func (.func 65) #[] #[.pointer (some ⟨g1, 0, none⟩), .pointer (some ⟨g2, 0, none⟩)], .int .i64 (code F (isB F c)), .int .i64 (code F (isB F c)), .bool ((code F (isB F c)) != 0), undef, undef, undef, undef, undef, undef], []⟩) (by kernel_rfl) ?_
    refine wp_seq ?_
    refine wp_region_lit ?_
    refine wpl_cell (g := g2) (off := 0) (.int .i64 c) rfl (by kernel_rfl) scal_int64 rfl (by kernel_rfl) (by rw [B2.cell]; rfl) ?_
    refine wpl_frame (a' := ⟨#[.agg F.cells, .int .i64 c, .pointer (some ⟨g1, 0, none⟩), .pointer (some ⟨g2, 0, none⟩), .int .i64 0, .int .i64 0, .int .i64 (code F (isB F c)), .func (.func 65) #[] #[.pointer (some ⟨g1, 0, none⟩), .pointer (some ⟨g2, 0, none⟩)], .int .i64 (code F (isB F c)), .int .i64 (code F (isB F c)), .bool ((code F (isB F c)) != 0), undef, .int .i64 c, undef, undef, undef, undef], []⟩) (by kernel_rfl) ?_
    refine wpl_frame (a' := ⟨#[.agg F.cells, .int .i64 c, .pointer (some ⟨g1, 0, none⟩), .pointer (some ⟨g2, 0, none⟩), .int .i64 0, .int .i64 0, .int .i64 (code F (isB F c)), .func (.func 65) #[] #[.pointer (some ⟨g1, 0, none⟩), .pointer (some ⟨g2, 0, none⟩)], .int .i64 (code F (isB F c)), .int .i64 (code F (isB F c)), .bool false, undef, .int .i64 c, undef, undef, undef, undef], []⟩) (by simp only [hk2, Bool.not_true, Bool.not_false]) ?_
    refine wpl_val (.pointer (some ⟨g1, 2, none⟩)) (.pointer (some ⟨g1, 2, none⟩)) rfl (by kernel_rfl) (by kernel_rfl) rfl ?_
    refine wpl_ixa (i := c) (k := .i64) (g := g1) (off := 2) rfl (by kernel_rfl) arrt__100_uint8 rfl (by kernel_rfl) (by kernel_rfl) (by omega) (by omega) ?_
    have ce1 := hF.k1 ((c).toNat) (by omega)
    refine wpl_cell (g := g1) (off := 2 + (c).toNat) (.int .u8 (F.k ((c).toNat))) rfl (by kernel_rfl) scal_uint8 rfl (by kernel_rfl) (by rw [B1.cell]; exact Fld.getk _ _ (by omega)) ?_
    refine wpl_val (.int .i64 (IntKind.i64.wrap (F.k ((c).toNat)))) (.int .i64 (F.k ((c).toNat))) rfl (by kernel_rfl) (by kernel_rfl) (by exact congrArg _ (IntWalk.i64_in _ (by omega))) ?_
    refine wpl_val (.int .i64 (F.k ((c).toNat))) (.int .i64 (F.k ((c).toNat))) rfl (by kernel_rfl) (by kernel_rfl) rfl ?_
    refine wpl_val (.int .i64 0) (.int .i64 0) rfl (by kernel_rfl) (by kernel_rfl) rfl ?_
    refine wpList_nil ?_
    refine then_normal ?_
    refine wp_frame (a' := ⟨#[.agg F.cells, .int .i64 c, .pointer (some ⟨g1, 0, none⟩), .pointer (some ⟨g2, 0, none⟩), .int .i64 (F.k ((c).toNat)), .int .i64 0, .int .i64 (code F (isB F c)), .func (.func 65) #[] #[.pointer (some ⟨g1, 0, none⟩), .pointer (some ⟨g2, 0, none⟩)], .int .i64 (code F (isB F c)), .int .i64 (code F (isB F c)), .bool false, undef, .int .i64 c, .pointer (some ⟨g1, 2, none⟩), .pointer (some ⟨g1, 2 + (c).toNat, none⟩), .int .u8 (F.k ((c).toNat)), .int .i64 (F.k ((c).toNat))], []⟩) (by kernel_rfl) ?_
    refine wp_ret ?_
    refine body_frame (a' := ⟨#[.agg F.cells, .int .i64 c, .pointer (some ⟨g1, 0, none⟩), .pointer (some ⟨g2, 0, none⟩), .int .i64 (F.k ((c).toNat)), .int .i64 0, .int .i64 (code F (isB F c)), .func (.func 65) #[] #[.pointer (some ⟨g1, 0, none⟩), .pointer (some ⟨g2, 0, none⟩)], .int .i64 (code F (isB F c)), .int .i64 (code F (isB F c)), .bool false, undef, .int .i64 c, .pointer (some ⟨g1, 2, none⟩), .pointer (some ⟨g1, 2 + (c).toNat, none⟩), .int .u8 (F.k ((c).toNat)), .int .i64 (F.k ((c).toNat))], []⟩) (by kernel_rfl) ?_
    refine ret2 (.int .i64 (if code F (isB F c) = 0 then F.k c.toNat else 0)) (.int .i64 (code F (isB F c))) rfl ?_ ?_ rfl ?_
    · show (.int .i64 (F.k ((c).toNat)) : Value) = (.int .i64 (if code F (isB F c) = 0 then F.k c.toNat else 0))
      refine congrArg (Value.int _) ?_
      simp [*]
    · show (.int .i64 0 : Value) = (.int .i64 (code F (isB F c)))
      refine congrArg (Value.int _) ?_
      simp [*]
    exact ⟨rfl, H3⟩


--# sSeedsAt_any
theorem sSeedsAt_any (F : Fld) (hF : F.wf) (c : Int) (w : World) :
 Calls Try.prog 33 #[.agg F.cells, .int .i64 c] w fun e w' => e = .returned (.tuple #[.int .i64 (if code F (isB F c) = 0 then F.s c.toNat else 0), .int .i64 (code F (isB F c))]) ∧ Ext w w' := by
  refine calls_of_wp Try.func33 rfl ?_
  refine wp_frame (a' := ⟨#[.agg F.cells, .int .i64 c, undef, undef, undef, undef, undef, undef, undef, undef, undef, undef, undef, undef, undef, undef, undef], []⟩) (by kernel_rfl) ?_
  refine wp_seq ?_
  refine wp_region_lit ?_
  refine wpl_box (v := .agg F.cells) F.cells rfl (by kernel_rfl) rfl (by kernel_rfl) rfl ?_
  intro g1 w1 B1 E1 hg_
  have lo_g1 : w.heap.size ≤ g1 := Nat.le_trans ((Ext.refl w)).size hg_
  clear hg_
  have H1 := ((Ext.refl w)).trans E1
  clear E1
  refine wpl_val (.int .i64 0) (.int .i64 0) rfl (by kernel_rfl) (by kernel_rfl) rfl ?_
  refine wpl_val (.int .i64 0) (.int .i64 0) rfl (by kernel_rfl) (by kernel_rfl) rfl ?_
  refine wpList_nil ?_
  refine then_normal ?_
  refine wp_frame (a' := ⟨#[.agg F.cells, .int .i64 c, .pointer (some ⟨g1, 0, none⟩), undef, .int .i64 0, .int .i64 0, undef, undef, undef, undef, undef, undef, undef, undef, undef, undef, undef], []⟩) (by kernel_rfl) ?_
  refine wp_seq ?_
  refine wp_seq ?_
  refine wp_region_lit ?_
  refine wpl_val (.int .i64 c) (.int .i64 c) rfl (by kernel_rfl) (by kernel_rfl) rfl ?_
  refine wpl_call (63) #[.pointer (some ⟨g1, 0, none⟩), .int .i64 c, .bool true] rfl (by kernel_rfl) (by kernel_rfl) (l01Asked_any F hF g1 _ c true (isB F c) (Bool.and_true _) _ B1) ?_
  intro w2 E2
  replace B1 := B1.ext E2
  have H2 := (H1).trans E2
  clear E2
  refine wpl_val (.int .i64 (code F (isB F c))) (.int .i64 (code F (isB F c))) rfl (by kernel_rfl) (by kernel_rfl) rfl ?_
  refine wpList_nil ?_
  refine then_normal ?_
  refine wp_frame (a' := ⟨#[.agg F.cells, .int .i64 c, .pointer (some ⟨g1, 0, none⟩), undef, .int .i64 0, .int .i64 0, .int .i64 (code F (isB F c)), .int .i64 c, .int .i64 (code F (isB F c)), undef, undef, undef, undef, undef, undef, undef, undef], []⟩) (by kernel_rfl) ?_
  refine wp_seq ?_
  refine wp_region_lit ?_
  refine wpl_val (.int .i64 (code F (isB F c))) (.int .i64 (code F (isB F c))) rfl (by kernel_rfl) (by kernel_rfl) rfl ?_
  refine wpl_val (.bool ((code F (isB F c)) != 0)) (.bool ((code F (isB F c)) != 0)) rfl (by kernel_rfl) (by kernel_rfl) rfl ?_
  refine wpList_nil ?_
  refine then_normal ?_
  refine wp_frame (a' := ⟨#[.agg F.cells, .int .i64 c, .pointer (some ⟨g1, 0, none⟩), undef, .int .i64 0, .int .i64 0, .int .i64 (code F (isB F c)), .int .i64 c, .int .i64 (code F (isB F c)), .int .i64 (code F (isB F c)), .bool ((code F (isB F c)) != 0), undef, undef, undef, undef, undef, undef], []⟩) (by kernel_rfl) ?_
  refine wp_cond_split (t := (code F (isB F c)) != 0) rfl (fun h1 => ?_) (fun h1 => ?_)
  · skip
    have hk1 := h1
    try simp only [decide_eq_true_eq, decide_eq_false_iff_not, Bool.and_eq_true, Bool.or_eq_true, Bool.and_eq_false_iff, Bool.or_eq_false_iff, Bool.not_eq_true', Bool.not_eq_false', beq_iff_eq, beq_eq_false_iff_ne, bne_iff_ne, bne_eq_false_iff_eq, gt_iff_lt, ge_iff_le, ne_eq, Decidable.not_not, Int.not_lt, Int.not_le, inB] at h1
    try (have z_ := code_zero h1; simp only [Bool.and_eq_true, isB_true, inB, decide_eq_true_eq] at z_)
    refine wp_seq ?_
    refine wp_region_lit ?_
    refine wpl_val (.int .i64 (code F (isB F c))) (.int .i64 (code F (isB F c))) rfl (by kernel_rfl) (by kernel_rfl) rfl ?_
    refine wpl_frame (a' := ⟨#[.agg F.cells, .int .i64 c, .pointer (some ⟨g1, 0, none⟩), undef, .int .i64 0, .int .i64 0, .int .i64 (code F (isB F c)), .int .i64 c, .int .i64 (code F (isB F c)), .int .i64 (code F (isB F c)), .bool ((code F (isB F c)) != 0), .int .i64 (code F (isB F c)), undef, undef, undef, undef, undef], []⟩) (by kernel_rfl) ?_
    refine wpl_frame (a' := ⟨#[.agg F.cells, .int .i64 c, .pointer (some ⟨g1, 0, none⟩), undef, .int .i64 0, .int .i64 0, .int .i64 (code F (isB F c)), .int .i64 c, .int .i64 (code F (isB F c)), .int .i64 (code F (isB F c)), .bool true, .int .i64 (code F (isB F c)), undef, undef, undef, undef, undef], []⟩) (by simp only [hk1, Bool.not_true, Bool.not_false]) ?_
    refine wpl_val (.int .i64 0) (.int .i64 0) rfl (by kernel_rfl) (by kernel_rfl) rfl ?_
    refine wpl_val (.int .i64 (code F (isB F c))) (.int .i64 (code F (isB F c))) rfl (by kernel_rfl) (by kernel_rfl) rfl ?_
    refine wpList_nil ?_
    refine then_normal ?_
    refine wp_frame (a' := ⟨#[.agg F.cells, .int .i64 c, .pointer (some ⟨g1, 0, none⟩), undef, .int .i64 0, .int .i64 (code F (isB F c)), .int .i64 (code F (isB F c)), .int .i64 c, .int .i64 (code F (isB F c)), .int .i64 (code F (isB F c)), .bool true, .int .i64 (code F (isB F c)), undef, undef, undef, undef, undef], []⟩) (by kernel_rfl) ?_
    refine wp_ret ?_
    refine then_ret ?_
    refine body_frame (a' := ⟨#[.agg F.cells, .int .i64 c, .pointer (some ⟨g1, 0, none⟩), undef, .int .i64 0, .int .i64 (code F (isB F c)), .int .i64 (code F (isB F c)), .int .i64 c, .int .i64 (code F (isB F c)), .int .i64 (code F (isB F c)), .bool true, .int .i64 (code F (isB F c)), undef, undef, undef, undef, undef], []⟩) (by kernel_rfl) ?_
    refine ret2 (.int .i64 (if code F (isB F c) = 0 then F.s c.toNat else 0)) (.int .i64 (code F (isB F c))) rfl ?_ ?_ rfl ?_
    · show (.int .i64 0 : Value) = (.int .i64 (if code F (isB F c) = 0 then F.s c.toNat else 0))
      refine congrArg (Value.int _) ?_
      simp [*]
    · show (.int .i64 (code F (isB F c)) : Value) = (.int .i64 (code F (isB F c)))
      rfl
    exact ⟨rfl, H2⟩
  · skip
    have hk2 := h1
    try simp only [decide_eq_true_eq, decide_eq_false_iff_not, Bool.and_eq_true, Bool.or_eq_true, Bool.and_eq_false_iff, Bool.or_eq_false_iff, Bool.not_eq_true', Bool.not_eq_false', beq_iff_eq, beq_eq_false_iff_ne, bne_iff_ne, bne_eq_false_iff_eq, gt_iff_lt, ge_iff_le, ne_eq, Decidable.not_not, Int.not_lt, Int.not_le, inB] at h1
    try (have z_ := code_zero h1; simp only [Bool.and_eq_true, isB_true, inB, decide_eq_true_eq] at z_)
    refine wp_skip ?_
    refine then_normal ?_
    refine wp_frame (a' := ⟨#[.agg F.cells, .int .i64 c, .pointer (some ⟨g1, 0, none⟩), undef, .int .i64 0, .int .i64 0, .int .i64 (code F (isB F c)), .int .i64 c, .int .i64 (code F (isB F c)), .int .i64 (code F (isB F c)), .bool ((code F (isB F c)) != 0), undef, undef, undef, undef, undef, undef], []⟩) (by kernel_rfl) ?_
    refine wp_seq ?_
    refine wp_region_lit ?_
    refine wpl_val (.int .i64 c) (.int .i64 c) rfl (by kernel_rfl) (by kernel_rfl) rfl ?_
    refine wpl_frame (a' := ⟨#[.agg F.cells, .int .i64 c, .pointer (some ⟨g1, 0, none⟩), undef, .int .i64 0, .int .i64 0, .int .i64 (code F (isB F c)), .int .i64 c, .int .i64 (code F (isB F c)), .int .i64 (code F (isB F c)), .bool ((code F (isB F c)) != 0), undef, .int .i64 c, undef, undef, undef, undef], []⟩) (by kernel_rfl) ?_
    refine wpl_frame (a' := ⟨#[.agg F.cells, .int .i64 c, .pointer (some ⟨g1, 0, none⟩), undef, .int .i64 0, .int .i64 0, .int .i64 (code F (isB F c)), .int .i64 c, .int .i64 (code F (isB F c)), .int .i64 (code F (isB F c)), .bool false, undef, .int .i64 c, undef, undef, undef, undef], []⟩) (by simp only [hk2, Bool.not_true, Bool.not_false]) ?_
    refine wpl_val (.pointer (some ⟨g1, 102, none⟩)) (.pointer (some ⟨g1, 102, none⟩)) rfl (by kernel_rfl) (by kernel_rfl) rfl ?_
    refine wpl_ixa (i := c) (k := .i64) (g := g1) (off := 102) rfl (by kernel_rfl) arrt__100_int16 rfl (by kernel_rfl) (by kernel_rfl) (by omega) (by omega) ?_
    have ce1 := hF.s1 ((c).toNat) (by omega)
    refine wpl_cell (g := g1) (off := 102 + (c).toNat) (.int .i16 (F.s ((c).toNat))) rfl (by kernel_rfl) scal_int16 rfl (by kernel_rfl) (by rw [B1.cell]; exact Fld.gets _ _ (by omega)) ?_
    refine wpl_val (.int .i64 (IntKind.i64.wrap (F.s ((c).toNat)))) (.int .i64 (F.s ((c).toNat))) rfl (by kernel_rfl) (by kernel_rfl) (by exact congrArg _ (IntWalk.i64_in _ (by omega))) ?_
    refine wpl_val (.int .i64 (F.s ((c).toNat))) (.int .i64 (F.s ((c).toNat))) rfl (by kernel_rfl) (by kernel_rfl) rfl ?_
    refine wpl_val (.int .i64 0) (.int .i64 0) rfl (by kernel_rfl) (by kernel_rfl) rfl ?_
    refine wpList_nil ?_
    refine then_normal ?_
    refine wp_frame (a' := ⟨#[.agg F.cells, .int .i64 c, .pointer (some ⟨g1, 0, none⟩), undef, .int .i64 (F.s ((c).toNat)), .int .i64 0, .int .i64 (code F (isB F c)), .int .i64 c, .int .i64 (code F (isB F c)), .int .i64 (code F (isB F c)), .bool false, undef, .int .i64 c, .pointer (some ⟨g1, 102, none⟩), .pointer (some ⟨g1, 102 + (c).toNat, none⟩), .int .i16 (F.s ((c).toNat)), .int .i64 (F.s ((c).toNat))], []⟩) (by kernel_rfl) ?_
    refine wp_ret ?_
    refine body_frame (a' := ⟨#[.agg F.cells, .int .i64 c, .pointer (some ⟨g1, 0, none⟩), undef, .int .i64 (F.s ((c).toNat)), .int .i64 0, .int .i64 (code F (isB F c)), .int .i64 c, .int .i64 (code F (isB F c)), .int .i64 (code F (isB F c)), .bool false, undef, .int .i64 c, .pointer (some ⟨g1, 102, none⟩), .pointer (some ⟨g1, 102 + (c).toNat, none⟩), .int .i16 (F.s ((c).toNat)), .int .i64 (F.s ((c).toNat))], []⟩) (by kernel_rfl) ?_
    refine ret2 (.int .i64 (if code F (isB F c) = 0 then F.s c.toNat else 0)) (.int .i64 (code F (isB F c))) rfl ?_ ?_ rfl ?_
    · show (.int .i64 (F.s ((c).toNat)) : Value) = (.int .i64 (if code F (isB F c) = 0 then F.s c.toNat else 0))
      refine congrArg (Value.int _) ?_
      simp [*]
    · show (.int .i64 0 : Value) = (.int .i64 (code F (isB F c)))
      refine congrArg (Value.int _) ?_
      simp [*]
    exact ⟨rfl, H2⟩


--# iSeedsAt_any
theorem iSeedsAt_any (F : Fld) (hF : F.wf) (c : Int) (w : World) :
 Calls Try.prog 34 #[.agg F.cells, .int .i64 c] w fun e w' => e = .returned (.tuple #[.int .i64 (if code F (isB F c) = 0 then F.s c.toNat else 0), .int .i64 (code F (isB F c))]) ∧ Ext w w' := by
  refine calls_of_wp Try.func34 rfl ?_
  refine wp_frame (a' := ⟨#[.agg F.cells, .int .i64 c, undef, undef, undef, undef, undef, undef, undef, undef, undef, undef, undef, undef, undef, undef, undef], []⟩) (by kernel_rfl) ?_
  refine wp_seq ?_
  refine wp_region_lit ?_
  refine wpl_box (v := .agg F.cells) F.cells rfl (by kernel_rfl) rfl (by kernel_rfl) rfl ?_
  intro g1 w1 B1 E1 hg_
  have lo_g1 : w.heap.size ≤ g1 := Nat.le_trans ((Ext.refl w)).size hg_
  clear hg_
  have H1 := ((Ext.refl w)).trans E1
  clear E1
  refine wpl_box (v := .int .i64 c) #[.int .i64 c] rfl (by kernel_rfl) rfl (by kernel_rfl) rfl ?_
  intro g2 w2 B2 E2 hg_
  have q_g1_g2 : g1 < g2 := Nat.lt_of_lt_of_le B1.lt hg_
  have lo_g2 : w.heap.size ≤ g2 := Nat.le_trans (H1).size hg_
  clear hg_
  replace B1 := B1.ext E2
  have H2 := (H1).trans E2
  clear E2
  refine wpl_val (.int .i64 0) (.int .i64 0) rfl (by kernel_rfl) (by kernel_rfl) rfl ?_
  refine wpl_val (.int .i64 0) (.int .i64 0) rfl (by kernel_rfl) (by kernel_rfl) rfl ?_
  refine wpList_nil ?_
  refine then_normal ?_
  refine wp_frame (a' := ⟨#[.agg F.cells, .int .i64 c, .pointer (some ⟨g1, 0, none⟩), .pointer (some ⟨g2, 0, none⟩), .int .i64 0, .int .i64 0, undef, undef, undef, undef, undef, undef, undef, undef, undef, undef, undef], []⟩) (by kernel_rfl) ?_
  refine wp_seq ?_
  refine wp_seq ?_
  refine wp_region_lit ?_
  refine wpl_val (.func (.func 66) #[] #[.pointer (some ⟨g1, 0, none⟩), .pointer (some ⟨g2, 0, none⟩)]) (.func (.func 66) #[] #[.pointer (some ⟨g1, 0, none⟩), .pointer (some ⟨g2, 0, none⟩)]) rfl (by kernel_rfl) (by kernel_rfl) rfl ?_
  refine wpl_call (64) (#[.pointer (some ⟨g1, 0, none⟩), .func (.func 66) #[] #[.pointer (some ⟨g1, 0, none⟩), .pointer (some ⟨g2, 0, none⟩)]]) rfl (by kernel_rfl) (by kernel_rfl) (fieldCode_any F hF g1 _ (.func (.func 66) #[] #[.pointer (some ⟨g1, 0, none⟩), .pointer (some ⟨g2, 0, none⟩)]) 66 #[.pointer (some ⟨g1, 0, none⟩), .pointer (some ⟨g2, 0, none⟩)] (fun _ => by kernel_rfl) (isB F c) _ B1 (fun _ E_ => SeedsAt1_any F hF g1 _ c g2 _ _ (B1.ext E_) (B2.ext E_))) ?_
  intro w3 E3
  replace B1 := B1.ext E3
  replace B2 := B2.ext E3
  have H3 := (H2).trans E3
  clear E3
  refine wpl_val (.int .i64 (code F (isB F c))) (.int .i64 (code F (isB F c))) rfl (by kernel_rfl) (by kernel_rfl) rfl ?_
  refine wpList_nil ?_
  refine then_normal ?_
  refine wp_frame (a' := ⟨#[.agg F.cells, .int .i64 c, .pointer (some ⟨g1, 0, none⟩), .pointer (some ⟨g2, 0, none⟩), .int .i64 0, .int .i64 0, .int .i64 (code F (isB F c)), .func (.func 66) #[] #[.pointer (some ⟨g1, 0, none⟩), .pointer (some ⟨g2, 0, none⟩)], .int .i64 (code F (isB F c)), undef, undef, undef, undef, undef, undef, undef, undef], []⟩) (by kernel_rfl) ?_
  refine wp_seq ?_
  refine wp_region_lit ?_
  refine wpl_val (.int .i64 (code F (isB F c))) (.int .i64 (code F (isB F c))) rfl (by kernel_rfl) (by kernel_rfl) rfl ?_
  refine wpl_val (.bool ((code F (isB F c)) != 0)) (.bool ((code F (isB F c)) != 0)) rfl (by kernel_rfl) (by kernel_rfl) rfl ?_
  refine wpList_nil ?_
  refine then_normal ?_
  refine wp_frame (a' := ⟨#[.agg F.cells, .int .i64 c, .pointer (some ⟨g1, 0, none⟩), .pointer (some ⟨g2, 0, none⟩), .int .i64 0, .int .i64 0, .int .i64 (code F (isB F c)), .func (.func 66) #[] #[.pointer (some ⟨g1, 0, none⟩), .pointer (some ⟨g2, 0, none⟩)], .int .i64 (code F (isB F c)), .int .i64 (code F (isB F c)), .bool ((code F (isB F c)) != 0), undef, undef, undef, undef, undef, undef], []⟩) (by kernel_rfl) ?_
  refine wp_cond_split (t := (code F (isB F c)) != 0) rfl (fun h1 => ?_) (fun h1 => ?_)
  · skip
    have hk1 := h1
    try simp only [decide_eq_true_eq, decide_eq_false_iff_not, Bool.and_eq_true, Bool.or_eq_true, Bool.and_eq_false_iff, Bool.or_eq_false_iff, Bool.not_eq_true', Bool.not_eq_false', beq_iff_eq, beq_eq_false_iff_ne, bne_iff_ne, bne_eq_false_iff_eq, gt_iff_lt, ge_iff_le, ne_eq, Decidable.not_not, Int.not_lt, Int.not_le, inB] at h1
    try (have z_ := code_zero h1; simp only [Bool.and_eq_true, isB_true, inB, decide_eq_true_eq] at z_)
    refine wp_seq ?_
    refine wp_region_lit ?_
    refine wpl_val (.int .i64 (code F (isB F c))) (.int .i64 (code F (isB F c))) rfl (by kernel_rfl) (by kernel_rfl) rfl ?_
    refine wpl_frame (a' := ⟨#[.agg F.cells, .int .i64 c, .pointer (some ⟨g1, 0, none⟩), .pointer (some ⟨g2, 0, none⟩), .int .i64 0, .int .i64 0, .int .i64 (code F (isB F c)), .func (.func 66) #[] #[.pointer (some ⟨g1, 0, none⟩), .pointer (some ⟨g2, 0, none⟩)], .int .i64 (code F (isB F c)), .int .i64 (code F (isB F c)), .bool ((code F (isB F c)) != 0), .int .i64 (code F (isB F c)), undef, undef, undef, undef, undef], []⟩) (by kernel_rfl) ?_
    refine wpl_frame (a' := ⟨#[.agg F.cells, .int .i64 c, .pointer (some ⟨g1, 0, none⟩), .pointer (some ⟨g2, 0, none⟩), .int .i64 0, .int .i64 0, .int .i64 (code F (isB F c)), .func (.func 66) #[] #[.pointer (some ⟨g1, 0, none⟩), .pointer (some ⟨g2, 0, none⟩)], .int .i64 (code F (isB F c)), .int .i64 (code F (isB F c)), .bool true, .int .i64 (code F (isB F c)), undef, undef, undef, undef, undef], []⟩) (by simp only [hk1, Bool.not_true, Bool.not_false]) ?_
    refine wpl_val (.int .i64 0) (.int .i64 0) rfl (by kernel_rfl) (by kernel_rfl) rfl ?_
    refine wpl_val (.int .i64 (code F (isB F c))) (.int .i64 (code F (isB F c))) rfl (by kernel_rfl) (by kernel_rfl) rfl ?_
    refine wpList_nil ?_
    refine then_normal ?_
    refine wp_frame (a' := ⟨#[.agg F.cells, .int .i64 c, .pointer (some ⟨g1, 0, none⟩), .pointer (some ⟨g2, 0, none⟩), .int .i64 0, .int .i64 (code F (isB F c)), .int .i64 (code F (isB F c)), .func (.func 66) #[] #[.pointer (some ⟨g1, 0, none⟩), .pointer (some ⟨g2, 0, none⟩)], .int .i64 (code F (isB F c)), .int .i64 (code F (isB F c)), .bool true, .int .i64 (code F (isB F c)), undef, undef, undef, undef, undef], []⟩) (by kernel_rfl) ?_
    refine wp_ret ?_
    refine then_ret ?_
    refine body_frame (a' := ⟨#[.agg F.cells, .int .i64 c, .pointer (some ⟨g1, 0, none⟩), .pointer (some ⟨g2, 0, none⟩), .int .i64 0, .int .i64 (code F (isB F c)), .int .i64 (code F (isB F c)), .func (.func 66) #[] #[.pointer (some ⟨g1, 0, none⟩), .pointer (some ⟨g2, 0, none⟩)], .int .i64 (code F (isB F c)), .int .i64 (code F (isB F c)), .bool true, .int .i64 (code F (isB F c)), undef, undef, undef, undef, undef], []⟩) (by kernel_rfl) ?_
    refine ret2 (.int .i64 (if code F (isB F c) = 0 then F.s c.toNat else 0)) (.int .i64 (code F (isB F c))) rfl ?_ ?_ rfl ?_
    · show (.int .i64 0 : Value) = (.int .i64 (if code F (isB F c) = 0 then F.s c.toNat else 0))
      refine congrArg (Value.int _) ?_
      simp [*]
    · show (.int .i64 (code F (isB F c)) : Value) = (.int .i64 (code F (isB F c)))
      rfl
    exact ⟨rfl, H3⟩
  · skip
    have hk2 := h1
    try simp only [decide_eq_true_eq, decide_eq_false_iff_not, Bool.and_eq_true, Bool.or_eq_true, Bool.and_eq_false_iff, Bool.or_eq_false_iff, Bool.not_eq_true', Bool.not_eq_false', beq_iff_eq, beq_eq_false_iff_ne, bne_iff_ne, bne_eq_false_iff_eq, gt_iff_lt, ge_iff_le, ne_eq, Decidable.not_not, Int.not_lt, Int.not_le, inB] at h1
    try (have z_ := code_zero h1; simp only [Bool.and_eq_true, isB_true, inB, decide_eq_true_eq] at z_)
    refine wp_skip ?_
    refine then_normal ?_
    refine wp_frame (a' := ⟨#[.agg F.cells, .int .i64 c, .pointer (some ⟨g1, 0, none⟩), .pointer (some ⟨g2, 0, none⟩), .int .i64 0, .int .i64 0, .int .i64 (code F (isB F c)), .func (.func 66) #[] #[.pointer (some ⟨g1, 0, none⟩), .pointer (some ⟨g2, 0, none⟩)], .int .i64 (code F (isB F c)), .int .i64 (code F (isB F c)), .bool ((code F (isB F c)) != 0), undef, undef, undef, undef, undef, undef], []⟩) (by kernel_rfl) ?_
    refine wp_seq ?_
    refine wp_region_lit ?_
    refine wpl_cell (g := g2) (off := 0) (.int .i64 c) rfl (by kernel_rfl) scal_int64 rfl (by kernel_rfl) (by rw [B2.cell]; rfl) ?_
    refine wpl_frame (a' := ⟨#[.agg F.cells, .int .i64 c, .pointer (some ⟨g1, 0, none⟩), .pointer (some ⟨g2, 0, none⟩), .int .i64 0, .int .i64 0, .int .i64 (code F (isB F c)), .func (.func 66) #[] #[.pointer (some ⟨g1, 0, none⟩), .pointer (some ⟨g2, 0, none⟩)], .int .i64 (code F (isB F c)), .int .i64 (code F (isB F c)), .bool ((code F (isB F c)) != 0), undef, .int .i64 c, undef, undef, undef, undef], []⟩) (by kernel_rfl) ?_
    refine wpl_frame (a' := ⟨#[.agg F.cells, .int .i64 c, .pointer (some ⟨g1, 0, none⟩), .pointer (some ⟨g2, 0, none⟩), .int .i64 0, .int .i64 0, .int .i64 (code F (isB F c)), .func (.func 66) #[] #[.pointer (some ⟨g1, 0, none⟩), .pointer (some ⟨g2, 0, none⟩)], .int .i64 (code F (isB F c)), .int .i64 (code F (isB F c)), .bool false, undef, .int .i64 c, undef, undef, undef, undef], []⟩) (by simp only [hk2, Bool.not_true, Bool.not_false]) ?_
    refine wpl_val (.pointer (some ⟨g1, 102, none⟩)) (.pointer (some ⟨g1, 102, none⟩)) rfl (by kernel_rfl) (by kernel_rfl) rfl ?_
    refine wpl_ixa (i := c) (k := .i64) (g := g1) (off := 102) rfl (by kernel_rfl) arrt__100_int16 rfl (by kernel_rfl) (by kernel_rfl) (by omega) (by omega) ?_
    have ce1 := hF.s1 ((c).toNat) (by omega)
    refine wpl_cell (g := g1) (off := 102 + (c).toNat) (.int .i16 (F.s ((c).toNat))) rfl (by kernel_rfl) scal_int16 rfl (by kernel_rfl) (by rw [B1.cell]; exact Fld.gets _ _ (by omega)) ?_
    refine wpl_val (.int .i64 (IntKind.i64.wrap (F.s ((c).toNat)))) (.int .i64 (F.s ((c).toNat))) rfl (by kernel_rfl) (by kernel_rfl) (by exact congrArg _ (IntWalk.i64_in _ (by omega))) ?_
    refine wpl_val (.int .i64 (F.s ((c).toNat))) (.int .i64 (F.s ((c).toNat))) rfl (by kernel_rfl) (by kernel_rfl) rfl ?_
    refine wpl_val (.int .i64 0) (.int .i64 0) rfl (by kernel_rfl) (by kernel_rfl) rfl ?_
    refine wpList_nil ?_
    refine then_normal ?_
    refine wp_frame (a' := ⟨#[.agg F.cells, .int .i64 c, .pointer (some ⟨g1, 0, none⟩), .pointer (some ⟨g2, 0, none⟩), .int .i64 (F.s ((c).toNat)), .int .i64 0, .int .i64 (code F (isB F c)), .func (.func 66) #[] #[.pointer (some ⟨g1, 0, none⟩), .pointer (some ⟨g2, 0, none⟩)], .int .i64 (code F (isB F c)), .int .i64 (code F (isB F c)), .bool false, undef, .int .i64 c, .pointer (some ⟨g1, 102, none⟩), .pointer (some ⟨g1, 102 + (c).toNat, none⟩), .int .i16 (F.s ((c).toNat)), .int .i64 (F.s ((c).toNat))], []⟩) (by kernel_rfl) ?_
    refine wp_ret ?_
    refine body_frame (a' := ⟨#[.agg F.cells, .int .i64 c, .pointer (some ⟨g1, 0, none⟩), .pointer (some ⟨g2, 0, none⟩), .int .i64 (F.s ((c).toNat)), .int .i64 0, .int .i64 (code F (isB F c)), .func (.func 66) #[] #[.pointer (some ⟨g1, 0, none⟩), .pointer (some ⟨g2, 0, none⟩)], .int .i64 (code F (isB F c)), .int .i64 (code F (isB F c)), .bool false, undef, .int .i64 c, .pointer (some ⟨g1, 102, none⟩), .pointer (some ⟨g1, 102 + (c).toNat, none⟩), .int .i16 (F.s ((c).toNat)), .int .i64 (F.s ((c).toNat))], []⟩) (by kernel_rfl) ?_
    refine ret2 (.int .i64 (if code F (isB F c) = 0 then F.s c.toNat else 0)) (.int .i64 (code F (isB F c))) rfl ?_ ?_ rfl ?_
    · show (.int .i64 (F.s ((c).toNat)) : Value) = (.int .i64 (if code F (isB F c) = 0 then F.s c.toNat else 0))
      refine congrArg (Value.int _) ?_
      simp [*]
    · show (.int .i64 0 : Value) = (.int .i64 (code F (isB F c)))
      refine congrArg (Value.int _) ?_
      simp [*]
    exact ⟨rfl, H3⟩


--# sSquareOf_any
theorem sSquareOf_any (F : Fld) (hF : F.wf) (a : Int) (b : Int) (w : World) :
 Calls Try.prog 35 #[.agg F.cells, .int .i64 a, .int .i64 b] w fun e w' => e = .returned (.tuple #[.int .i64 (if code F (isB F a && isB F b) = 0 then sqr a b else 0), .int .i64 (code F (isB F a && isB F b))]) ∧ Ext w w' := by
  refine calls_of_wp Try.func35 rfl ?_
  refine wp_frame (a' := ⟨#[.agg F.cells, .int .i64 a, .int .i64 b, undef, undef, undef, undef, undef, undef, undef, undef, undef, undef, undef, undef, undef, undef, undef, undef], []⟩) (by kernel_rfl) ?_
  refine wp_seq ?_
  refine wp_region_lit ?_
  refine wpl_box (v := .agg F.cells) F.cells rfl (by kernel_rfl) rfl (by kernel_rfl) rfl ?_
  intro g1 w1 B1 E1 hg_
  have lo_g1 : w.heap.size ≤ g1 := Nat.le_trans ((Ext.refl w)).size hg_
  clear hg_
  have H1 := ((Ext.refl w)).trans E1
  clear E1
  refine wpl_val (.int .i64 0) (.int .i64 0) rfl (by kernel_rfl) (by kernel_rfl) rfl ?_
  refine wpl_val (.int .i64 0) (.int .i64 0) rfl (by kernel_rfl) (by kernel_rfl) rfl ?_
  refine wpList_nil ?_
  refine then_normal ?_
  refine wp_frame (a' := ⟨#[.agg F.cells, .int .i64 a, .int .i64 b, .pointer (some ⟨g1, 0, none⟩), undef, undef, .int .i64 0, .int .i64 0, undef, undef, undef, undef, undef, undef, undef, undef, undef, undef, undef], []⟩) (by kernel_rfl) ?_
  refine wp_seq ?_
  refine wp_seq ?_
  refine wp_region_lit ?_
  refine wpl_val (.int .i64 a) (.int .i64 a) rfl (by kernel_rfl) (by kernel_rfl) rfl ?_
  refine wpl_val (.int .i64 b) (.int .i64 b) rfl (by kernel_rfl) (by kernel_rfl) rfl ?_
  refine wpl_call (57) #[.pointer (some ⟨g1, 0, none⟩), .int .i64 b] rfl (by kernel_rfl) (by kernel_rfl) (l01Is_any F hF g1 _ _ _ B1) ?_
  intro w2 E2
  replace B1 := B1.ext E2
  have H2 := (H1).trans E2
  clear E2
  refine wpl_call (63) #[.pointer (some ⟨g1, 0, none⟩), .int .i64 a, .bool (isB F b)] rfl (by kernel_rfl) (by kernel_rfl) (l01Asked_any F hF g1 _ a (isB F b) (isB F a && (isB F b)) rfl _ B1) ?_
  intro w3 E3
  replace B1 := B1.ext E3
  have H3 := (H2).trans E3
  clear E3
  refine wpl_val (.int .i64 (code F (isB F a && (isB F b)))) (.int .i64 (code F (isB F a && (isB F b)))) rfl (by kernel_rfl) (by kernel_rfl) rfl ?_
  refine wpList_nil ?_
  refine then_normal ?_
  refine wp_frame (a' := ⟨#[.agg F.cells, .int .i64 a, .int .i64 b, .pointer (some ⟨g1, 0, none⟩), undef, undef, .int .i64 0, .int .i64 0, .int .i64 (code F (isB F a && (isB F b))), .int .i64 a, .int .i64 b, .bool (isB F b), .int .i64 (code F (isB F a && (isB F b))), undef, undef, undef, undef, undef, undef], []⟩) (by kernel_rfl) ?_
  refine wp_seq ?_
  refine wp_region_lit ?_
  refine wpl_val (.int .i64 (code F (isB F a && (isB F b)))) (.int .i64 (code F (isB F a && (isB F b)))) rfl (by kernel_rfl) (by kernel_rfl) rfl ?_
  refine wpl_val (.bool ((code F (isB F a && (isB F b))) != 0)) (.bool ((code F (isB F a && (isB F b))) != 0)) rfl (by kernel_rfl) (by kernel_rfl) rfl ?_
  refine wpList_nil ?_
  refine then_normal ?_
  refine wp_frame (a' := ⟨#[.agg F.cells, .int .i64 a, .int .i64 b, .pointer (some ⟨g1, 0, none⟩), undef, undef, .int .i64 0, .int .i64 0, .int .i64 (code F (isB F a && (isB F b))), .int .i64 a, .int .i64 b, .bool (isB F b), .int .i64 (code F (isB F a && (isB F b))), .int .i64 (code F (isB F a && (isB F b))), .bool ((code F (isB F a && (isB F b))) != 0), undef, undef, undef, undef], []⟩) (by kernel_rfl) ?_
  refine wp_cond_split (t := (code F (isB F a && (isB F b))) != 0) rfl (fun h1 => ?_) (fun h1 => ?_)
  · skip
    have hk1 := h1
    try simp only [decide_eq_true_eq, decide_eq_false_iff_not, Bool.and_eq_true, Bool.or_eq_true, Bool.and_eq_false_iff, Bool.or_eq_false_iff, Bool.not_eq_true', Bool.not_eq_false', beq_iff_eq, beq_eq_false_iff_ne, bne_iff_ne, bne_eq_false_iff_eq, gt_iff_lt, ge_iff_le, ne_eq, Decidable.not_not, Int.not_lt, Int.not_le, inB] at h1
    try (have z_ := code_zero h1; simp only [Bool.and_eq_true, isB_true, inB, decide_eq_true_eq] at z_)
    refine wp_seq ?_
    refine wp_region_lit ?_
    refine wpl_val (.int .i64 (code F (isB F a && (isB F b)))) (.int .i64 (code F (isB F a && (isB F b)))) rfl (by kernel_rfl) (by kernel_rfl) rfl ?_
    refine wpl_frame (a' := ⟨#[.agg F.cells, .int .i64 a, .int .i64 b, .pointer (some ⟨g1, 0, none⟩), undef, undef, .int .i64 0, .int .i64 0, .int .i64 (code F (isB F a && (isB F b))), .int .i64 a, .int .i64 b, .bool (isB F b), .int .i64 (code F (isB F a && (isB F b))), .int .i64 (code F (isB F a && (isB F b))), .bool ((code F (isB F a && (isB F b))) != 0), .int .i64 (code F (isB F a && (isB F b))), undef, undef, undef], []⟩) (by kernel_rfl) ?_
    refine wpl_frame (a' := ⟨#[.agg F.cells, .int .i64 a, .int .i64 b, .pointer (some ⟨g1, 0, none⟩), undef, undef, .int .i64 0, .int .i64 0, .int .i64 (code F (isB F a && (isB F b))), .int .i64 a, .int .i64 b, .bool (isB F b), .int .i64 (code F (isB F a && (isB F b))), .int .i64 (code F (isB F a && (isB F b))), .bool true, .int .i64 (code F (isB F a && (isB F b))), undef, undef, undef], []⟩) (by simp only [hk1, Bool.not_true, Bool.not_false]) ?_
    refine wpl_val (.int .i64 0) (.int .i64 0) rfl (by kernel_rfl) (by kernel_rfl) rfl ?_
    refine wpl_val (.int .i64 (code F (isB F a && (isB F b)))) (.int .i64 (code F (isB F a && (isB F b)))) rfl (by kernel_rfl) (by kernel_rfl) rfl ?_
    refine wpList_nil ?_
    refine then_normal ?_
    refine wp_frame (a' := ⟨#[.agg F.cells, .int .i64 a, .int .i64 b, .pointer (some ⟨g1, 0, none⟩), undef, undef, .int .i64 0, .int .i64 (code F (isB F a && (isB F b))), .int .i64 (code F (isB F a && (isB F b))), .int .i64 a, .int .i64 b, .bool (isB F b), .int .i64 (code F (isB F a && (isB F b))), .int .i64 (code F (isB F a && (isB F b))), .bool true, .int .i64 (code F (isB F a && (isB F b))), undef, undef, undef], []⟩) (by kernel_rfl) ?_
    refine wp_ret ?_
    refine then_ret ?_
    refine body_frame (a' := ⟨#[.agg F.cells, .int .i64 a, .int .i64 b, .pointer (some ⟨g1, 0, none⟩), undef, undef, .int .i64 0, .int .i64 (code F (isB F a && (isB F b))), .int .i64 (code F (isB F a && (isB F b))), .int .i64 a, .int .i64 b, .bool (isB F b), .int .i64 (code F (isB F a && (isB F b))), .int .i64 (code F (isB F a && (isB F b))), .bool true, .int .i64 (code F (isB F a && (isB F b))), undef, undef, undef], []⟩) (by kernel_rfl) ?_
    refine ret2 (.int .i64 (if code F (isB F a && isB F b) = 0 then sqr a b else 0)) (.int .i64 (code F (isB F a && isB F b))) rfl ?_ ?_ rfl ?_
    · show (.int .i64 0 : Value) = (.int .i64 (if code F (isB F a && isB F b) = 0 then sqr a b else 0))
      refine congrArg (Value.int _) ?_
      simp [*]
    · show (.int .i64 (code F (isB F a && (isB F b))) : Value) = (.int .i64 (code F (isB F a && isB F b)))
      refine congrArg (Value.int _) ?_
      simp [*]
    exact ⟨rfl, H3⟩
  · skip
    have hk2 := h1
    try simp only [decide_eq_true_eq, decide_eq_false_iff_not, Bool.and_eq_true, Bool.or_eq_true, Bool.and_eq_false_iff, Bool.or_eq_false_iff, Bool.not_eq_true', Bool.not_eq_false', beq_iff_eq, beq_eq_false_iff_ne, bne_iff_ne, bne_eq_false_iff_eq, gt_iff_lt, ge_iff_le, ne_eq, Decidable.not_not, Int.not_lt, Int.not_le, inB] at h1
    try (have z_ := code_zero h1; simp only [Bool.and_eq_true, isB_true, inB, decide_eq_true_eq] at z_)
    refine wp_skip ?_
    refine then_normal ?_
    refine wp_frame (a' := ⟨#[.agg F.cells, .int .i64 a, .int .i64 b, .pointer (some ⟨g1, 0, none⟩), undef, undef, .int .i64 0, .int .i64 0, .int .i64 (code F (isB F a && (isB F b))), .int .i64 a, .int .i64 b, .bool (isB F b), .int .i64 (code F (isB F a && (isB F b))), .int .i64 (code F (isB F a && (isB F b))), .bool ((code F (isB F a && (isB F b))) != 0), undef, undef, undef, undef], []⟩) (by kernel_rfl) ?_
    refine wp_seq ?_
    refine wp_region_lit ?_
    refine wpl_val (.int .i64 a) (.int .i64 a) rfl (by kernel_rfl) (by kernel_rfl) rfl ?_
    refine wpl_frame (a' := ⟨#[.agg F.cells, .int .i64 a, .int .i64 b, .pointer (some ⟨g1, 0, none⟩), undef, undef, .int .i64 0, .int .i64 0, .int .i64 (code F (isB F a && (isB F b))), .int .i64 a, .int .i64 b, .bool (isB F b), .int .i64 (code F (isB F a && (isB F b))), .int .i64 (code F (isB F a && (isB F b))), .bool ((code F (isB F a && (isB F b))) != 0), undef, .int .i64 a, undef, undef], []⟩) (by kernel_rfl) ?_
    refine wpl_frame (a' := ⟨#[.agg F.cells, .int .i64 a, .int .i64 b, .pointer (some ⟨g1, 0, none⟩), undef, undef, .int .i64 0, .int .i64 0, .int .i64 (code F (isB F a && (isB F b))), .int .i64 a, .int .i64 b, .bool (isB F b), .int .i64 (code F (isB F a && (isB F b))), .int .i64 (code F (isB F a && (isB F b))), .bool false, undef, .int .i64 a, undef, undef], []⟩) (by simp only [hk2, Bool.not_true, Bool.not_false]) ?_
    refine wpl_val (.int .i64 b) (.int .i64 b) rfl (by kernel_rfl) (by kernel_rfl) rfl ?_
    refine wpl_call (67) #[.int .i64 a, .int .i64 b] rfl (by kernel_rfl) (by kernel_rfl) (l01Square_any a b (by omega) (by omega) _) ?_
    intro w4 E4
    replace B1 := B1.ext E4
    have H4 := (H3).trans E4
    clear E4
    refine wpl_val (.int .i64 (sqr a b)) (.int .i64 (sqr a b)) rfl (by kernel_rfl) (by kernel_rfl) rfl ?_
    refine wpl_val (.int .i64 0) (.int .i64 0) rfl (by kernel_rfl) (by kernel_rfl) rfl ?_
    refine wpList_nil ?_
    refine then_normal ?_
    refine wp_frame (a' := ⟨#[.agg F.cells, .int .i64 a, .int .i64 b, .pointer (some ⟨g1, 0, none⟩), undef, undef, .int .i64 (sqr a b), .int .i64 0, .int .i64 (code F (isB F a && (isB F b))), .int .i64 a, .int .i64 b, .bool (isB F b), .int .i64 (code F (isB F a && (isB F b))), .int .i64 (code F (isB F a && (isB F b))), .bool false, undef, .int .i64 a, .int .i64 b, .int .i64 (sqr a b)], []⟩) (by kernel_rfl) ?_
    refine wp_ret ?_
    refine body_frame (a' := ⟨#[.agg F.cells, .int .i64 a, .int .i64 b, .pointer (some ⟨g1, 0, none⟩), undef, undef, .int .i64 (sqr a b), .int .i64 0, .int .i64 (code F (isB F a && (isB F b))), .int .i64 a, .int .i64 b, .bool (isB F b), .int .i64 (code F (isB F a && (isB F b))), .int .i64 (code F (isB F a && (isB F b))), .bool false, undef, .int .i64 a, .int .i64 b, .int .i64 (sqr a b)], []⟩) (by kernel_rfl) ?_
    refine ret2 (.int .i64 (if code F (isB F a && isB F b) = 0 then sqr a b else 0)) (.int .i64 (code F (isB F a && isB F b))) rfl ?_ ?_ rfl ?_
    · show (.int .i64 (sqr a b) : Value) = (.int .i64 (if code F (isB F a && isB F b) = 0 then sqr a b else 0))
      refine congrArg (Value.int _) ?_
      simp [*]
    · show (.int .i64 0 : Value) = (.int .i64 (code F (isB F a && isB F b)))
      refine congrArg (Value.int _) ?_
      simp [*]
    exact ⟨rfl, H4⟩


--# iSquareOf_any
theorem iSquareOf_any (F : Fld) (hF : F.wf) (a : Int) (b : Int) (w : World) :
 Calls Try.prog 36 #[.agg F.cells, .int .i64 a, .int .i64 b] w fun e w' => e = .returned (.tuple #[.int .i64 (if code F (isB F a && isB F b) = 0 then sqr a b else 0), .int .i64 (code F (isB F a && isB F b))]) ∧ Ext w w' := by
  refine calls_of_wp Try.func36 rfl ?_
  refine wp_frame (a' := ⟨#[.agg F.cells, .int .i64 a, .int .i64 b, undef, undef, undef, undef, undef, undef, undef, undef, undef, undef, undef, undef, undef, undef], []⟩) (by kernel_rfl) ?_
  refine wp_seq ?_
  refine wp_region_lit ?_
  refine wpl_box (v := .agg F.cells) F.cells rfl (by kernel_rfl) rfl (by kernel_rfl) rfl ?_
  intro g1 w1 B1 E1 hg_
  have lo_g1 : w.heap.size ≤ g1 := Nat.le_trans ((Ext.refl w)).size hg_
  clear hg_
  have H1 := ((Ext.refl w)).trans E1
  clear E1
  refine wpl_box (v := .int .i64 a) #[.int .i64 a] rfl (by kernel_rfl) rfl (by kernel_rfl) rfl ?_
  intro g2 w2 B2 E2 hg_
  have q_g1_g2 : g1 < g2 := Nat.lt_of_lt_of_le B1.lt hg_
  have lo_g2 : w.heap.size ≤ g2 := Nat.le_trans (H1).size hg_
  clear hg_
  replace B1 := B1.ext E2
  have H2 := (H1).trans E2
  clear E2
  refine wpl_box (v := .int .i64 b) #[.int .i64 b] rfl (by kernel_rfl) rfl (by kernel_rfl) rfl ?_
  intro g3 w3 B3 E3 hg_
  have q_g1_g3 : g1 < g3 := Nat.lt_of_lt_of_le B1.lt hg_
  have q_g2_g3 : g2 < g3 := Nat.lt_of_lt_of_le B2.lt hg_
  have lo_g3 : w.heap.size ≤ g3 := Nat.le_trans (H2).size hg_
  clear hg_
  replace B1 := B1.ext E3
  replace B2 := B2.ext E3
  have H3 := (H2).trans E3
  clear E3
  refine wpl_val (.int .i64 0) (.int .i64 0) rfl (by kernel_rfl) (by kernel_rfl) rfl ?_
  refine wpl_val (.int .i64 0) (.int .i64 0) rfl (by kernel_rfl) (by kernel_rfl) rfl ?_
  refine wpList_nil ?_
  refine then_normal ?_
  refine wp_frame (a' := ⟨#[.agg F.cells, .int .i64 a, .int .i64 b, .pointer (some ⟨g1, 0, none⟩), .pointer (some ⟨g2, 0, none⟩), .pointer (some ⟨g3, 0, none⟩), .int .i64 0, .int .i64 0, undef, undef, undef, undef, undef, undef, undef, undef, undef], []⟩) (by kernel_rfl) ?_
  refine wp_seq ?_
  refine wp_seq ?_
  refine wp_region_lit ?_
  refine wpl_val (.func (.func 68) #[] #[.pointer (some ⟨g1, 0, none⟩), .pointer (some ⟨g2, 0, none⟩), .pointer (some ⟨g3, 0, none⟩)]) (.func (.func 68) #[] #[.pointer (some ⟨g1, 0, none⟩), .pointer (some ⟨g2, 0, none⟩), .pointer (some ⟨g3, 0, none⟩)]) rfl (by kernel_rfl) (by kernel_rfl) rfl ?_
  refine wpl_call (64) (#[.pointer (some ⟨g1, 0, none⟩), .func (.func 68) #[] #[.pointer (some ⟨g1, 0, none⟩), .pointer (some ⟨g2, 0, none⟩), .pointer (some ⟨g3, 0, none⟩)]]) rfl (by kernel_rfl) (by kernel_rfl) (fieldCode_any F hF g1 _ (.func (.func 68) #[] #[.pointer (some ⟨g1, 0, none⟩), .pointer (some ⟨g2, 0, none⟩), .pointer (some ⟨g3, 0, none⟩)]) 68 #[.pointer (some ⟨g1, 0, none⟩), .pointer (some ⟨g2, 0, none⟩), .pointer (some ⟨g3, 0, none⟩)] (fun _ => by kernel_rfl) (isB F a && isB F b) _ B1 (fun _ E_ => SquareOf1_any F hF g1 _ a g2 _ b g3 _ _ (B1.ext E_) (B2.ext E_) (B3.ext E_))) ?_
  intro w4 E4
  replace B1 := B1.ext E4
  replace B2 := B2.ext E4
  replace B3 := B3.ext E4
  have H4 := (H3).trans E4
  clear E4
  refine wpl_val (.int .i64 (code F (isB F a && isB F b))) (.int .i64 (code F (isB F a && isB F b))) rfl (by kernel_rfl) (by kernel_rfl) rfl ?_
  refine wpList_nil ?_
  refine then_normal ?_
  refine wp_frame (a' := ⟨#[.agg F.cells, .int .i64 a, .int .i64 b, .pointer (some ⟨g1, 0, none⟩), .pointer (some ⟨g2, 0, none⟩), .pointer (some ⟨g3, 0, none⟩), .int .i64 0, .int .i64 0, .int .i64 (code F (isB F a && isB F b)), .func (.func 68) #[] #[.pointer (some ⟨g1, 0, none⟩), .pointer (some ⟨g2, 0, none⟩), .pointer (some ⟨g3, 0, none⟩)], .int .i64 (code F (isB F a && isB F b)), undef, undef, undef, undef, undef, undef], []⟩) (by kernel_rfl) ?_
  refine wp_seq ?_
  refine wp_region_lit ?_
  refine wpl_val (.int .i64 (code F (isB F a && isB F b))) (.int .i64 (code F (isB F a && isB F b))) rfl (by kernel_rfl) (by kernel_rfl) rfl ?_
  refine wpl_val (.bool ((code F (isB F a && isB F b)) != 0)) (.bool ((code F (isB F a && isB F b)) != 0)) rfl (by kernel_rfl) (by kernel_rfl) rfl ?_
  refine wpList_nil ?_
  refine then_normal ?_
  refine wp_frame (a' := ⟨#[.agg F.cells, .int .i64 a, .int .i64 b, .pointer (some ⟨g1, 0, none⟩), .pointer (some ⟨g2, 0, none⟩), .pointer (some ⟨g3, 0, none⟩), .int .i64 0, .int .i64 0, .int .i64 (code F (isB F a && isB F b)), .func (.func 68) #[] #[.pointer (some ⟨g1, 0, none⟩), .pointer (some ⟨g2, 0, none⟩), .pointer (some ⟨g3, 0, none⟩)], .int .i64 (code F (isB F a && isB F b)), .int .i64 (code F (isB F a && isB F b)), .bool ((code F (isB F a && isB F b)) != 0), undef, undef, undef, undef], []⟩) (by kernel_rfl) ?_
  refine wp_cond_split (t := (code F (isB F a && isB F b)) != 0) rfl (fun h1 => ?_) (fun h1 => ?_)
  · skip
    have hk1 := h1
    try simp only [decide_eq_true_eq, decide_eq_false_iff_not, Bool.and_eq_true, Bool.or_eq_true, Bool.and_eq_false_iff, Bool.or_eq_false_iff, Bool.not_eq_true', Bool.not_eq_false', beq_iff_eq, beq_eq_false_iff_ne, bne_iff_ne, bne_eq_false_iff_eq, gt_iff_lt, ge_iff_le, ne_eq, Decidable.not_not, Int.not_lt, Int.not_le, inB] at h1
    try (have z_ := code_zero h1; simp only [Bool.and_eq_true, isB_true, inB, decide_eq_true_eq] at z_)
    refine wp_seq ?_
    refine wp_region_lit ?_
    refine wpl_val (.int .i64 (code F (isB F a && isB F b))) (.int .i64 (code F (isB F a && isB F b))) rfl (by kernel_rfl) (by kernel_rfl) rfl ?_
    refine wpl_frame (a' := ⟨#[.agg F.cells, .int .i64 a, .int .i64 b, .pointer (some ⟨g1, 0, none⟩), .pointer (some ⟨g2, 0, none⟩), .pointer (some ⟨g3, 0, none⟩), .int .i64 0, .int .i64 0, .int .i64 (code F (isB F a && isB F b)), .func (.func 68) #[] #[.pointer (some ⟨g1, 0, none⟩), .pointer (some ⟨g2, 0, none⟩), .pointer (some ⟨g3, 0, none⟩)], .int .i64 (code F (isB F a && isB F b)), .int .i64 (code F (isB F a && isB F b)), .bool ((code F (isB F a && isB F b)) != 0), .int .i64 (code F (isB F a && isB F b)), undef, undef, undef], []⟩) (by kernel_rfl) ?_
    refine wpl_frame (a' := ⟨#[.agg F.cells, .int .i64 a, .int .i64 b, .pointer (some ⟨g1, 0, none⟩), .pointer (some ⟨g2, 0, none⟩), .pointer (some ⟨g3, 0, none⟩), .int .i64 0, .int .i64 0, .int .i64 (code F (isB F a && isB F b)), .func (.func 68) #[] #[.pointer (some ⟨g1, 0, none⟩), .pointer (some ⟨g2, 0, none⟩), .pointer (some ⟨g3, 0, none⟩)], .int .i64 (code F (isB F a && isB F b)), .int .i64 (code F (isB F a && isB F b)), .bool true, .int .i64 (code F (isB F a && isB F b)), undef, undef, undef], []⟩) (by simp only [hk1, Bool.not_true, Bool.not_false]) ?_
    refine wpl_val (.int .i64 0) (.int .i64 0) rfl (by kernel_rfl) (by kernel_rfl) rfl ?_
    refine wpl_val (.int .i64 (code F (isB F a && isB F b))) (.int .i64 (code F (isB F a && isB F b))) rfl (by kernel_rfl) (by kernel_rfl) rfl ?_
    refine wpList_nil ?_
    refine then_normal ?_
    refine wp_frame (a' := ⟨#[.agg F.cells, .int .i64 a, .int .i64 b, .pointer (some ⟨g1, 0, none⟩), .pointer (some ⟨g2, 0, none⟩), .pointer (some ⟨g3, 0, none⟩), .int .i64 0, .int .i64 (code F (isB F a && isB F b)), .int .i64 (code F (isB F a && isB F b)), .func (.func 68) #[] #[.pointer (some ⟨g1, 0, none⟩), .pointer (some ⟨g2, 0, none⟩), .pointer (some ⟨g3, 0, none⟩)], .int .i64 (code F (isB F a && isB F b)), .int .i64 (code F (isB F a && isB F b)), .bool true, .int .i64 (code F (isB F a && isB F b)), undef, undef, undef], []⟩) (by kernel_rfl) ?_
    refine wp_ret ?_
    refine then_ret ?_
    refine body_frame (a' := ⟨#[.agg F.cells, .int .i64 a, .int .i64 b, .pointer (some ⟨g1, 0, none⟩), .pointer (some ⟨g2, 0, none⟩), .pointer (some ⟨g3, 0, none⟩), .int .i64 0, .int .i64 (code F (isB F a && isB F b)), .int .i64 (code F (isB F a && isB F b)), .func (.func 68) #[] #[.pointer (some ⟨g1, 0, none⟩), .pointer (some ⟨g2, 0, none⟩), .pointer (some ⟨g3, 0, none⟩)], .int .i64 (code F (isB F a && isB F b)), .int .i64 (code F (isB F a && isB F b)), .bool true, .int .i64 (code F (isB F a && isB F b)), undef, undef, undef], []⟩) (by kernel_rfl) ?_
    refine ret2 (.int .i64 (if code F (isB F a && isB F b) = 0 then sqr a b else 0)) (.int .i64 (code F (isB F a && isB F b))) rfl ?_ ?_ rfl ?_
    · show (.int .i64 0 : Value) = (.int .i64 (if code F (isB F a && isB F b) = 0 then sqr a b else 0))
      refine congrArg (Value.int _) ?_
      simp [*]
    · show (.int .i64 (code F (isB F a && isB F b)) : Value) = (.int .i64 (code F (isB F a && isB F b)))
      rfl
    exact ⟨rfl, H4⟩
  · skip
    have hk2 := h1
    try simp only [decide_eq_true_eq, decide_eq_false_iff_not, Bool.and_eq_true, Bool.or_eq_true, Bool.and_eq_false_iff, Bool.or_eq_false_iff, Bool.not_eq_true', Bool.not_eq_false', beq_iff_eq, beq_eq_false_iff_ne, bne_iff_ne, bne_eq_false_iff_eq, gt_iff_lt, ge_iff_le, ne_eq, Decidable.not_not, Int.not_lt, Int.not_le, inB] at h1
    try (have z_ := code_zero h1; simp only [Bool.and_eq_true, isB_true, inB, decide_eq_true_eq] at z_)
    refine wp_skip ?_
    refine then_normal ?_
    refine wp_frame (a' := ⟨#[.agg F.cells, .int .i64 a, .int .i64 b, .pointer (some ⟨g1, 0, none⟩), .pointer (some ⟨g2, 0, none⟩), .pointer (some ⟨g3, 0, none⟩), .int .i64 0, .int .i64 0, .int .i64 (code F (isB F a && isB F b)), .func (.func 68) #[] #[.pointer (some ⟨g1, 0, none⟩), .pointer (some ⟨g2, 0, none⟩), .pointer (some ⟨g3, 0, none⟩)], .int .i64 (code F (isB F a && isB F b)), .int .i64 (code F (isB F a && isB F b)), .bool ((code F (isB F a && isB F b)) != 0), undef, undef, undef, undef], []⟩) (by kernel_rfl) ?_
    refine wp_seq ?_
    refine wp_region_lit ?_
    refine wpl_cell (g := g2) (off := 0) (.int .i64 a) rfl (by kernel_rfl) scal_int64 rfl (by kernel_rfl) (by rw [B2.cell]; rfl) ?_
    refine wpl_frame (a' := ⟨#[.agg F.cells, .int .i64 a, .int .i64 b, .pointer (some ⟨g1, 0, none⟩), .pointer (some ⟨g2, 0, none⟩), .pointer (some ⟨g3, 0, none⟩), .int .i64 0, .int .i64 0, .int .i64 (code F (isB F a && isB F b)), .func (.func 68) #[] #[.pointer (some ⟨g1, 0, none⟩), .pointer (some ⟨g2, 0, none⟩), .pointer (some ⟨g3, 0, none⟩)], .int .i64 (code F (isB F a && isB F b)), .int .i64 (code F (isB F a && isB F b)), .bool ((code F (isB F a && isB F b)) != 0), undef, .int .i64 a, undef, undef], []⟩) (by kernel_rfl) ?_
    refine wpl_frame (a' := ⟨#[.agg F.cells, .int .i64 a, .int .i64 b, .pointer (some ⟨g1, 0, none⟩), .pointer (some ⟨g2, 0, none⟩), .pointer (some ⟨g3, 0, none⟩), .int .i64 0, .int .i64 0, .int .i64 (code F (isB F a && isB F b)), .func (.func 68) #[] #[.pointer (some ⟨g1, 0, none⟩), .pointer (some ⟨g2, 0, none⟩), .pointer (some ⟨g3, 0, none⟩)], .int .i64 (code F (isB F a && isB F b)), .int .i64 (code F (isB F a && isB F b)), .bool false, undef, .int .i64 a, undef, undef], []⟩) (by simp only [hk2, Bool.not_true, Bool.not_false]) ?_
    refine wpl_cell (g := g3) (off := 0) (.int .i64 b) rfl (by kernel_rfl) scal_int64 rfl (by kernel_rfl) (by rw [B3.cell]; rfl) ?_
    refine wpl_call (69) #[.int .i64 a, .int .i64 b] rfl (by kernel_rfl) (by kernel_rfl) (square_any a b (by omega) (by omega) _) ?_
    intro w5 E5
    replace B1 := B1.ext E5
    replace B2 := B2.ext E5
    replace B3 := B3.ext E5
    have H5 := (H4).trans E5
    clear E5
    refine wpl_val (.int .i64 (sqr a b)) (.int .i64 (sqr a b)) rfl (by kernel_rfl) (by kernel_rfl) rfl ?_
    refine wpl_val (.int .i64 0) (.int .i64 0) rfl (by kernel_rfl) (by kernel_rfl) rfl ?_
    refine wpList_nil ?_
    refine then_normal ?_
    refine wp_frame (a' := ⟨#[.agg F.cells, .int .i64 a, .int .i64 b, .pointer (some ⟨g1, 0, none⟩), .pointer (some ⟨g2, 0, none⟩), .pointer (some ⟨g3, 0, none⟩), .int .i64 (sqr a b), .int .i64 0, .int .i64 (code F (isB F a && isB F b)), .func (.func 68) #[] #[.pointer (some ⟨g1, 0, none⟩), .pointer (some ⟨g2, 0, none⟩), .pointer (some ⟨g3, 0, none⟩)], .int .i64 (code F (isB F a && isB F b)), .int .i64 (code F (isB F a && isB F b)), .bool false, undef, .int .i64 a, .int .i64 b, .int .i64 (sqr a b)], []⟩) (by kernel_rfl) ?_
    refine wp_ret ?_
    refine body_frame (a' := ⟨#[.agg F.cells, .int .i64 a, .int .i64 b, .pointer (some ⟨g1, 0, none⟩), .pointer (some ⟨g2, 0, none⟩), .pointer (some ⟨g3, 0, none⟩), .int .i64 (sqr a b), .int .i64 0, .int .i64 (code F (isB F a && isB F b)), .func (.func 68) #[] #[.pointer (some ⟨g1, 0, none⟩), .pointer (some ⟨g2, 0, none⟩), .pointer (some ⟨g3, 0, none⟩)], .int .i64 (code F (isB F a && isB F b)), .int .i64 (code F (isB F a && isB F b)), .bool false, undef, .int .i64 a, .int .i64 b, .int .i64 (sqr a b)], []⟩) (by kernel_rfl) ?_
    refine ret2 (.int .i64 (if code F (isB F a && isB F b) = 0 then sqr a b else 0)) (.int .i64 (code F (isB F a && isB F b))) rfl ?_ ?_ rfl ?_
    · show (.int .i64 (sqr a b) : Value) = (.int .i64 (if code F (isB F a && isB F b) = 0 then sqr a b else 0))
      refine congrArg (Value.int _) ?_
      simp [*]
    · show (.int .i64 0 : Value) = (.int .i64 (code F (isB F a && isB F b)))
      refine congrArg (Value.int _) ?_
      simp [*]
    exact ⟨rfl, H5⟩

end Go.Proofs.Ytjnlbincgakmpaa
