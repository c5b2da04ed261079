/-
  Contracts: the functions of fields. No conditions.
-/
import Derived.Test.YtdhidmigngmgjaaTy
import Derived.Test.YtdhidmigngmgjaaSl
import Derived.Test.YtdhidmigngmgjaaMth
import Derived.Test.YtdhidmigngmgjaaFn2
namespace Go.Proofs.Ytdhidmigngmgjaa
open Go.RowKit
set_option linter.unusedSimpArgs false
set_option linter.unusedVariables false
set_option maxHeartbeats 4000000
set_option maxRecDepth 100000
attribute [local irreducible] wpList Code.wp
--# square_any
theorem square_any (a : Int) (b : Int) (ha : 0 ≤ a ∧ a ≤ 1000) (hb : 0 ≤ b ∧ b ≤ 1000) (w : World) :
 Calls Try.prog 46 #[.int .i64 a, .int .i64 b] w fun e w' => e = .returned (.int .i64 (sqr a b)) ∧ Ext w w' := by
 refine calls_of_wp Try.func46 rfl ?_
 refine wp_frame (a' := ⟨#[.int .i64 a, .int .i64 b, undef, undef, undef, undef, undef, undef, undef, undef, undef, undef, undef, undef, undef, undef, undef, undef, undef, undef, undef, undef, undef, undef], []⟩) (by kernel_rfl) ?_
 refine wsr ?_
 refine wv (.int .i64 0) ?_
 refine wpList_nil (then_normal ?_)
 refine wsr ?_
 refine wv (.int .i64 a) ?_
 refine wrem a 10 ?_
 refine wv (.int .i64 b) ?_
 refine wrem b 10 ?_
 refine wi64 ((a % 10) - (b % 10)) ?_
 refine wv (.int .i64 a) ?_
 refine wquo a 10 ?_
 refine wv (.int .i64 b) ?_
 refine wquo b 10 ?_
 refine wi64 ((a / 10) - (b / 10)) ?_
 refine wv (.int .i64 ((a % 10) - (b % 10))) ?_
 refine wv (.int .i64 ((a / 10) - (b / 10))) ?_
 refine wpList_nil (then_normal ?_)
 refine wsr ?_
 refine wv (.int .i64 ((a % 10) - (b % 10))) ?_
 refine wv (.int .i64 ((a % 10) - (b % 10))) ?_
 have sq1 := sq_b (x := ((a % 10) - (b % 10))) (by omega)
 refine wi64 (((a % 10) - (b % 10)) * ((a % 10) - (b % 10))) ?_
 refine wv (.int .i64 ((a / 10) - (b / 10))) ?_
 refine wv (.int .i64 ((a / 10) - (b / 10))) ?_
 have sq2 := sq_b (x := ((a / 10) - (b / 10))) (by omega)
 refine wi64 (((a / 10) - (b / 10)) * ((a / 10) - (b / 10))) ?_
 refine wi64 ((((a % 10) - (b % 10)) * ((a % 10) - (b % 10))) + (((a / 10) - (b / 10)) * ((a / 10) - (b / 10)))) ?_
 refine wv (.int .i64 ((((a % 10) - (b % 10)) * ((a % 10) - (b % 10))) + (((a / 10) - (b / 10)) * ((a / 10) - (b / 10))))) ?_
 refine wpList_nil (then_normal ?_)
 refine wp_ret ?_
 refine ret1 (.int .i64 (sqr a b)) rfl ?_ rfl ?_
 · refine (resT (v := .int .i64 ((((a % 10) - (b % 10)) * ((a % 10) - (b % 10))) + (((a / 10) - (b / 10)) * ((a / 10) - (b / 10))))) (by kernel_rfl)).trans ?_
   refine congrArg (Value.int _) ?_
   unfold sqr; rfl
 exact ⟨rfl, (Ext.refl w)⟩


--# l01Square_any
theorem l01Square_any (a : Int) (b : Int) (ha : 0 ≤ a ∧ a ≤ 1000) (hb : 0 ≤ b ∧ b ≤ 1000) (w : World) :
 Calls Try.prog 49 #[.int .i64 a, .int .i64 b] w fun e w' => e = .returned (.int .i64 (sqr a b)) ∧ Ext w w' := by
 refine calls_of_wp Try.func49 rfl ?_
 refine wp_frame (a' := ⟨#[.int .i64 a, .int .i64 b, undef, undef, undef, undef, undef, undef, undef, undef, undef, undef, undef, undef, undef, undef, undef, undef, undef, undef, undef, undef, undef, undef], []⟩) (by kernel_rfl) ?_
 refine wsr ?_
 refine wv (.int .i64 0) ?_
 refine wpList_nil (then_normal ?_)
 refine wsr ?_
 refine wv (.int .i64 a) ?_
 refine wrem a 10 ?_
 refine wv (.int .i64 b) ?_
 refine wrem b 10 ?_
 refine wi64 ((a % 10) - (b % 10)) ?_
 refine wv (.int .i64 ((a % 10) - (b % 10))) ?_
 refine wpList_nil (then_normal ?_)
 refine wsr ?_
 refine wv (.int .i64 a) ?_
 refine wquo a 10 ?_
 refine wv (.int .i64 b) ?_
 refine wquo b 10 ?_
 refine wi64 ((a / 10) - (b / 10)) ?_
 refine wv (.int .i64 ((a / 10) - (b / 10))) ?_
 refine wpList_nil (then_normal ?_)
 refine wsr ?_
 refine wv (.int .i64 ((a % 10) - (b % 10))) ?_
 refine wv (.int .i64 ((a % 10) - (b % 10))) ?_
 have sq1 := sq_b (x := ((a % 10) - (b % 10))) (by omega)
 refine wi64 (((a % 10) - (b % 10)) * ((a % 10) - (b % 10))) ?_
 refine wv (.int .i64 ((a / 10) - (b / 10))) ?_
 refine wv (.int .i64 ((a / 10) - (b / 10))) ?_
 have sq2 := sq_b (x := ((a / 10) - (b / 10))) (by omega)
 refine wi64 (((a / 10) - (b / 10)) * ((a / 10) - (b / 10))) ?_
 refine wi64 ((((a % 10) - (b % 10)) * ((a % 10) - (b % 10))) + (((a / 10) - (b / 10)) * ((a / 10) - (b / 10)))) ?_
 refine wv (.int .i64 ((((a % 10) - (b % 10)) * ((a % 10) - (b % 10))) + (((a / 10) - (b / 10)) * ((a / 10) - (b / 10))))) ?_
 refine wpList_nil (then_normal ?_)
 refine wp_ret ?_
 refine ret1 (.int .i64 (sqr a b)) rfl ?_ rfl ?_
 · refine (resT (v := .int .i64 ((((a % 10) - (b % 10)) * ((a % 10) - (b % 10))) + (((a / 10) - (b / 10)) * ((a / 10) - (b / 10))))) (by kernel_rfl)).trans ?_
   refine congrArg (Value.int _) ?_
   unfold sqr; rfl
 exact ⟨rfl, (Ext.refl w)⟩


--# iSquareOf_any
theorem iSquareOf_any (F : Fld) (hF : F.wf) (a : Int) (b : Int) (w : World) :
 Calls Try.prog 31 #[.agg F.cells, .int .i64 a, .int .i64 b] w fun e w' => e = .returned (.tuple #[.int .i64 (if code F (isB F a && isB F b) = 0 then sqr a b else 0), .int .i64 (code F (isB F a && isB F b))]) ∧ Ext w w' := by
 refine calls_of_wp Try.func31 rfl ?_
 refine wp_frame (a' := ⟨#[.agg F.cells, .int .i64 a, .int .i64 b, undef, undef, undef, undef, undef, undef, undef, undef, undef, undef, undef, undef, undef, undef], []⟩) (by kernel_rfl) ?_
 refine wsr ?_
 refine wbox F.cells ?_
 intro g1 w1 B1 E1 _
 refine wboxv (.int .i64 a) ?_
 intro g2 w2 B2 E2 _
 refine wboxv (.int .i64 b) ?_
 intro g3 w3 B3 E3 _
 refine wv (.int .i64 0) ?_
 refine wv (.int .i64 0) ?_
 refine wpList_nil (then_normal ?_)
 refine wp_seq ?_
 refine wsr ?_
 refine wv (.func (.func 66) #[] #[.pointer (some ⟨g1, 0, none⟩), .pointer (some ⟨g2, 0, none⟩), .pointer (some ⟨g3, 0, none⟩)]) ?_
 replace B1 := (B1.ext E2).ext E3
 replace B2 := B2.ext E3
 refine wcl (fieldCode_any F hF g1 _ (.func (.func 66) #[] #[.pointer (some ⟨g1, 0, none⟩), .pointer (some ⟨g2, 0, none⟩), .pointer (some ⟨g3, 0, none⟩)]) 66 #[.pointer (some ⟨g1, 0, none⟩), .pointer (some ⟨g2, 0, none⟩), .pointer (some ⟨g3, 0, none⟩)] (fun _ => by kernel_rfl) (isB F a && isB F b) _ B1 (fun _ E_ => SquareOf1_any F hF g1 _ a g2 _ b g3 _ _ (B1.ext E_) (B2.ext E_) (B3.ext E_))) ?_
 intro w4 E4
 refine wv (.int .i64 (code F (isB F a && isB F b))) ?_
 refine wpList_nil (then_normal ?_)
 refine wsr ?_
 refine wv (.int .i64 (code F (isB F a && isB F b))) ?_
 refine wv (.bool ((code F (isB F a && isB F b)) != 0)) ?_
 refine wpList_nil (then_normal ?_)
 have H1 := ((((Ext.refl w).trans E1).trans E2).trans E3).trans E4
 refine wsplit ((code F (isB F a && isB F b)) != 0) (fun h1 => ?_) (fun h1 => ?_)
 · skip
   have h1d := nT h1
   refine wsr ?_
   refine wv (.int .i64 (code F (isB F a && isB F b))) ?_
   refine wv (.int .i64 0) ?_
   refine wv (.int .i64 (code F (isB F a && isB F b))) ?_
   refine wpList_nil (then_normal ?_)
   refine wp_ret ?_
   refine then_ret ?_
   refine ret2 (.int .i64 (if code F (isB F a && isB F b) = 0 then sqr a b else 0)) (.int .i64 (code F (isB F a && isB F b))) rfl ?_ ?_ rfl ?_
   · refine (resT (v := .int .i64 0) (by kernel_rfl)).trans ?_
     refine congrArg (Value.int _) ?_
     first | (rw [if_pos (by assumption)]; done) | (rw [if_neg (by assumption)]; done) | rfl | assumption | (symm; assumption)
   · exact resT (by kernel_rfl)
   exact ⟨rfl, H1⟩
 · skip
   have h1d := nF h1
   have h1o := (code_zero h1d).1
   have h1z := (code_zero h1d).2
   obtain ⟨h1za, h1zb⟩ := andT h1z
   have h1zad := isB_true.1 h1za
   have h1zbd := isB_true.1 h1zb
   refine wp_skip ?_
   refine then_normal ?_
   refine wsr ?_
   replace B2 := B2.ext E4
   refine wld (v := .int .i64 a) g2 (0) scal_int64 (B2.get (rfl)) ?_
   replace B3 := B3.ext E4
   refine wld (v := .int .i64 b) g3 (0) scal_int64 (B3.get (rfl)) ?_
   refine wcl (square_any a b (by omega) (by omega) _) ?_
   intro w5 E5
   refine wv (.int .i64 (sqr a b)) ?_
   refine wv (.int .i64 0) ?_
   refine wpList_nil (then_normal ?_)
   refine wp_ret ?_
   have H2 := H1.trans E5
   refine ret2 (.int .i64 (if code F (isB F a && isB F b) = 0 then sqr a b else 0)) (.int .i64 (code F (isB F a && isB F b))) rfl ?_ ?_ rfl ?_
   · refine (resT (v := .int .i64 (sqr a b)) (by kernel_rfl)).trans ?_
     refine congrArg (Value.int _) ?_
     first | (rw [if_pos (by assumption)]; done) | (rw [if_neg (by assumption)]; done) | rfl | assumption | (symm; assumption)
   · refine (resT (v := .int .i64 0) (by kernel_rfl)).trans ?_
     refine congrArg (Value.int _) ?_
     first | (rw [if_pos (by assumption)]; done) | (rw [if_neg (by assumption)]; done) | rfl | assumption | (symm; assumption)
   exact ⟨rfl, H2⟩


