/-
  For all arguments, the law FnShifts returns true; its arguments read as they did. No conditions.
-/
import Derived.Test.YtbjcloilcpoafaaRows
import Derived.Test.YtbjcloilcpoafaaFn21
import Derived.Test.YtbjcloilcpoafaaRowk
import Derived.WalkKit
import Derived.ProofKit
import Derived.OpenShut
import Derived.ShutString
import Derived.ChangeOld
import Derived.Below
import Derived.SizedLaws
namespace Go.Proofs.Ytbjcloilcpoafaa
open Go.ChangeShapes Go.WideShapes Go.ChangeAt Go.RowKit
open Go.ChangeMaps (open_string shut_string)
set_option linter.unusedVariables false
theorem ownKnob_none : ownKnob Try.prog.godebug = none := by kernel_rfl
theorem laidOut_ : laidOutB Try.prog = true := by kernel_rfl
theorem atI_u8 {xs : List Int} (h : ∀ n ∈ xs, (Lit.int .u8 n).wf = true) (i : Nat) (hi : i < xs.length) : 0 ≤ atI xs i ∧ atI xs i ≤ 255 := bounds_u8 (h _ (atI_mem hi))
section
set_option maxHeartbeats 4000000
set_option maxRecDepth 100000
attribute [local irreducible] wpList Code.wp
--# walk FnShifts
theorem FnShifts_walk (xs : List Int) (v : Value) (ys : List Int) (v2 : Value) (hxb : ∀ i, i < xs.length → 0 ≤ atI xs i ∧ atI xs i ≤ 255) (hyb : ∀ i, i < ys.length → 0 ≤ atI ys i ∧ atI ys i ≤ 255) (w : World) (hin : SlIn w v .u8 xs) (hin2 : SlIn w v2 .u8 ys) :
 Calls Try.prog 6 #[v, v2] w fun e w' => e = .returned (.bool true) ∧ Ext w w' := by
 have hbx_ := hxb
 have hbx2_ := hyb
 have dm_ := drM_in (xs := ys) (n := 4) (by omega)
 have nl_ := ndL_length (xs := xs)
 have hok_ : ndOk (ndL xs) (1 + (drM ys 4 : Int)) := ⟨nl_, fun j hj => ndL_in j hj, by omega, by omega⟩
 have hs0_ : (shC (ndL xs) (1 + (drM ys 4 : Int)) [] == 0) = true := by rw [ck_nil hok_]; rfl
 have fb_ : (fewL (ndL xs) (1 + (drM ys 4 : Int))).length ≤ 1000 := fewL_b (ck_nil hok_)
 have hl1_ : (1 : Int) ≤ 1 + (drM ys 4 : Int) := by omega
 have hD_ : ∀ i, i < (fewL (ndL xs) (1 + (drM ys 4 : Int))).length → 0 ≤ atI (fewL (ndL xs) (1 + (drM ys 4 : Int))) i ∧ atI (fewL (ndL xs) (1 + (drM ys 4 : Int))) i ≤ 10 := fun i hi => by
   obtain ⟨h, h1, h2, _⟩ := ls_mis hok_.2.2.1 hi
   omega
 refine calls_of_wp Try.func6 rfl ?_
 refine wp_frame (a' := ⟨#[v, v2, undef, undef, undef, undef, undef, undef, undef, undef, undef, undef, undef, undef, undef, undef, undef, undef, undef, undef, undef, undef, undef, undef, undef, undef, undef, undef, undef, undef, undef, undef, undef, undef, undef, undef, undef, undef, undef, undef, undef, undef, undef, undef, undef, undef, undef, undef, undef, undef, undef, undef, undef, undef, undef, undef, undef, undef, undef, undef, undef, undef, undef, undef, undef, undef, undef, undef, undef, undef, undef, undef, undef, undef, undef, undef, undef, undef, undef, undef, undef, undef, undef, undef, undef, undef, undef, undef, undef, undef, undef, undef, undef, undef, undef, undef, undef, undef, undef, undef, undef, undef, undef, undef, undef, undef, undef, undef, undef, undef, undef, undef, undef, undef, undef, undef, undef, undef, undef, undef, undef, undef, undef, undef, undef, undef, undef, undef, undef, undef, undef, undef, undef, undef, undef, undef, undef, undef, undef, undef, undef, undef, undef, undef, undef, undef, undef, undef, undef, undef, undef, undef, undef, undef, undef, undef, undef, undef, undef, undef, undef, undef, undef, undef, undef, undef, undef, undef, undef, undef, undef, undef, undef, undef, undef, undef, undef, undef, undef, undef, undef, undef, undef, undef, undef, undef, undef, undef, undef, undef, undef, undef, undef, undef, undef, undef, undef, undef, undef, undef, undef, undef, undef, undef, undef, undef], []⟩) (by kernel_rfl) ?_
 refine wsr ?_
 refine wv (.bool false) ?_
 refine wpList_nil (then_normal ?_)
 refine wp_seq ?_
 refine wsr ?_
 refine wv v ?_
 refine wcl (f6big_any xs v _ (SlIn.ext hin (Ext.refl w))) ?_
 intro w1 E1
 refine wv (.bool (decide (4096 < (xs.length : Int)))) ?_
 have H1 := (Ext.refl w).trans E1
 refine split_bool (decide (4096 < (xs.length : Int))) (fun h1 => ?_) (fun h1 => ?_)
 · skip
   refine wbl 31 true h1 ?_
   have h1d := dT h1
   refine wsk ?_
   refine wsk ?_
   refine wv (.bool true) ?_
   refine wpList_nil (then_normal ?_)
   refine wct ?_
   refine wsr ?_
   refine wv (.bool true) ?_
   refine wpList_nil (then_normal ?_)
   refine wp_ret ?_
   refine then_ret ?_
   refine ret1 (.bool true) rfl ?_ rfl ?_
   · exact resT (by kernel_rfl)
   exact ⟨rfl, H1⟩
 · skip
   refine wbl 31 false h1 ?_
   have h1d := dF h1
   refine wv v2 ?_
   refine wcl (f6big_any ys v2 _ (SlIn.ext hin2 H1)) ?_
   intro w2 E2
   refine wv (.bool (decide (4096 < (ys.length : Int)))) ?_
   refine wpList_nil (then_normal ?_)
   have H2 := H1.trans E2
   refine wsplit (decide (4096 < (ys.length : Int))) (fun h2 => ?_) (fun h2 => ?_)
   · skip
     have h2d := dT h2
     refine wsr ?_
     refine wv (.bool true) ?_
     refine wpList_nil (then_normal ?_)
     refine wp_ret ?_
     refine then_ret ?_
     refine ret1 (.bool true) rfl ?_ rfl ?_
     · exact resT (by kernel_rfl)
     exact ⟨rfl, H2⟩
   · skip
     have h2d := dF h2
     refine wp_skip ?_
     refine then_normal ?_
     refine wsr ?_
     refine wv v ?_
     refine wcli (P6Needs_any xs v (by omega) hxb _ (SlIn.ext hin H2)) ?_
     intro g1 cap1 cs1 w3 B1 S1 E3 hg_
     have lo_g1 := Nat.le_trans (H2).size hg_
     have nd1 := ndL_length (xs := xs)
     refine wv (.slice (some ⟨g1, 0, none⟩) ((ndL xs).length) cap1) ?_
     refine wpList_nil (then_normal ?_)
     refine wsr ?_
     refine wv v2 ?_
     have H3 := H2.trans E3
     refine wcl (P6Pick_any ys v2 4 (by omega) (by omega) hyb _ (SlIn.ext hin2 H3)) ?_
     intro w4 E4
     have dm1 := drM_in (xs := ys) (n := 4) (by omega)
     refine wi64 (1 + (drM ys 4 : Int)) ?_
     refine wv (.int .i64 (1 + (drM ys 4 : Int))) ?_
     refine wpList_nil (then_normal ?_)
     refine wsr ?_
     refine wv (.slice (some ⟨g1, 0, none⟩) ((ndL xs).length) cap1) ?_
     refine wv (.int .i64 (1 + (drM ys 4 : Int))) ?_
     replace B1 := B1.ext E4
     have H4 := H3.trans E4
     refine wcli (iFewestShifts_t (ndL xs) ((ndL xs).length) g1 cap1 cs1 S1 (1 + (drM ys 4 : Int)) (by omega) _ B1 (eT hs0_)) ?_
     intro g2 cap2 cs2 w5 B2 S2 E5 hg_
     have q_g1_g2 := Nat.ne_of_lt (Nat.lt_of_lt_of_le B1.lt hg_)
     have lo_g2 := Nat.le_trans (H4).size hg_
     have fl1 := fewL_b (need := (ndL xs)) (len := (1 + (drM ys 4 : Int))) (eT hs0_)
     refine wv (.tuple #[.slice (some ⟨g2, 0, none⟩) ((fewL (ndL xs) (1 + (drM ys 4 : Int))).length) cap2, .int .i64 0]) ?_
     refine wv (.slice (some ⟨g2, 0, none⟩) ((fewL (ndL xs) (1 + (drM ys 4 : Int))).length) cap2) ?_
     refine wv (.int .i64 0) ?_
     refine wv (.slice (some ⟨g2, 0, none⟩) ((fewL (ndL xs) (1 + (drM ys 4 : Int))).length) cap2) ?_
     refine wv (.int .i64 0) ?_
     refine wpList_nil (then_normal ?_)
     refine wsr ?_
     refine wv (.slice (some ⟨g1, 0, none⟩) ((ndL xs).length) cap1) ?_
     refine wv (.int .i64 (1 + (drM ys 4 : Int))) ?_
     replace B1 := B1.ext E5
     have H5 := H4.trans E5
     refine wcli (sFewestShifts_t (ndL xs) ((ndL xs).length) g1 cap1 cs1 S1 (1 + (drM ys 4 : Int)) (by omega) _ B1 (eT hs0_)) ?_
     intro g3 cap3 cs3 w6 B3 S3 E6 hg_
     have q_g1_g3 := Nat.ne_of_lt (Nat.lt_of_lt_of_le B1.lt hg_)
     have q_g2_g3 := Nat.ne_of_lt (Nat.lt_of_lt_of_le B2.lt hg_)
     have lo_g3 := Nat.le_trans (H5).size hg_
     have fl2 := fewL_b (need := (ndL xs)) (len := (1 + (drM ys 4 : Int))) (eT hs0_)
     refine wv (.tuple #[.slice (some ⟨g3, 0, none⟩) ((fewL (ndL xs) (1 + (drM ys 4 : Int))).length) cap3, .int .i64 0]) ?_
     refine wv (.slice (some ⟨g3, 0, none⟩) ((fewL (ndL xs) (1 + (drM ys 4 : Int))).length) cap3) ?_
     refine wv (.int .i64 0) ?_
     refine wv (.slice (some ⟨g3, 0, none⟩) ((fewL (ndL xs) (1 + (drM ys 4 : Int))).length) cap3) ?_
     refine wv (.int .i64 0) ?_
     refine wpList_nil (then_normal ?_)
     refine wp_frame (a' := ⟨#[v, v2, undef, undef, .bool false, .slice (some ⟨g1, 0, none⟩) ((ndL xs).length) cap1, .int .i64 (1 + (drM ys 4 : Int)), .slice (some ⟨g2, 0, none⟩) ((fewL (ndL xs) (1 + (drM ys 4 : Int))).length) cap2, .int .i64 0, .slice (some ⟨g3, 0, none⟩) ((fewL (ndL xs) (1 + (drM ys 4 : Int))).length) cap3, .int .i64 0, undef, undef, undef, undef, undef, undef, undef, undef, undef, undef, undef, undef, undef, undef, undef, undef, undef, undef, v, .bool (decide (4096 < (xs.length : Int))), .bool false, v2, .bool (decide (4096 < (ys.length : Int))), .bool (decide (4096 < (ys.length : Int))), v, .slice (some ⟨g1, 0, none⟩) ((ndL xs).length) cap1, v2, .int .i64 (drM ys 4 : Int), .int .i64 (1 + (drM ys 4 : Int)), .tuple #[.slice (some ⟨g2, 0, none⟩) ((fewL (ndL xs) (1 + (drM ys 4 : Int))).length) cap2, .int .i64 0], .slice (some ⟨g1, 0, none⟩) ((ndL xs).length) cap1, .int .i64 (1 + (drM ys 4 : Int)), .tuple #[.slice (some ⟨g2, 0, none⟩) ((fewL (ndL xs) (1 + (drM ys 4 : Int))).length) cap2, .int .i64 0], .slice (some ⟨g2, 0, none⟩) ((fewL (ndL xs) (1 + (drM ys 4 : Int))).length) cap2, .int .i64 0, .tuple #[.slice (some ⟨g3, 0, none⟩) ((fewL (ndL xs) (1 + (drM ys 4 : Int))).length) cap3, .int .i64 0], .slice (some ⟨g1, 0, none⟩) ((ndL xs).length) cap1, .int .i64 (1 + (drM ys 4 : Int)), .tuple #[.slice (some ⟨g3, 0, none⟩) ((fewL (ndL xs) (1 + (drM ys 4 : Int))).length) cap3, .int .i64 0], .slice (some ⟨g3, 0, none⟩) ((fewL (ndL xs) (1 + (drM ys 4 : Int))).length) cap3, .int .i64 0, undef, undef, undef, undef, undef, undef, undef, undef, undef, undef, undef, undef, undef, undef, undef, undef, undef, undef, undef, undef, undef, undef, undef, undef, undef, undef, undef, undef, undef, undef, undef, undef, undef, undef, undef, undef, undef, undef, undef, undef, undef, undef, undef, undef, undef, undef, undef, undef, undef, undef, undef, undef, undef, undef, undef, undef, undef, undef, undef, undef, undef, undef, undef, undef, undef, undef, undef, undef, undef, undef, undef, undef, undef, undef, undef, undef, undef, undef, undef, undef, undef, undef, undef, undef, undef, undef, undef, undef, undef, undef, undef, undef, undef, undef, undef, undef, undef, undef, undef, undef, undef, undef, undef, undef, undef, undef, undef, undef, undef, undef, undef, undef, undef, undef, undef, undef, undef, undef, undef, undef, undef, undef, undef, undef, undef, undef, undef, undef, undef, undef, undef, undef, undef, undef, undef, undef, undef, undef, undef, undef, undef, undef, undef, undef, undef, undef, undef, undef, undef, undef, undef, undef, undef, undef], []⟩) (by kernel_rfl) ?_
     refine wsr ?_
     refine wv (.slice (some ⟨g1, 0, none⟩) ((ndL xs).length) cap1) ?_
     refine wv (.int .i64 (1 + (drM ys 4 : Int))) ?_
     refine wv (.slice (some ⟨g3, 0, none⟩) ((fewL (ndL xs) (1 + (drM ys 4 : Int))).length) cap3) ?_
     replace B1 := B1.ext E6
     refine wcl (iCheckShifts_due (ndL xs) ((ndL xs).length) g1 cap1 cs1 S1 (1 + (drM ys 4 : Int)) ((fewL (ndL xs) (1 + (drM ys 4 : Int))).length) g3 cap3 cs3 S3 (by omega) (by omega) hok_ _ B1 B3) ?_
     intro w7 E7
     refine wv (.tuple #[.bool true, .int .i64 0]) ?_
     refine wv (.bool true) ?_
     refine wv (.int .i64 0) ?_
     refine wv (.bool true) ?_
     refine wv (.int .i64 0) ?_
     refine wpList_nil (then_normal ?_)
     refine wsr ?_
     refine wv (.slice (some ⟨g1, 0, none⟩) ((ndL xs).length) cap1) ?_
     refine wv (.int .i64 (1 + (drM ys 4 : Int))) ?_
     refine wv (.slice (some ⟨g3, 0, none⟩) ((fewL (ndL xs) (1 + (drM ys 4 : Int))).length) cap3) ?_
     replace B1 := B1.ext E7
     replace B3 := B3.ext E7
     refine wcl (iFirstShort_due (ndL xs) ((ndL xs).length) g1 cap1 cs1 S1 (1 + (drM ys 4 : Int)) ((fewL (ndL xs) (1 + (drM ys 4 : Int))).length) g3 cap3 cs3 S3 (by omega) (by omega) hok_ _ B1 B3) ?_
     intro w8 E8
     refine wv (.tuple #[.int .i64 (fs0 (ndL xs) (1 + (drM ys 4 : Int)) (fewL (ndL xs) (1 + (drM ys 4 : Int)))), .int .i64 (fs1 (ndL xs) (1 + (drM ys 4 : Int)) (fewL (ndL xs) (1 + (drM ys 4 : Int)))), .int .i64 6]) ?_
     refine wv (.int .i64 (fs0 (ndL xs) (1 + (drM ys 4 : Int)) (fewL (ndL xs) (1 + (drM ys 4 : Int))))) ?_
     refine wv (.int .i64 (fs1 (ndL xs) (1 + (drM ys 4 : Int)) (fewL (ndL xs) (1 + (drM ys 4 : Int))))) ?_
     refine wv (.int .i64 6) ?_
     refine wv (.int .i64 (fs0 (ndL xs) (1 + (drM ys 4 : Int)) (fewL (ndL xs) (1 + (drM ys 4 : Int))))) ?_
     refine wv (.int .i64 (fs1 (ndL xs) (1 + (drM ys 4 : Int)) (fewL (ndL xs) (1 + (drM ys 4 : Int))))) ?_
     refine wv (.int .i64 6) ?_
     refine wpList_nil (then_normal ?_)
     refine wp_seq ?_
     refine wsr ?_
     refine wv (.int .i64 0) ?_
     refine wv (.int .i64 0) ?_
     refine wvv (.bool (0 != 0)) (.bool false) (by simp) ?_
     refine wv (.bool false) ?_
     refine wv (.int .i64 0) ?_
     refine wvv (.bool (0 != 0)) (.bool false) (by simp) ?_
     refine wv (.bool false) ?_
     refine wv (.bool false) ?_
     refine wv (.slice (some ⟨g2, 0, none⟩) ((fewL (ndL xs) (1 + (drM ys 4 : Int))).length) cap2) ?_
     refine wv (.slice (some ⟨g3, 0, none⟩) ((fewL (ndL xs) (1 + (drM ys 4 : Int))).length) cap3) ?_
     replace B2 := ((B2.ext E6).ext E7).ext E8
     replace B3 := B3.ext E8
     refine wcl (SameNumbers_same (fewL (ndL xs) (1 + (drM ys 4 : Int))) g2 cap2 cs2 S2 g3 cap3 cs3 S3 (by omega) _ B2 B3) ?_
     intro w9 E9
     refine wv (.bool false) ?_
     refine wv (.bool false) ?_
     refine wv (.bool false) ?_
     refine wv (.int .i64 0) ?_
     refine wvv (.bool (0 != 0)) (.bool false) (by simp) ?_
     refine wv (.bool false) ?_
     refine wv (.bool false) ?_
     refine wv (.bool true) ?_
     refine wv (.bool false) ?_
     refine wv (.bool false) ?_
     refine wv (.bool false) ?_
     refine wv (.int .i64 6) ?_
     refine wvv (.bool (6 != 6)) (.bool false) (by simp) ?_
     refine wv (.bool false) ?_
     refine wpList_nil (then_normal ?_)
     refine wp_frame (a' := ⟨#[v, v2, undef, undef, .bool false, .slice (some ⟨g1, 0, none⟩) ((ndL xs).length) cap1, .int .i64 (1 + (drM ys 4 : Int)), .slice (some ⟨g2, 0, none⟩) ((fewL (ndL xs) (1 + (drM ys 4 : Int))).length) cap2, .int .i64 0, .slice (some ⟨g3, 0, none⟩) ((fewL (ndL xs) (1 + (drM ys 4 : Int))).length) cap3, .int .i64 0, .bool true, .int .i64 0, .int .i64 (fs0 (ndL xs) (1 + (drM ys 4 : Int)) (fewL (ndL xs) (1 + (drM ys 4 : Int)))), .int .i64 (fs1 (ndL xs) (1 + (drM ys 4 : Int)) (fewL (ndL xs) (1 + (drM ys 4 : Int)))), .int .i64 6, undef, undef, undef, undef, undef, undef, undef, undef, undef, undef, undef, undef, undef, v, .bool (decide (4096 < (xs.length : Int))), .bool false, v2, .bool (decide (4096 < (ys.length : Int))), .bool (decide (4096 < (ys.length : Int))), v, .slice (some ⟨g1, 0, none⟩) ((ndL xs).length) cap1, v2, .int .i64 (drM ys 4 : Int), .int .i64 (1 + (drM ys 4 : Int)), .tuple #[.slice (some ⟨g2, 0, none⟩) ((fewL (ndL xs) (1 + (drM ys 4 : Int))).length) cap2, .int .i64 0], .slice (some ⟨g1, 0, none⟩) ((ndL xs).length) cap1, .int .i64 (1 + (drM ys 4 : Int)), .tuple #[.slice (some ⟨g2, 0, none⟩) ((fewL (ndL xs) (1 + (drM ys 4 : Int))).length) cap2, .int .i64 0], .slice (some ⟨g2, 0, none⟩) ((fewL (ndL xs) (1 + (drM ys 4 : Int))).length) cap2, .int .i64 0, .tuple #[.slice (some ⟨g3, 0, none⟩) ((fewL (ndL xs) (1 + (drM ys 4 : Int))).length) cap3, .int .i64 0], .slice (some ⟨g1, 0, none⟩) ((ndL xs).length) cap1, .int .i64 (1 + (drM ys 4 : Int)), .tuple #[.slice (some ⟨g3, 0, none⟩) ((fewL (ndL xs) (1 + (drM ys 4 : Int))).length) cap3, .int .i64 0], .slice (some ⟨g3, 0, none⟩) ((fewL (ndL xs) (1 + (drM ys 4 : Int))).length) cap3, .int .i64 0, .tuple #[.bool true, .int .i64 0], .slice (some ⟨g1, 0, none⟩) ((ndL xs).length) cap1, .int .i64 (1 + (drM ys 4 : Int)), .slice (some ⟨g3, 0, none⟩) ((fewL (ndL xs) (1 + (drM ys 4 : Int))).length) cap3, .tuple #[.bool true, .int .i64 0], .bool true, .int .i64 0, .tuple #[.int .i64 (fs0 (ndL xs) (1 + (drM ys 4 : Int)) (fewL (ndL xs) (1 + (drM ys 4 : Int)))), .int .i64 (fs1 (ndL xs) (1 + (drM ys 4 : Int)) (fewL (ndL xs) (1 + (drM ys 4 : Int)))), .int .i64 6], .slice (some ⟨g1, 0, none⟩) ((ndL xs).length) cap1, .int .i64 (1 + (drM ys 4 : Int)), .slice (some ⟨g3, 0, none⟩) ((fewL (ndL xs) (1 + (drM ys 4 : Int))).length) cap3, .tuple #[.int .i64 (fs0 (ndL xs) (1 + (drM ys 4 : Int)) (fewL (ndL xs) (1 + (drM ys 4 : Int)))), .int .i64 (fs1 (ndL xs) (1 + (drM ys 4 : Int)) (fewL (ndL xs) (1 + (drM ys 4 : Int)))), .int .i64 6], .int .i64 (fs0 (ndL xs) (1 + (drM ys 4 : Int)) (fewL (ndL xs) (1 + (drM ys 4 : Int)))), .int .i64 (fs1 (ndL xs) (1 + (drM ys 4 : Int)) (fewL (ndL xs) (1 + (drM ys 4 : Int)))), .int .i64 6, .int .i64 0, .int .i64 0, .bool false, .bool false, .int .i64 0, .bool false, .bool false, .bool false, .slice (some ⟨g2, 0, none⟩) ((fewL (ndL xs) (1 + (drM ys 4 : Int))).length) cap2, .slice (some ⟨g3, 0, none⟩) ((fewL (ndL xs) (1 + (drM ys 4 : Int))).length) cap3, .bool true, .bool false, .bool false, .bool false, .int .i64 0, .bool false, .bool false, .bool false, .bool true, .bool false, .bool false, .bool false, .int .i64 6, .bool false, .bool false, undef, undef, undef, undef, undef, undef, undef, undef, undef, undef, undef, undef, undef, undef, undef, undef, undef, undef, undef, undef, undef, undef, undef, undef, undef, undef, undef, undef, undef, undef, undef, undef, undef, undef, undef, undef, undef, undef, undef, undef, undef, undef, undef, undef, undef, undef, undef, undef, undef, undef, undef, undef, undef, undef, undef, undef, undef, undef, undef, undef, undef, undef, undef, undef, undef, undef, undef, undef, undef, undef, undef, undef, undef, undef, undef, undef, undef, undef, undef, undef, undef, undef, undef, undef, undef, undef, undef, undef, undef, undef, undef, undef, undef, undef, undef, undef, undef, undef, undef, undef, undef, undef, undef, undef, undef, undef, undef, undef, undef, undef, undef, undef, undef, undef], []⟩) (by kernel_rfl) ?_
     refine wcf ?_
     refine wp_skip ?_
     refine then_normal ?_
     refine wsr ?_
     refine wv (.int .i64 0) ?_
     refine wpList_nil (then_normal ?_)
     refine wp_seq ?_
     refine wsr ?_
     refine wv (.int .i64 0) ?_
     refine wpList_nil (then_normal ?_)
     refine wp_block ?_
     replace B1 := (B1.ext E8).ext E9
     replace B2 := B2.ext E9
     replace B3 := B3.ext E9
     have H6 := (((H5.trans E6).trans E7).trans E8).trans E9
     refine wp_loop_k (fun m1 a wl1 => ∃ (kn : Nat) (sm : Int), m1 = 11 - kn ∧ gN (ndL xs) (((1 + drM ys 4) : Nat) : Int) kn ≤ sm ∧ 0 ≤ sm ∧ sm ≤ 4 * (kn : Int) ∧ kn ≤ 15 ∧ Ext w wl1 ∧ Blk wl1 g1 2 cs1 ∧ Blk wl1 g2 2 cs2 ∧ Blk wl1 g3 2 cs3 ∧ (∃ J1 : Nat → Value, a = ⟨#[v, v2, undef, undef, .bool false, .slice (some ⟨g1, 0, none⟩) ((ndL xs).length) cap1, .int .i64 (1 + (drM ys 4 : Int)), .slice (some ⟨g2, 0, none⟩) ((fewL (ndL xs) (1 + (drM ys 4 : Int))).length) cap2, .int .i64 0, .slice (some ⟨g3, 0, none⟩) ((fewL (ndL xs) (1 + (drM ys 4 : Int))).length) cap3, .int .i64 0, .bool true, .int .i64 0, .int .i64 (fs0 (ndL xs) (1 + (drM ys 4 : Int)) (fewL (ndL xs) (1 + (drM ys 4 : Int)))), .int .i64 (fs1 (ndL xs) (1 + (drM ys 4 : Int)) (fewL (ndL xs) (1 + (drM ys 4 : Int)))), .int .i64 6, .int .i64 sm, .int .i64 (kn : Int), J1 18, J1 19, undef, undef, undef, undef, undef, undef, undef, undef, undef, v, .bool (decide (4096 < (xs.length : Int))), .bool false, v2, .bool (decide (4096 < (ys.length : Int))), .bool (decide (4096 < (ys.length : Int))), v, .slice (some ⟨g1, 0, none⟩) ((ndL xs).length) cap1, v2, .int .i64 (drM ys 4 : Int), .int .i64 (1 + (drM ys 4 : Int)), .tuple #[.slice (some ⟨g2, 0, none⟩) ((fewL (ndL xs) (1 + (drM ys 4 : Int))).length) cap2, .int .i64 0], .slice (some ⟨g1, 0, none⟩) ((ndL xs).length) cap1, .int .i64 (1 + (drM ys 4 : Int)), .tuple #[.slice (some ⟨g2, 0, none⟩) ((fewL (ndL xs) (1 + (drM ys 4 : Int))).length) cap2, .int .i64 0], .slice (some ⟨g2, 0, none⟩) ((fewL (ndL xs) (1 + (drM ys 4 : Int))).length) cap2, .int .i64 0, .tuple #[.slice (some ⟨g3, 0, none⟩) ((fewL (ndL xs) (1 + (drM ys 4 : Int))).length) cap3, .int .i64 0], .slice (some ⟨g1, 0, none⟩) ((ndL xs).length) cap1, .int .i64 (1 + (drM ys 4 : Int)), .tuple #[.slice (some ⟨g3, 0, none⟩) ((fewL (ndL xs) (1 + (drM ys 4 : Int))).length) cap3, .int .i64 0], .slice (some ⟨g3, 0, none⟩) ((fewL (ndL xs) (1 + (drM ys 4 : Int))).length) cap3, .int .i64 0, .tuple #[.bool true, .int .i64 0], .slice (some ⟨g1, 0, none⟩) ((ndL xs).length) cap1, .int .i64 (1 + (drM ys 4 : Int)), .slice (some ⟨g3, 0, none⟩) ((fewL (ndL xs) (1 + (drM ys 4 : Int))).length) cap3, .tuple #[.bool true, .int .i64 0], .bool true, .int .i64 0, .tuple #[.int .i64 (fs0 (ndL xs) (1 + (drM ys 4 : Int)) (fewL (ndL xs) (1 + (drM ys 4 : Int)))), .int .i64 (fs1 (ndL xs) (1 + (drM ys 4 : Int)) (fewL (ndL xs) (1 + (drM ys 4 : Int)))), .int .i64 6], .slice (some ⟨g1, 0, none⟩) ((ndL xs).length) cap1, .int .i64 (1 + (drM ys 4 : Int)), .slice (some ⟨g3, 0, none⟩) ((fewL (ndL xs) (1 + (drM ys 4 : Int))).length) cap3, .tuple #[.int .i64 (fs0 (ndL xs) (1 + (drM ys 4 : Int)) (fewL (ndL xs) (1 + (drM ys 4 : Int)))), .int .i64 (fs1 (ndL xs) (1 + (drM ys 4 : Int)) (fewL (ndL xs) (1 + (drM ys 4 : Int)))), .int .i64 6], .int .i64 (fs0 (ndL xs) (1 + (drM ys 4 : Int)) (fewL (ndL xs) (1 + (drM ys 4 : Int)))), .int .i64 (fs1 (ndL xs) (1 + (drM ys 4 : Int)) (fewL (ndL xs) (1 + (drM ys 4 : Int)))), .int .i64 6, .int .i64 0, .int .i64 0, .bool false, .bool false, .int .i64 0, .bool false, .bool false, .bool false, .slice (some ⟨g2, 0, none⟩) ((fewL (ndL xs) (1 + (drM ys 4 : Int))).length) cap2, .slice (some ⟨g3, 0, none⟩) ((fewL (ndL xs) (1 + (drM ys 4 : Int))).length) cap3, .bool true, .bool false, .bool false, .bool false, .int .i64 0, .bool false, .bool false, .bool false, .bool true, .bool false, .bool false, .bool false, .int .i64 6, .bool false, .bool false, J1 92, J1 93, J1 94, J1 95, J1 96, J1 97, J1 98, J1 99, J1 100, J1 101, J1 102, J1 103, J1 104, J1 105, J1 106, J1 107, J1 108, J1 109, J1 110, J1 111, J1 112, J1 113, J1 114, J1 115, J1 116, J1 117, J1 118, J1 119, J1 120, J1 121, undef, undef, undef, undef, undef, undef, undef, undef, undef, undef, undef, undef, undef, undef, undef, undef, undef, undef, undef, undef, undef, undef, undef, undef, undef, undef, undef, undef, undef, undef, undef, undef, undef, undef, undef, undef, undef, undef, undef, undef, undef, undef, undef, undef, undef, undef, undef, undef, undef, undef, undef, undef, undef, undef, undef, undef, undef, undef, undef, undef, undef, undef, undef, undef, undef, undef, undef, undef, undef, undef, undef, undef, undef, undef, undef, undef, undef, undef, undef, undef, undef, undef, undef, undef], []⟩)) (11) ?_ ?_
     · refine ⟨0, 0, rfl, ?_, ?_, ?_, ?_, H6, B1, B2, B3, exJ (by kernel_rfl)⟩
       · exact gN_0
       · omega
       · omega
       · omega
     intro m1 a wl1 hI
     obtain ⟨kn, sm, rfl, hsm, hs1, hs2, hkb, HL1, B1, B2, B3, J1, rfl⟩ := hI
     refine wp_seq ?_
     refine wsr ?_
     refine wv (.int .i64 (kn : Int)) ?_
     refine wv (.slice (some ⟨g1, 0, none⟩) ((ndL xs).length) cap1) ?_
     refine wv (.int .i64 ((ndL xs).length : Int)) ?_
     refine wv (.bool (decide ((kn : Int) < ((ndL xs).length : Int)))) ?_
     refine wpList_nil (then_normal ?_)
     refine wsplit (decide ((kn : Int) < ((ndL xs).length : Int))) (fun h3 => ?_) (fun h3 => ?_)
     · skip
       have h3d := dT h3
       refine wp_skip ?_
       refine then_normal ?_
       refine wp_seq ?_
       refine wp_block ?_
       refine wsr ?_
       refine wv (.int .i64 0) ?_
       refine wpList_nil (then_normal ?_)
       refine wp_seq ?_
       refine wsr ?_
       refine wv (.int .i64 (kn : Int)) ?_
       refine wv (.int .i64 (kn : Int)) ?_
       refine wpList_nil (then_normal ?_)
       refine wp_block ?_
       refine wp_loop_k (fun m2 a wl2 => ∃ (hn_ : Nat) (mo : Int), m2 = kn + (1 + drM ys 4) - hn_ ∧ kn ≤ hn_ ∧ hn_ ≤ kn + (1 + drM ys 4) ∧ hn_ ≤ (ndL xs).length ∧ 0 ≤ mo ∧ mo ≤ 4 ∧ (∀ j, kn ≤ j → j < hn_ → atI (ndL xs) j ≤ mo) ∧ Ext w wl2 ∧ Blk wl2 g1 2 cs1 ∧ Blk wl2 g2 2 cs2 ∧ Blk wl2 g3 2 cs3 ∧ (∃ J2 : Nat → Value, a = ⟨#[v, v2, undef, undef, .bool false, .slice (some ⟨g1, 0, none⟩) ((ndL xs).length) cap1, .int .i64 (1 + (drM ys 4 : Int)), .slice (some ⟨g2, 0, none⟩) ((fewL (ndL xs) (1 + (drM ys 4 : Int))).length) cap2, .int .i64 0, .slice (some ⟨g3, 0, none⟩) ((fewL (ndL xs) (1 + (drM ys 4 : Int))).length) cap3, .int .i64 0, .bool true, .int .i64 0, .int .i64 (fs0 (ndL xs) (1 + (drM ys 4 : Int)) (fewL (ndL xs) (1 + (drM ys 4 : Int)))), .int .i64 (fs1 (ndL xs) (1 + (drM ys 4 : Int)) (fewL (ndL xs) (1 + (drM ys 4 : Int)))), .int .i64 6, .int .i64 sm, .int .i64 (kn : Int), .int .i64 mo, .int .i64 (hn_ : Int), undef, undef, undef, undef, undef, undef, undef, undef, undef, v, .bool (decide (4096 < (xs.length : Int))), .bool false, v2, .bool (decide (4096 < (ys.length : Int))), .bool (decide (4096 < (ys.length : Int))), v, .slice (some ⟨g1, 0, none⟩) ((ndL xs).length) cap1, v2, .int .i64 (drM ys 4 : Int), .int .i64 (1 + (drM ys 4 : Int)), .tuple #[.slice (some ⟨g2, 0, none⟩) ((fewL (ndL xs) (1 + (drM ys 4 : Int))).length) cap2, .int .i64 0], .slice (some ⟨g1, 0, none⟩) ((ndL xs).length) cap1, .int .i64 (1 + (drM ys 4 : Int)), .tuple #[.slice (some ⟨g2, 0, none⟩) ((fewL (ndL xs) (1 + (drM ys 4 : Int))).length) cap2, .int .i64 0], .slice (some ⟨g2, 0, none⟩) ((fewL (ndL xs) (1 + (drM ys 4 : Int))).length) cap2, .int .i64 0, .tuple #[.slice (some ⟨g3, 0, none⟩) ((fewL (ndL xs) (1 + (drM ys 4 : Int))).length) cap3, .int .i64 0], .slice (some ⟨g1, 0, none⟩) ((ndL xs).length) cap1, .int .i64 (1 + (drM ys 4 : Int)), .tuple #[.slice (some ⟨g3, 0, none⟩) ((fewL (ndL xs) (1 + (drM ys 4 : Int))).length) cap3, .int .i64 0], .slice (some ⟨g3, 0, none⟩) ((fewL (ndL xs) (1 + (drM ys 4 : Int))).length) cap3, .int .i64 0, .tuple #[.bool true, .int .i64 0], .slice (some ⟨g1, 0, none⟩) ((ndL xs).length) cap1, .int .i64 (1 + (drM ys 4 : Int)), .slice (some ⟨g3, 0, none⟩) ((fewL (ndL xs) (1 + (drM ys 4 : Int))).length) cap3, .tuple #[.bool true, .int .i64 0], .bool true, .int .i64 0, .tuple #[.int .i64 (fs0 (ndL xs) (1 + (drM ys 4 : Int)) (fewL (ndL xs) (1 + (drM ys 4 : Int)))), .int .i64 (fs1 (ndL xs) (1 + (drM ys 4 : Int)) (fewL (ndL xs) (1 + (drM ys 4 : Int)))), .int .i64 6], .slice (some ⟨g1, 0, none⟩) ((ndL xs).length) cap1, .int .i64 (1 + (drM ys 4 : Int)), .slice (some ⟨g3, 0, none⟩) ((fewL (ndL xs) (1 + (drM ys 4 : Int))).length) cap3, .tuple #[.int .i64 (fs0 (ndL xs) (1 + (drM ys 4 : Int)) (fewL (ndL xs) (1 + (drM ys 4 : Int)))), .int .i64 (fs1 (ndL xs) (1 + (drM ys 4 : Int)) (fewL (ndL xs) (1 + (drM ys 4 : Int)))), .int .i64 6], .int .i64 (fs0 (ndL xs) (1 + (drM ys 4 : Int)) (fewL (ndL xs) (1 + (drM ys 4 : Int)))), .int .i64 (fs1 (ndL xs) (1 + (drM ys 4 : Int)) (fewL (ndL xs) (1 + (drM ys 4 : Int)))), .int .i64 6, .int .i64 0, .int .i64 0, .bool false, .bool false, .int .i64 0, .bool false, .bool false, .bool false, .slice (some ⟨g2, 0, none⟩) ((fewL (ndL xs) (1 + (drM ys 4 : Int))).length) cap2, .slice (some ⟨g3, 0, none⟩) ((fewL (ndL xs) (1 + (drM ys 4 : Int))).length) cap3, .bool true, .bool false, .bool false, .bool false, .int .i64 0, .bool false, .bool false, .bool false, .bool true, .bool false, .bool false, .bool false, .int .i64 6, .bool false, .bool false, .int .i64 (kn : Int), .slice (some ⟨g1, 0, none⟩) ((ndL xs).length) cap1, .int .i64 ((ndL xs).length : Int), .bool (decide ((kn : Int) < ((ndL xs).length : Int))), J1 96, J1 97, J1 98, .int .i64 (kn : Int), J2 100, J2 101, J2 102, J2 103, J2 104, J2 105, J2 106, J2 107, J2 108, J2 109, J2 110, J2 111, J2 112, J2 113, J2 114, J2 115, J2 116, J2 117, J2 118, J1 119, J1 120, J1 121, undef, undef, undef, undef, undef, undef, undef, undef, undef, undef, undef, undef, undef, undef, undef, undef, undef, undef, undef, undef, undef, undef, undef, undef, undef, undef, undef, undef, undef, undef, undef, undef, undef, undef, undef, undef, undef, undef, undef, undef, undef, undef, undef, undef, undef, undef, undef, undef, undef, undef, undef, undef, undef, undef, undef, undef, undef, undef, undef, undef, undef, undef, undef, undef, undef, undef, undef, undef, undef, undef, undef, undef, undef, undef, undef, undef, undef, undef, undef, undef, undef, undef, undef, undef], []⟩)) (kn + (1 + drM ys 4) - kn) ?_ ?_
       · refine ⟨kn, 0, rfl, ?_, ?_, ?_, ?_, ?_, ?_, HL1, B1, B2, B3, exJ (by kernel_rfl)⟩
         · omega
         · omega
         · omega
         · omega
         · omega
         · intro j h1 h2; omega
       intro m2 a wl2 hI
       obtain ⟨hn_, mo, rfl, hh1, hh2, hh3, hmo, hm4, hmj, HL2, B1, B2, B3, J2, rfl⟩ := hI
       have ni_ := ndL_in (xs := xs) hn_
       refine wp_seq ?_
       refine wsr ?_
       refine wv (.int .i64 (hn_ : Int)) ?_
       refine wv (.int .i64 (kn : Int)) ?_
       refine wv (.int .i64 (1 + (drM ys 4 : Int))) ?_
       refine wi64 ((kn : Int) + (1 + (drM ys 4 : Int))) ?_
       refine wv (.bool (decide ((hn_ : Int) < (kn : Int) + (1 + (drM ys 4 : Int))))) ?_
       refine wv (.bool (decide ((hn_ : Int) < (kn : Int) + (1 + (drM ys 4 : Int))))) ?_
       refine split_bool (decide ((hn_ : Int) < (kn : Int) + (1 + (drM ys 4 : Int)))) (fun h4 => ?_) (fun h4 => ?_)
       · skip
         refine wbl 105 true h4 ?_
         have h4d := dT h4
         refine wv (.int .i64 (hn_ : Int)) ?_
         refine wv (.slice (some ⟨g1, 0, none⟩) ((ndL xs).length) cap1) ?_
         refine wv (.int .i64 ((ndL xs).length : Int)) ?_
         refine wv (.bool (decide ((hn_ : Int) < ((ndL xs).length : Int)))) ?_
         refine wv (.bool (decide ((hn_ : Int) < ((ndL xs).length : Int)))) ?_
         refine wpList_nil (then_normal ?_)
         refine wsplit (decide ((hn_ : Int) < ((ndL xs).length : Int))) (fun h5 => ?_) (fun h5 => ?_)
         · skip
           have h5d := dT h5
           refine wp_skip ?_
           refine then_normal ?_
           refine wp_seq ?_
           refine wp_block ?_
           refine wp_region_lit ?_
           refine wv (.int .i64 mo) ?_
           refine wv (.slice (some ⟨g1, 0, none⟩) ((ndL xs).length) cap1) ?_
           refine wv (.int .i64 (hn_ : Int)) ?_
           refine wsix1 g1 0 ((ndL xs).length) cap1 hn_ .i64 slit__int64 ?_
           refine wld g1 (0 + hn_) scal_int64 (B1.get (SlI.get S1 (by omega))) ?_
           have ma1 := maxI_b mo (atI (ndL xs) hn_)
           refine wvv (.int .i64 (if (atI (ndL xs) hn_) > mo then (atI (ndL xs) hn_) else mo)) (.int .i64 (maxI mo (atI (ndL xs) hn_))) (congrArg _ (maxI_eq _ _)) ?_
           refine wv (.int .i64 (maxI mo (atI (ndL xs) hn_))) ?_
           refine wpList_nil (block_normal (then_normal ?_))
           refine wp_region_lit ?_
           refine wv (.int .i64 (hn_ : Int)) ?_
           refine wi64 ((hn_ : Int) + 1) ?_
           refine wv (.int .i64 ((hn_ : Int) + 1)) ?_
           refine wpList_nil (then_normal ?_)
           refine ⟨_, ?_, hn_ + 1, maxI mo (atI (ndL xs) hn_), rfl, ?_, ?_, ?_, ?_, ?_, ?_, HL2, B1, B2, B3, exJ (by kernel_rfl)⟩
           · omega
           · omega
           · omega
           · omega
           · omega
           · omega
           · intro j h1 h2
             rcases (by omega : j < hn_ ∨ j = hn_) with h_ | h_
             · have := hmj j h1 h_; omega
             · rw [h_]; omega
         · skip
           have h5d := dF h5
           refine wp_exit ?_
           refine then_exit ?_
           refine then_exit ?_
           refine block_exit ?_
           refine then_normal ?_
           refine wp_region_lit ?_
           refine wv (.int .i64 sm) ?_
           refine wv (.int .i64 mo) ?_
           refine wi64 (sm + mo) ?_
           refine wv (.int .i64 (sm + mo)) ?_
           refine wpList_nil (block_normal (then_normal ?_))
           refine wp_region_lit ?_
           refine wv (.int .i64 (kn : Int)) ?_
           refine wv (.int .i64 (1 + (drM ys 4 : Int))) ?_
           refine wi64 ((kn : Int) + (1 + (drM ys 4 : Int))) ?_
           refine wv (.int .i64 ((kn : Int) + (1 + (drM ys 4 : Int)))) ?_
           refine wpList_nil (then_normal ?_)
           refine ⟨_, ?_, kn + (1 + drM ys 4), sm + mo, rfl, ?_, ?_, ?_, ?_, HL2, B1, B2, B3, exJ (by kernel_rfl)⟩
           · omega
           · exact gN_s (k := kn) (m := hn_) (l := (1 + drM ys 4)) (by omega) hmo (by omega) hsm (by omega) (by omega) (by omega) (by omega) hmj
           · omega
           · omega
           · omega
       · skip
         refine wbl 105 false h4 ?_
         have h4d := dF h4
         refine wsk ?_
         refine wsk ?_
         refine wsk ?_
         refine wsk ?_
         refine wv (.bool false) ?_
         refine wpList_nil (then_normal ?_)
         refine wcf ?_
         refine wp_exit ?_
         refine then_exit ?_
         refine then_exit ?_
         refine block_exit ?_
         refine then_normal ?_
         refine wp_region_lit ?_
         refine wv (.int .i64 sm) ?_
         refine wv (.int .i64 mo) ?_
         refine wi64 (sm + mo) ?_
         refine wv (.int .i64 (sm + mo)) ?_
         refine wpList_nil (block_normal (then_normal ?_))
         refine wp_region_lit ?_
         refine wv (.int .i64 (kn : Int)) ?_
         refine wv (.int .i64 (1 + (drM ys 4 : Int))) ?_
         refine wi64 ((kn : Int) + (1 + (drM ys 4 : Int))) ?_
         refine wv (.int .i64 ((kn : Int) + (1 + (drM ys 4 : Int)))) ?_
         refine wpList_nil (then_normal ?_)
         refine ⟨_, ?_, kn + (1 + drM ys 4), sm + mo, rfl, ?_, ?_, ?_, ?_, HL2, B1, B2, B3, exJ (by kernel_rfl)⟩
         · omega
         · exact gN_s (k := kn) (m := hn_) (l := (1 + drM ys 4)) (by omega) hmo (by omega) hsm (by omega) (by omega) (by omega) (by omega) hmj
         · omega
         · omega
         · omega
     · skip
       have h3d := dF h3
       refine wp_exit ?_
       refine then_exit ?_
       refine then_exit ?_
       refine block_exit ?_
       refine then_normal ?_
       refine wsr ?_
       refine wv (.int .i64 0) ?_
       refine wpList_nil (then_normal ?_)
       refine wp_seq ?_
       refine wsr ?_
       refine wv (.int .i64 0) ?_
       refine wpList_nil (then_normal ?_)
       refine wp_block ?_
       refine wp_loop_k (fun m3 a wl3 => ∃ (i : Nat) (lv : Int), m3 = (ndL xs).length - i ∧ i ≤ (ndL xs).length ∧ 0 ≤ lv ∧ lv ≤ ((fewL (ndL xs) (1 + (drM ys 4 : Int))).length : Int) ∧ Ext w wl3 ∧ Blk wl3 g1 2 cs1 ∧ Blk wl3 g2 2 cs2 ∧ Blk wl3 g3 2 cs3 ∧ (∃ J3 : Nat → Value, a = ⟨#[v, v2, undef, undef, .bool false, .slice (some ⟨g1, 0, none⟩) ((ndL xs).length) cap1, .int .i64 (1 + (drM ys 4 : Int)), .slice (some ⟨g2, 0, none⟩) ((fewL (ndL xs) (1 + (drM ys 4 : Int))).length) cap2, .int .i64 0, .slice (some ⟨g3, 0, none⟩) ((fewL (ndL xs) (1 + (drM ys 4 : Int))).length) cap3, .int .i64 0, .bool true, .int .i64 0, .int .i64 (fs0 (ndL xs) (1 + (drM ys 4 : Int)) (fewL (ndL xs) (1 + (drM ys 4 : Int)))), .int .i64 (fs1 (ndL xs) (1 + (drM ys 4 : Int)) (fewL (ndL xs) (1 + (drM ys 4 : Int)))), .int .i64 6, .int .i64 sm, .int .i64 (kn : Int), J1 18, J1 19, .int .i64 lv, .int .i64 (i : Int), undef, undef, undef, undef, undef, undef, undef, v, .bool (decide (4096 < (xs.length : Int))), .bool false, v2, .bool (decide (4096 < (ys.length : Int))), .bool (decide (4096 < (ys.length : Int))), v, .slice (some ⟨g1, 0, none⟩) ((ndL xs).length) cap1, v2, .int .i64 (drM ys 4 : Int), .int .i64 (1 + (drM ys 4 : Int)), .tuple #[.slice (some ⟨g2, 0, none⟩) ((fewL (ndL xs) (1 + (drM ys 4 : Int))).length) cap2, .int .i64 0], .slice (some ⟨g1, 0, none⟩) ((ndL xs).length) cap1, .int .i64 (1 + (drM ys 4 : Int)), .tuple #[.slice (some ⟨g2, 0, none⟩) ((fewL (ndL xs) (1 + (drM ys 4 : Int))).length) cap2, .int .i64 0], .slice (some ⟨g2, 0, none⟩) ((fewL (ndL xs) (1 + (drM ys 4 : Int))).length) cap2, .int .i64 0, .tuple #[.slice (some ⟨g3, 0, none⟩) ((fewL (ndL xs) (1 + (drM ys 4 : Int))).length) cap3, .int .i64 0], .slice (some ⟨g1, 0, none⟩) ((ndL xs).length) cap1, .int .i64 (1 + (drM ys 4 : Int)), .tuple #[.slice (some ⟨g3, 0, none⟩) ((fewL (ndL xs) (1 + (drM ys 4 : Int))).length) cap3, .int .i64 0], .slice (some ⟨g3, 0, none⟩) ((fewL (ndL xs) (1 + (drM ys 4 : Int))).length) cap3, .int .i64 0, .tuple #[.bool true, .int .i64 0], .slice (some ⟨g1, 0, none⟩) ((ndL xs).length) cap1, .int .i64 (1 + (drM ys 4 : Int)), .slice (some ⟨g3, 0, none⟩) ((fewL (ndL xs) (1 + (drM ys 4 : Int))).length) cap3, .tuple #[.bool true, .int .i64 0], .bool true, .int .i64 0, .tuple #[.int .i64 (fs0 (ndL xs) (1 + (drM ys 4 : Int)) (fewL (ndL xs) (1 + (drM ys 4 : Int)))), .int .i64 (fs1 (ndL xs) (1 + (drM ys 4 : Int)) (fewL (ndL xs) (1 + (drM ys 4 : Int)))), .int .i64 6], .slice (some ⟨g1, 0, none⟩) ((ndL xs).length) cap1, .int .i64 (1 + (drM ys 4 : Int)), .slice (some ⟨g3, 0, none⟩) ((fewL (ndL xs) (1 + (drM ys 4 : Int))).length) cap3, .tuple #[.int .i64 (fs0 (ndL xs) (1 + (drM ys 4 : Int)) (fewL (ndL xs) (1 + (drM ys 4 : Int)))), .int .i64 (fs1 (ndL xs) (1 + (drM ys 4 : Int)) (fewL (ndL xs) (1 + (drM ys 4 : Int)))), .int .i64 6], .int .i64 (fs0 (ndL xs) (1 + (drM ys 4 : Int)) (fewL (ndL xs) (1 + (drM ys 4 : Int)))), .int .i64 (fs1 (ndL xs) (1 + (drM ys 4 : Int)) (fewL (ndL xs) (1 + (drM ys 4 : Int)))), .int .i64 6, .int .i64 0, .int .i64 0, .bool false, .bool false, .int .i64 0, .bool false, .bool false, .bool false, .slice (some ⟨g2, 0, none⟩) ((fewL (ndL xs) (1 + (drM ys 4 : Int))).length) cap2, .slice (some ⟨g3, 0, none⟩) ((fewL (ndL xs) (1 + (drM ys 4 : Int))).length) cap3, .bool true, .bool false, .bool false, .bool false, .int .i64 0, .bool false, .bool false, .bool false, .bool true, .bool false, .bool false, .bool false, .int .i64 6, .bool false, .bool false, .int .i64 (kn : Int), .slice (some ⟨g1, 0, none⟩) ((ndL xs).length) cap1, .int .i64 ((ndL xs).length : Int), .bool (decide ((kn : Int) < ((ndL xs).length : Int))), J1 96, J1 97, J1 98, J1 99, J1 100, J1 101, J1 102, J1 103, J1 104, J1 105, J1 106, J1 107, J1 108, J1 109, J1 110, J1 111, J1 112, J1 113, J1 114, J1 115, J1 116, J1 117, J1 118, J1 119, J1 120, J1 121, J3 122, J3 123, J3 124, J3 125, J3 126, J3 127, J3 128, J3 129, J3 130, J3 131, J3 132, J3 133, undef, undef, undef, undef, undef, undef, undef, undef, undef, undef, undef, undef, undef, undef, undef, undef, undef, undef, undef, undef, undef, undef, undef, undef, undef, undef, undef, undef, undef, undef, undef, undef, undef, undef, undef, undef, undef, undef, undef, undef, undef, undef, undef, undef, undef, undef, undef, undef, undef, undef, undef, undef, undef, undef, undef, undef, undef, undef, undef, undef, undef, undef, undef, undef, undef, undef, undef, undef, undef, undef, undef, undef], []⟩)) ((ndL xs).length) ?_ ?_
       · refine ⟨0, 0, rfl, ?_, ?_, ?_, HL1, B1, B2, B3, exJ (by kernel_rfl)⟩
         · omega
         · omega
         · omega
       intro m3 a wl3 hI
       obtain ⟨i, lv, rfl, hi_, hv1, hv2, HL3, B1, B2, B3, J3, rfl⟩ := hI
       have ni_ := ndL_in (xs := xs) i
       refine wp_seq ?_
       refine wsr ?_
       refine wv (.int .i64 (i : Int)) ?_
       refine wv (.slice (some ⟨g1, 0, none⟩) ((ndL xs).length) cap1) ?_
       refine wv (.int .i64 ((ndL xs).length : Int)) ?_
       refine wv (.bool (decide ((i : Int) < ((ndL xs).length : Int)))) ?_
       refine wpList_nil (then_normal ?_)
       refine wsplit (decide ((i : Int) < ((ndL xs).length : Int))) (fun h6 => ?_) (fun h6 => ?_)
       · skip
         have h6d := dT h6
         refine wp_skip ?_
         refine then_normal ?_
         refine wp_seq ?_
         refine wp_block ?_
         refine wp_region_lit ?_
         refine wv (.int .i64 lv) ?_
         refine wv (.slice (some ⟨g1, 0, none⟩) ((ndL xs).length) cap1) ?_
         refine wv (.int .i64 (i : Int)) ?_
         refine wsix1 g1 0 ((ndL xs).length) cap1 i .i64 slit__int64 ?_
         refine wld g1 (0 + i) scal_int64 (B1.get (SlI.get S1 (by omega))) ?_
         have ma2 := maxI_b lv (atI (ndL xs) i)
         refine wvv (.int .i64 (if (atI (ndL xs) i) > lv then (atI (ndL xs) i) else lv)) (.int .i64 (maxI lv (atI (ndL xs) i))) (congrArg _ (maxI_eq _ _)) ?_
         refine wv (.int .i64 (maxI lv (atI (ndL xs) i))) ?_
         refine wpList_nil (block_normal (then_normal ?_))
         refine wp_region_lit ?_
         refine wv (.int .i64 (i : Int)) ?_
         refine wi64 ((i : Int) + 1) ?_
         refine wv (.int .i64 ((i : Int) + 1)) ?_
         refine wpList_nil (then_normal ?_)
         refine ⟨_, ?_, i + 1, maxI lv (atI (ndL xs) i), rfl, ?_, ?_, ?_, HL3, B1, B2, B3, exJ (by kernel_rfl)⟩
         · omega
         · omega
         · omega
         · have fl_ := few_least (need := ndL xs) (len := 1 + (drM ys 4 : Int)) hl1_ (n := i) (by omega)
           omega
       · skip
         have h6d := dF h6
         refine wp_exit ?_
         refine then_exit ?_
         refine then_exit ?_
         refine block_exit ?_
         refine then_normal ?_
         refine wp_seq ?_
         refine wsr ?_
         refine wv (.slice (some ⟨g3, 0, none⟩) ((fewL (ndL xs) (1 + (drM ys 4 : Int))).length) cap3) ?_
         refine wv (.int .i64 ((fewL (ndL xs) (1 + (drM ys 4 : Int))).length : Int)) ?_
         refine wv (.int .i64 sm) ?_
         refine wv (.bool (decide (sm < ((fewL (ndL xs) (1 + (drM ys 4 : Int))).length : Int)))) ?_
         refine wv (.bool (decide (sm < ((fewL (ndL xs) (1 + (drM ys 4 : Int))).length : Int)))) ?_
         refine split_bool (decide (sm < ((fewL (ndL xs) (1 + (drM ys 4 : Int))).length : Int))) (fun h7 => ?_) (fun h7 => ?_)
         · skip
           refine wbl 138 true h7 ?_
           have h7d := dT h7
           refine wsk ?_
           refine wsk ?_
           refine wsk ?_
           refine wsk ?_
           refine wv (.bool true) ?_
           refine wpList_nil (then_normal ?_)
           refine wct ?_
           refine wsr ?_
           refine wv (.bool false) ?_
           refine wpList_nil (then_normal ?_)
           refine wp_ret ?_
           refine then_ret ?_
           refine ret1 (.bool true) rfl ?_ rfl ?_
           · refine (resT (v := .bool false) (by kernel_rfl)).trans ?_
             refine congrArg Value.bool ?_
             exfalso; have ge_ := gN_end (need := ndL xs) (len := (((1 + drM ys 4) : Nat) : Int)) (k := kn) (by omega)
             have ce_ : (((1 + drM ys 4) : Nat) : Int) = 1 + (drM ys 4 : Int) := by omega
             rw [ce_] at ge_ hsm
             omega
           exact ⟨rfl, HL3⟩
         · skip
           refine wbl 138 false h7 ?_
           have h7d := dF h7
           refine wv (.slice (some ⟨g3, 0, none⟩) ((fewL (ndL xs) (1 + (drM ys 4 : Int))).length) cap3) ?_
           refine wv (.int .i64 ((fewL (ndL xs) (1 + (drM ys 4 : Int))).length : Int)) ?_
           refine wv (.int .i64 lv) ?_
           refine wv (.bool (decide (((fewL (ndL xs) (1 + (drM ys 4 : Int))).length : Int) < lv))) ?_
           refine wv (.bool (decide (((fewL (ndL xs) (1 + (drM ys 4 : Int))).length : Int) < lv))) ?_
           refine wpList_nil (then_normal ?_)
           refine wsplit (decide (((fewL (ndL xs) (1 + (drM ys 4 : Int))).length : Int) < lv)) (fun h8 => ?_) (fun h8 => ?_)
           · skip
             have h8d := dT h8
             refine wsr ?_
             refine wv (.bool false) ?_
             refine wpList_nil (then_normal ?_)
             refine wp_ret ?_
             refine then_ret ?_
             refine ret1 (.bool true) rfl ?_ rfl ?_
             · refine (resT (v := .bool false) (by kernel_rfl)).trans ?_
               refine congrArg Value.bool ?_
               exfalso; have ge_ := gN_end (need := ndL xs) (len := (((1 + drM ys 4) : Nat) : Int)) (k := kn) (by omega)
               have ce_ : (((1 + drM ys 4) : Nat) : Int) = 1 + (drM ys 4 : Int) := by omega
               rw [ce_] at ge_ hsm
               omega
             exact ⟨rfl, HL3⟩
           · skip
             have h8d := dF h8
             refine wp_skip ?_
             refine then_normal ?_
             refine wp_seq ?_
             refine wsr ?_
             refine wv (.int .i64 0) ?_
             refine wpList_nil (then_normal ?_)
             refine wp_block ?_
             refine wp_loop_k (fun m4 a wl4 => ∃ (q : Nat), m4 = (fewL (ndL xs) (1 + (drM ys 4 : Int))).length - q ∧ q ≤ (fewL (ndL xs) (1 + (drM ys 4 : Int))).length ∧ Ext w wl4 ∧ Blk wl4 g1 2 cs1 ∧ Blk wl4 g2 2 cs2 ∧ Blk wl4 g3 2 cs3 ∧ (∃ J4 : Nat → Value, a = ⟨#[v, v2, undef, undef, J4 4, .slice (some ⟨g1, 0, none⟩) ((ndL xs).length) cap1, .int .i64 (1 + (drM ys 4 : Int)), .slice (some ⟨g2, 0, none⟩) ((fewL (ndL xs) (1 + (drM ys 4 : Int))).length) cap2, .int .i64 0, .slice (some ⟨g3, 0, none⟩) ((fewL (ndL xs) (1 + (drM ys 4 : Int))).length) cap3, .int .i64 0, .bool true, .int .i64 0, .int .i64 (fs0 (ndL xs) (1 + (drM ys 4 : Int)) (fewL (ndL xs) (1 + (drM ys 4 : Int)))), .int .i64 (fs1 (ndL xs) (1 + (drM ys 4 : Int)) (fewL (ndL xs) (1 + (drM ys 4 : Int)))), .int .i64 6, .int .i64 sm, .int .i64 (kn : Int), J1 18, J1 19, .int .i64 lv, .int .i64 (i : Int), .int .i64 (q : Int), J4 23, J4 24, J4 25, J4 26, J4 27, J4 28, v, .bool (decide (4096 < (xs.length : Int))), .bool false, v2, .bool (decide (4096 < (ys.length : Int))), .bool (decide (4096 < (ys.length : Int))), v, .slice (some ⟨g1, 0, none⟩) ((ndL xs).length) cap1, v2, .int .i64 (drM ys 4 : Int), .int .i64 (1 + (drM ys 4 : Int)), .tuple #[.slice (some ⟨g2, 0, none⟩) ((fewL (ndL xs) (1 + (drM ys 4 : Int))).length) cap2, .int .i64 0], .slice (some ⟨g1, 0, none⟩) ((ndL xs).length) cap1, .int .i64 (1 + (drM ys 4 : Int)), .tuple #[.slice (some ⟨g2, 0, none⟩) ((fewL (ndL xs) (1 + (drM ys 4 : Int))).length) cap2, .int .i64 0], .slice (some ⟨g2, 0, none⟩) ((fewL (ndL xs) (1 + (drM ys 4 : Int))).length) cap2, .int .i64 0, .tuple #[.slice (some ⟨g3, 0, none⟩) ((fewL (ndL xs) (1 + (drM ys 4 : Int))).length) cap3, .int .i64 0], .slice (some ⟨g1, 0, none⟩) ((ndL xs).length) cap1, .int .i64 (1 + (drM ys 4 : Int)), .tuple #[.slice (some ⟨g3, 0, none⟩) ((fewL (ndL xs) (1 + (drM ys 4 : Int))).length) cap3, .int .i64 0], .slice (some ⟨g3, 0, none⟩) ((fewL (ndL xs) (1 + (drM ys 4 : Int))).length) cap3, .int .i64 0, .tuple #[.bool true, .int .i64 0], .slice (some ⟨g1, 0, none⟩) ((ndL xs).length) cap1, .int .i64 (1 + (drM ys 4 : Int)), .slice (some ⟨g3, 0, none⟩) ((fewL (ndL xs) (1 + (drM ys 4 : Int))).length) cap3, .tuple #[.bool true, .int .i64 0], .bool true, .int .i64 0, .tuple #[.int .i64 (fs0 (ndL xs) (1 + (drM ys 4 : Int)) (fewL (ndL xs) (1 + (drM ys 4 : Int)))), .int .i64 (fs1 (ndL xs) (1 + (drM ys 4 : Int)) (fewL (ndL xs) (1 + (drM ys 4 : Int)))), .int .i64 6], .slice (some ⟨g1, 0, none⟩) ((ndL xs).length) cap1, .int .i64 (1 + (drM ys 4 : Int)), .slice (some ⟨g3, 0, none⟩) ((fewL (ndL xs) (1 + (drM ys 4 : Int))).length) cap3, .tuple #[.int .i64 (fs0 (ndL xs) (1 + (drM ys 4 : Int)) (fewL (ndL xs) (1 + (drM ys 4 : Int)))), .int .i64 (fs1 (ndL xs) (1 + (drM ys 4 : Int)) (fewL (ndL xs) (1 + (drM ys 4 : Int)))), .int .i64 6], .int .i64 (fs0 (ndL xs) (1 + (drM ys 4 : Int)) (fewL (ndL xs) (1 + (drM ys 4 : Int)))), .int .i64 (fs1 (ndL xs) (1 + (drM ys 4 : Int)) (fewL (ndL xs) (1 + (drM ys 4 : Int)))), .int .i64 6, .int .i64 0, .int .i64 0, .bool false, .bool false, .int .i64 0, .bool false, .bool false, .bool false, .slice (some ⟨g2, 0, none⟩) ((fewL (ndL xs) (1 + (drM ys 4 : Int))).length) cap2, .slice (some ⟨g3, 0, none⟩) ((fewL (ndL xs) (1 + (drM ys 4 : Int))).length) cap3, .bool true, .bool false, .bool false, .bool false, .int .i64 0, .bool false, .bool false, .bool false, .bool true, .bool false, .bool false, .bool false, .int .i64 6, .bool false, .bool false, .int .i64 (kn : Int), .slice (some ⟨g1, 0, none⟩) ((ndL xs).length) cap1, .int .i64 ((ndL xs).length : Int), .bool (decide ((kn : Int) < ((ndL xs).length : Int))), J1 96, J1 97, J1 98, J1 99, J1 100, J1 101, J1 102, J1 103, J1 104, J1 105, J1 106, J1 107, J1 108, J1 109, J1 110, J1 111, J1 112, J1 113, J1 114, J1 115, J1 116, J1 117, J1 118, J1 119, J1 120, J1 121, .int .i64 (i : Int), .slice (some ⟨g1, 0, none⟩) ((ndL xs).length) cap1, .int .i64 ((ndL xs).length : Int), .bool (decide ((i : Int) < ((ndL xs).length : Int))), J3 126, J3 127, J3 128, J3 129, J3 130, J3 131, J3 132, J3 133, .slice (some ⟨g3, 0, none⟩) ((fewL (ndL xs) (1 + (drM ys 4 : Int))).length) cap3, .int .i64 ((fewL (ndL xs) (1 + (drM ys 4 : Int))).length : Int), .int .i64 sm, .bool (decide (sm < ((fewL (ndL xs) (1 + (drM ys 4 : Int))).length : Int))), .bool false, .slice (some ⟨g3, 0, none⟩) ((fewL (ndL xs) (1 + (drM ys 4 : Int))).length) cap3, .int .i64 ((fewL (ndL xs) (1 + (drM ys 4 : Int))).length : Int), .int .i64 lv, .bool (decide (((fewL (ndL xs) (1 + (drM ys 4 : Int))).length : Int) < lv)), .bool (decide (((fewL (ndL xs) (1 + (drM ys 4 : Int))).length : Int) < lv)), J4 144, J4 145, J4 146, J4 147, J4 148, J4 149, J4 150, J4 151, J4 152, J4 153, J4 154, J4 155, J4 156, J4 157, J4 158, J4 159, J4 160, J4 161, J4 162, J4 163, J4 164, J4 165, J4 166, J4 167, J4 168, J4 169, J4 170, J4 171, J4 172, J4 173, J4 174, J4 175, J4 176, J4 177, J4 178, J4 179, J4 180, J4 181, J4 182, J4 183, J4 184, J4 185, J4 186, J4 187, J4 188, J4 189, J4 190, J4 191, J4 192, J4 193, J4 194, J4 195, J4 196, J4 197, J4 198, J4 199, J4 200, J4 201, J4 202, J4 203, J4 204, J4 205], []⟩)) ((fewL (ndL xs) (1 + (drM ys 4 : Int))).length) ?_ ?_
             · refine ⟨0, rfl, ?_, HL3, B1, B2, B3, exJ (by kernel_rfl)⟩
               · omega
             intro m4 a wl4 hI
             obtain ⟨q, rfl, hi_, HL4, B1, B2, B3, J4, rfl⟩ := hI
             have hq_ := hD_ q
             refine wp_seq ?_
             refine wsr ?_
             refine wv (.int .i64 (q : Int)) ?_
             refine wv (.slice (some ⟨g3, 0, none⟩) ((fewL (ndL xs) (1 + (drM ys 4 : Int))).length) cap3) ?_
             refine wv (.int .i64 ((fewL (ndL xs) (1 + (drM ys 4 : Int))).length : Int)) ?_
             refine wv (.bool (decide ((q : Int) < ((fewL (ndL xs) (1 + (drM ys 4 : Int))).length : Int)))) ?_
             refine wpList_nil (then_normal ?_)
             refine wsplit (decide ((q : Int) < ((fewL (ndL xs) (1 + (drM ys 4 : Int))).length : Int))) (fun h9 => ?_) (fun h9 => ?_)
             · skip
               have h9d := dT h9
               refine wp_skip ?_
               refine then_normal ?_
               refine wp_seq ?_
               refine wp_block ?_
               refine wp_seq ?_
               refine wp_frame (a' := ⟨#[v, v2, undef, undef, J4 4, .slice (some ⟨g1, 0, none⟩) ((ndL xs).length) cap1, .int .i64 (1 + (drM ys 4 : Int)), .slice (some ⟨g2, 0, none⟩) ((fewL (ndL xs) (1 + (drM ys 4 : Int))).length) cap2, .int .i64 0, .slice (some ⟨g3, 0, none⟩) ((fewL (ndL xs) (1 + (drM ys 4 : Int))).length) cap3, .int .i64 0, .bool true, .int .i64 0, .int .i64 (fs0 (ndL xs) (1 + (drM ys 4 : Int)) (fewL (ndL xs) (1 + (drM ys 4 : Int)))), .int .i64 (fs1 (ndL xs) (1 + (drM ys 4 : Int)) (fewL (ndL xs) (1 + (drM ys 4 : Int)))), .int .i64 6, .int .i64 sm, .int .i64 (kn : Int), J1 18, J1 19, .int .i64 lv, .int .i64 (i : Int), .int .i64 (q : Int), J4 23, J4 24, J4 25, J4 26, J4 27, J4 28, v, .bool (decide (4096 < (xs.length : Int))), .bool false, v2, .bool (decide (4096 < (ys.length : Int))), .bool (decide (4096 < (ys.length : Int))), v, .slice (some ⟨g1, 0, none⟩) ((ndL xs).length) cap1, v2, .int .i64 (drM ys 4 : Int), .int .i64 (1 + (drM ys 4 : Int)), .tuple #[.slice (some ⟨g2, 0, none⟩) ((fewL (ndL xs) (1 + (drM ys 4 : Int))).length) cap2, .int .i64 0], .slice (some ⟨g1, 0, none⟩) ((ndL xs).length) cap1, .int .i64 (1 + (drM ys 4 : Int)), .tuple #[.slice (some ⟨g2, 0, none⟩) ((fewL (ndL xs) (1 + (drM ys 4 : Int))).length) cap2, .int .i64 0], .slice (some ⟨g2, 0, none⟩) ((fewL (ndL xs) (1 + (drM ys 4 : Int))).length) cap2, .int .i64 0, .tuple #[.slice (some ⟨g3, 0, none⟩) ((fewL (ndL xs) (1 + (drM ys 4 : Int))).length) cap3, .int .i64 0], .slice (some ⟨g1, 0, none⟩) ((ndL xs).length) cap1, .int .i64 (1 + (drM ys 4 : Int)), .tuple #[.slice (some ⟨g3, 0, none⟩) ((fewL (ndL xs) (1 + (drM ys 4 : Int))).length) cap3, .int .i64 0], .slice (some ⟨g3, 0, none⟩) ((fewL (ndL xs) (1 + (drM ys 4 : Int))).length) cap3, .int .i64 0, .tuple #[.bool true, .int .i64 0], .slice (some ⟨g1, 0, none⟩) ((ndL xs).length) cap1, .int .i64 (1 + (drM ys 4 : Int)), .slice (some ⟨g3, 0, none⟩) ((fewL (ndL xs) (1 + (drM ys 4 : Int))).length) cap3, .tuple #[.bool true, .int .i64 0], .bool true, .int .i64 0, .tuple #[.int .i64 (fs0 (ndL xs) (1 + (drM ys 4 : Int)) (fewL (ndL xs) (1 + (drM ys 4 : Int)))), .int .i64 (fs1 (ndL xs) (1 + (drM ys 4 : Int)) (fewL (ndL xs) (1 + (drM ys 4 : Int)))), .int .i64 6], .slice (some ⟨g1, 0, none⟩) ((ndL xs).length) cap1, .int .i64 (1 + (drM ys 4 : Int)), .slice (some ⟨g3, 0, none⟩) ((fewL (ndL xs) (1 + (drM ys 4 : Int))).length) cap3, .tuple #[.int .i64 (fs0 (ndL xs) (1 + (drM ys 4 : Int)) (fewL (ndL xs) (1 + (drM ys 4 : Int)))), .int .i64 (fs1 (ndL xs) (1 + (drM ys 4 : Int)) (fewL (ndL xs) (1 + (drM ys 4 : Int)))), .int .i64 6], .int .i64 (fs0 (ndL xs) (1 + (drM ys 4 : Int)) (fewL (ndL xs) (1 + (drM ys 4 : Int)))), .int .i64 (fs1 (ndL xs) (1 + (drM ys 4 : Int)) (fewL (ndL xs) (1 + (drM ys 4 : Int)))), .int .i64 6, .int .i64 0, .int .i64 0, .bool false, .bool false, .int .i64 0, .bool false, .bool false, .bool false, .slice (some ⟨g2, 0, none⟩) ((fewL (ndL xs) (1 + (drM ys 4 : Int))).length) cap2, .slice (some ⟨g3, 0, none⟩) ((fewL (ndL xs) (1 + (drM ys 4 : Int))).length) cap3, .bool true, .bool false, .bool false, .bool false, .int .i64 0, .bool false, .bool false, .bool false, .bool true, .bool false, .bool false, .bool false, .int .i64 6, .bool false, .bool false, .int .i64 (kn : Int), .slice (some ⟨g1, 0, none⟩) ((ndL xs).length) cap1, .int .i64 ((ndL xs).length : Int), .bool (decide ((kn : Int) < ((ndL xs).length : Int))), J1 96, J1 97, J1 98, J1 99, J1 100, J1 101, J1 102, J1 103, J1 104, J1 105, J1 106, J1 107, J1 108, J1 109, J1 110, J1 111, J1 112, J1 113, J1 114, J1 115, J1 116, J1 117, J1 118, J1 119, J1 120, J1 121, .int .i64 (i : Int), .slice (some ⟨g1, 0, none⟩) ((ndL xs).length) cap1, .int .i64 ((ndL xs).length : Int), .bool (decide ((i : Int) < ((ndL xs).length : Int))), J3 126, J3 127, J3 128, J3 129, J3 130, J3 131, J3 132, J3 133, .slice (some ⟨g3, 0, none⟩) ((fewL (ndL xs) (1 + (drM ys 4 : Int))).length) cap3, .int .i64 ((fewL (ndL xs) (1 + (drM ys 4 : Int))).length : Int), .int .i64 sm, .bool (decide (sm < ((fewL (ndL xs) (1 + (drM ys 4 : Int))).length : Int))), .bool false, .slice (some ⟨g3, 0, none⟩) ((fewL (ndL xs) (1 + (drM ys 4 : Int))).length) cap3, .int .i64 ((fewL (ndL xs) (1 + (drM ys 4 : Int))).length : Int), .int .i64 lv, .bool (decide (((fewL (ndL xs) (1 + (drM ys 4 : Int))).length : Int) < lv)), .bool (decide (((fewL (ndL xs) (1 + (drM ys 4 : Int))).length : Int) < lv)), .int .i64 (q : Int), .slice (some ⟨g3, 0, none⟩) ((fewL (ndL xs) (1 + (drM ys 4 : Int))).length) cap3, .int .i64 ((fewL (ndL xs) (1 + (drM ys 4 : Int))).length : Int), .bool (decide ((q : Int) < ((fewL (ndL xs) (1 + (drM ys 4 : Int))).length : Int))), J4 148, J4 149, J4 150, J4 151, J4 152, J4 153, J4 154, J4 155, J4 156, J4 157, J4 158, J4 159, J4 160, J4 161, J4 162, J4 163, J4 164, J4 165, J4 166, J4 167, J4 168, J4 169, J4 170, J4 171, J4 172, J4 173, J4 174, J4 175, J4 176, J4 177, J4 178, J4 179, J4 180, J4 181, J4 182, J4 183, J4 184, J4 185, J4 186, J4 187, J4 188, J4 189, J4 190, J4 191, J4 192, J4 193, J4 194, J4 195, J4 196, J4 197, J4 198, J4 199, J4 200, J4 201, J4 202, J4 203, J4 204, J4 205], []⟩) (by kernel_rfl) ?_
               refine region_go 9 [150, 151, 152, 153, 154, 155, 156, 157, 158] [[], [], [], [1, 2], [0, 3], [], [], [6], [5, 7]]
                (fun i_ => ([.nil0 wl4.heap.size 2, .val (.slice (some ⟨g3, 0, none⟩) ((fewL (ndL xs) (1 + (drM ys 4 : Int))).length) cap3), .val (.int .i64 (q : Int)), .val (.slice (some ⟨g3, 0, none⟩) q cap3), .lsu wl4.heap.size 2 .i64 q ((fewL (ndL xs) (1 + (drM ys 4 : Int))).take q), .val (.slice (some ⟨g3, 0, none⟩) ((fewL (ndL xs) (1 + (drM ys 4 : Int))).length) cap3), .val (.int .i64 (q : Int)), .val (.int .i64 ((q : Int) + 1)), .val (.slice (some (tlA g3 cap3 (q + 1))) (((fewL (ndL xs) (1 + (drM ys 4 : Int))).length) - (q + 1)) (cap3 - (q + 1)))] : List Fct).getD i_ .any)
                (by kernel_rfl) (by kernel_rfl) (by decide) (by simp) rfl (all_succ (all_succ (all_succ (all_succ (all_succ (all_succ (all_succ (all_succ (all_succ all_zero ?_) ?_) ?_) ?_) ?_) ?_) ?_) ?_) ?_) ?_
               · refine step0 rfl rfl rfl (fun wr hw => ?_)
                 exact OpRun.bslice #[] slt__int64 rfl (by decide) (by kernel_rfl) ⟨(Ext.refl _).alloc _, _, rfl, hw.size, Blk.new _ _ _⟩
               · refine step0 rfl rfl rfl (fun wr hw => ?_)
                 exact OpRun.val (.slice (some ⟨g3, 0, none⟩) ((fewL (ndL xs) (1 + (drM ys 4 : Int))).length) cap3) (.slice (some ⟨g3, 0, none⟩) ((fewL (ndL xs) (1 + (drM ys 4 : Int))).length) cap3) (by kernel_rfl) rfl ⟨Ext.refl _, rfl⟩
               · refine step0 rfl rfl rfl (fun wr hw => ?_)
                 exact OpRun.val (.int .i64 (q : Int)) (.int .i64 (q : Int)) (by kernel_rfl) rfl ⟨Ext.refl _, rfl⟩
               · refine step2 rfl rfl rfl rfl rfl (fun u0 u1 wr hw h0 h1 => ?_)
                 cases h0
                 cases h1
                 exact OpRun.sliceH (g := g3) (n := ((fewL (ndL xs) (1 + (drM ys 4 : Int))).length)) (cap := cap3) (m := q) (k := .i64) slit__int64 rfl (by kernel_rfl) (by kernel_rfl) (Nat.le_trans (show q ≤ (fewL (ndL xs) (1 + (drM ys 4 : Int))).length by omega) (SlO.nc S3)) ⟨Ext.refl _, rfl⟩
               · refine step2 rfl rfl rfl rfl rfl (fun u0 u1 wr hw h0 h1 => ?_)
                 obtain ⟨g4, rfl, hgn0, hbn0⟩ := h0
                 cases h1
                 exact OpRun.app0 (B := wl4.heap.size) slt__int64 rfl (by kernel_rfl) (by kernel_rfl) hbn0 hgn0 hw.size (B3.ext hw) (SlI.take S3 (m := q) (by omega)) ⟨by omega, by decide⟩
               · refine step0 rfl rfl rfl (fun wr hw => ?_)
                 exact OpRun.val (.slice (some ⟨g3, 0, none⟩) ((fewL (ndL xs) (1 + (drM ys 4 : Int))).length) cap3) (.slice (some ⟨g3, 0, none⟩) ((fewL (ndL xs) (1 + (drM ys 4 : Int))).length) cap3) (by kernel_rfl) rfl ⟨Ext.refl _, rfl⟩
               · refine step0 rfl rfl rfl (fun wr hw => ?_)
                 exact OpRun.val (.int .i64 (q : Int)) (.int .i64 (q : Int)) (by kernel_rfl) rfl ⟨Ext.refl _, rfl⟩
               · refine step1 rfl rfl rfl rfl (fun u0 wr hw h0 => ?_)
                 cases h0
                 exact OpRun.val (.int .i64 (IntKind.i64.wrap ((q : Int) + 1))) (.int .i64 ((q : Int) + 1)) (by kernel_rfl) (by exact congrArg _ (IntWalk.i64_in _ (by omega))) ⟨Ext.refl _, rfl⟩
               · refine step2 rfl rfl rfl rfl rfl (fun u0 u1 wr hw h0 h1 => ?_)
                 cases h0
                 cases h1
                 exact OpRun.slcT (g := g3) (n := ((fewL (ndL xs) (1 + (drM ys 4 : Int))).length)) (cap := cap3) (lo := q + 1) (k := .i64) slit__int64 rfl (by kernel_rfl) (by kernel_rfl) (by omega) (SlO.nc S3) ⟨Ext.refl _, rfl⟩
               refine end9 (fun u0 u1 u2 u3 u4 u5 u6 u7 u8 w10 E10 f0 f1 f2 f3 f4 f5 f6 f7 f8 => ?_)
               obtain ⟨g4, rfl, hg_, B4⟩ := f0
               clear hg_
               cases f1
               cases f2
               cases f3
               obtain ⟨g5, cap4, cs4, rfl, hg_, B5, S4⟩ := f4
               have q_g1_g5 := Nat.ne_of_lt (Nat.lt_of_lt_of_le B1.lt hg_)
               have q_g2_g5 := Nat.ne_of_lt (Nat.lt_of_lt_of_le B2.lt hg_)
               have q_g3_g5 := Nat.ne_of_lt (Nat.lt_of_lt_of_le B3.lt hg_)
               have lo_g5 := Nat.le_trans (HL4).size hg_
               clear hg_
               cases f5
               cases f6
               cases f7
               cases f8
               replace B1 := B1.ext E10
               replace B2 := B2.ext E10
               replace B3 := B3.ext E10
               have H7 := HL4.trans E10
               refine wappT (lo := q + 1) slt__int64 B5 S4 B3 S3 (by omega) ?_
               intro g6 cap5 cs5 w11 B6 S5 X1 or1
               have n_g1_g6 := ne_app B1 q_g1_g5 or1
               have n_g2_g6 := ne_app B2 q_g2_g5 or1
               have n_g3_g6 := ne_app B3 q_g3_g5 or1
               have lo_g6 := Wr.lo or1 lo_g5 (H7).size
               refine wv (.slice (some ⟨g6, 0, none⟩) (q + (((fewL (ndL xs) (1 + (drM ys 4 : Int))).length) - (q + 1))) cap5) ?_
               refine wpList_nil (then_normal ?_)
               refine wsr ?_
               refine wv (.slice (some ⟨g1, 0, none⟩) ((ndL xs).length) cap1) ?_
               refine wv (.int .i64 (1 + (drM ys 4 : Int))) ?_
               refine wv (.slice (some ⟨g6, 0, none⟩) (q + (((fewL (ndL xs) (1 + (drM ys 4 : Int))).length) - (q + 1))) cap5) ?_
               replace B1 := X1.blk B1 q_g1_g5
               refine wcl (iCheckShifts_less (ndL xs) ((ndL xs).length) g1 cap1 cs1 S1 (1 + (drM ys 4 : Int)) (q + (((fewL (ndL xs) (1 + (drM ys 4 : Int))).length) - (q + 1))) g6 cap5 cs5 q (by omega) S5 (by omega) (by omega) hok_ _ B1 B6) ?_
               intro w12 E11
               refine wv (.tuple #[.bool false, .int .i64 0]) ?_
               refine wv (.bool false) ?_
               refine wv (.int .i64 0) ?_
               refine wv (.bool false) ?_
               refine wv (.int .i64 0) ?_
               refine wpList_nil (then_normal ?_)
               refine wsr ?_
               refine wv (.slice (some ⟨g1, 0, none⟩) ((ndL xs).length) cap1) ?_
               refine wv (.int .i64 (1 + (drM ys 4 : Int))) ?_
               refine wv (.slice (some ⟨g6, 0, none⟩) (q + (((fewL (ndL xs) (1 + (drM ys 4 : Int))).length) - (q + 1))) cap5) ?_
               replace B1 := B1.ext E11
               replace B6 := B6.ext E11
               refine wcl (iFirstShort_less (ndL xs) ((ndL xs).length) g1 cap1 cs1 S1 (1 + (drM ys 4 : Int)) (q + (((fewL (ndL xs) (1 + (drM ys 4 : Int))).length) - (q + 1))) g6 cap5 cs5 q (by omega) S5 (by omega) (by omega) hok_ _ B1 B6) ?_
               intro w13 E12
               refine wv (.tuple #[.int .i64 (atI (fewL (ndL xs) (1 + (drM ys 4 : Int))) q), .int .i64 1, .int .i64 0]) ?_
               refine wv (.int .i64 (atI (fewL (ndL xs) (1 + (drM ys 4 : Int))) q)) ?_
               refine wv (.int .i64 1) ?_
               refine wv (.int .i64 0) ?_
               refine wv (.int .i64 (atI (fewL (ndL xs) (1 + (drM ys 4 : Int))) q)) ?_
               refine wv (.int .i64 1) ?_
               refine wv (.int .i64 0) ?_
               refine wpList_nil (then_normal ?_)
               refine wsr ?_
               refine wv (.int .i64 0) ?_
               refine wvv (.bool (0 != 0)) (.bool false) (by simp) ?_
               refine wv (.bool false) ?_
               refine wv (.bool false) ?_
               refine wv (.bool false) ?_
               refine wv (.bool false) ?_
               refine wv (.int .i64 0) ?_
               refine wvv (.bool (0 != 0)) (.bool false) (by simp) ?_
               refine wv (.bool false) ?_
               refine wv (.bool false) ?_
               refine wv (.int .i64 1) ?_
               refine wvv (.bool (1 != 1)) (.bool false) (by simp) ?_
               refine wv (.bool false) ?_
               refine wv (.bool false) ?_
               refine wv (.int .i64 (atI (fewL (ndL xs) (1 + (drM ys 4 : Int))) q)) ?_
               refine wv (.slice (some ⟨g3, 0, none⟩) ((fewL (ndL xs) (1 + (drM ys 4 : Int))).length) cap3) ?_
               refine wv (.int .i64 (q : Int)) ?_
               refine wpl_frame (a' := ⟨#[v, v2, undef, undef, J4 4, .slice (some ⟨g1, 0, none⟩) ((ndL xs).length) cap1, .int .i64 (1 + (drM ys 4 : Int)), .slice (some ⟨g2, 0, none⟩) ((fewL (ndL xs) (1 + (drM ys 4 : Int))).length) cap2, .int .i64 0, .slice (some ⟨g3, 0, none⟩) ((fewL (ndL xs) (1 + (drM ys 4 : Int))).length) cap3, .int .i64 0, .bool true, .int .i64 0, .int .i64 (fs0 (ndL xs) (1 + (drM ys 4 : Int)) (fewL (ndL xs) (1 + (drM ys 4 : Int)))), .int .i64 (fs1 (ndL xs) (1 + (drM ys 4 : Int)) (fewL (ndL xs) (1 + (drM ys 4 : Int)))), .int .i64 6, .int .i64 sm, .int .i64 (kn : Int), J1 18, J1 19, .int .i64 lv, .int .i64 (i : Int), .int .i64 (q : Int), .slice (some ⟨g6, 0, none⟩) (q + (((fewL (ndL xs) (1 + (drM ys 4 : Int))).length) - (q + 1))) cap5, .bool false, .int .i64 0, .int .i64 (atI (fewL (ndL xs) (1 + (drM ys 4 : Int))) q), .int .i64 1, .int .i64 0, v, .bool (decide (4096 < (xs.length : Int))), .bool false, v2, .bool (decide (4096 < (ys.length : Int))), .bool (decide (4096 < (ys.length : Int))), v, .slice (some ⟨g1, 0, none⟩) ((ndL xs).length) cap1, v2, .int .i64 (drM ys 4 : Int), .int .i64 (1 + (drM ys 4 : Int)), .tuple #[.slice (some ⟨g2, 0, none⟩) ((fewL (ndL xs) (1 + (drM ys 4 : Int))).length) cap2, .int .i64 0], .slice (some ⟨g1, 0, none⟩) ((ndL xs).length) cap1, .int .i64 (1 + (drM ys 4 : Int)), .tuple #[.slice (some ⟨g2, 0, none⟩) ((fewL (ndL xs) (1 + (drM ys 4 : Int))).length) cap2, .int .i64 0], .slice (some ⟨g2, 0, none⟩) ((fewL (ndL xs) (1 + (drM ys 4 : Int))).length) cap2, .int .i64 0, .tuple #[.slice (some ⟨g3, 0, none⟩) ((fewL (ndL xs) (1 + (drM ys 4 : Int))).length) cap3, .int .i64 0], .slice (some ⟨g1, 0, none⟩) ((ndL xs).length) cap1, .int .i64 (1 + (drM ys 4 : Int)), .tuple #[.slice (some ⟨g3, 0, none⟩) ((fewL (ndL xs) (1 + (drM ys 4 : Int))).length) cap3, .int .i64 0], .slice (some ⟨g3, 0, none⟩) ((fewL (ndL xs) (1 + (drM ys 4 : Int))).length) cap3, .int .i64 0, .tuple #[.bool true, .int .i64 0], .slice (some ⟨g1, 0, none⟩) ((ndL xs).length) cap1, .int .i64 (1 + (drM ys 4 : Int)), .slice (some ⟨g3, 0, none⟩) ((fewL (ndL xs) (1 + (drM ys 4 : Int))).length) cap3, .tuple #[.bool true, .int .i64 0], .bool true, .int .i64 0, .tuple #[.int .i64 (fs0 (ndL xs) (1 + (drM ys 4 : Int)) (fewL (ndL xs) (1 + (drM ys 4 : Int)))), .int .i64 (fs1 (ndL xs) (1 + (drM ys 4 : Int)) (fewL (ndL xs) (1 + (drM ys 4 : Int)))), .int .i64 6], .slice (some ⟨g1, 0, none⟩) ((ndL xs).length) cap1, .int .i64 (1 + (drM ys 4 : Int)), .slice (some ⟨g3, 0, none⟩) ((fewL (ndL xs) (1 + (drM ys 4 : Int))).length) cap3, .tuple #[.int .i64 (fs0 (ndL xs) (1 + (drM ys 4 : Int)) (fewL (ndL xs) (1 + (drM ys 4 : Int)))), .int .i64 (fs1 (ndL xs) (1 + (drM ys 4 : Int)) (fewL (ndL xs) (1 + (drM ys 4 : Int)))), .int .i64 6], .int .i64 (fs0 (ndL xs) (1 + (drM ys 4 : Int)) (fewL (ndL xs) (1 + (drM ys 4 : Int)))), .int .i64 (fs1 (ndL xs) (1 + (drM ys 4 : Int)) (fewL (ndL xs) (1 + (drM ys 4 : Int)))), .int .i64 6, .int .i64 0, .int .i64 0, .bool false, .bool false, .int .i64 0, .bool false, .bool false, .bool false, .slice (some ⟨g2, 0, none⟩) ((fewL (ndL xs) (1 + (drM ys 4 : Int))).length) cap2, .slice (some ⟨g3, 0, none⟩) ((fewL (ndL xs) (1 + (drM ys 4 : Int))).length) cap3, .bool true, .bool false, .bool false, .bool false, .int .i64 0, .bool false, .bool false, .bool false, .bool true, .bool false, .bool false, .bool false, .int .i64 6, .bool false, .bool false, .int .i64 (kn : Int), .slice (some ⟨g1, 0, none⟩) ((ndL xs).length) cap1, .int .i64 ((ndL xs).length : Int), .bool (decide ((kn : Int) < ((ndL xs).length : Int))), J1 96, J1 97, J1 98, J1 99, J1 100, J1 101, J1 102, J1 103, J1 104, J1 105, J1 106, J1 107, J1 108, J1 109, J1 110, J1 111, J1 112, J1 113, J1 114, J1 115, J1 116, J1 117, J1 118, J1 119, J1 120, J1 121, .int .i64 (i : Int), .slice (some ⟨g1, 0, none⟩) ((ndL xs).length) cap1, .int .i64 ((ndL xs).length : Int), .bool (decide ((i : Int) < ((ndL xs).length : Int))), J3 126, J3 127, J3 128, J3 129, J3 130, J3 131, J3 132, J3 133, .slice (some ⟨g3, 0, none⟩) ((fewL (ndL xs) (1 + (drM ys 4 : Int))).length) cap3, .int .i64 ((fewL (ndL xs) (1 + (drM ys 4 : Int))).length : Int), .int .i64 sm, .bool (decide (sm < ((fewL (ndL xs) (1 + (drM ys 4 : Int))).length : Int))), .bool false, .slice (some ⟨g3, 0, none⟩) ((fewL (ndL xs) (1 + (drM ys 4 : Int))).length) cap3, .int .i64 ((fewL (ndL xs) (1 + (drM ys 4 : Int))).length : Int), .int .i64 lv, .bool (decide (((fewL (ndL xs) (1 + (drM ys 4 : Int))).length : Int) < lv)), .bool (decide (((fewL (ndL xs) (1 + (drM ys 4 : Int))).length : Int) < lv)), .int .i64 (q : Int), .slice (some ⟨g3, 0, none⟩) ((fewL (ndL xs) (1 + (drM ys 4 : Int))).length) cap3, .int .i64 ((fewL (ndL xs) (1 + (drM ys 4 : Int))).length : Int), .bool (decide ((q : Int) < ((fewL (ndL xs) (1 + (drM ys 4 : Int))).length : Int))), J4 148, J4 149, .slice (some ⟨g4, 0, none⟩) 0 0, .slice (some ⟨g3, 0, none⟩) ((fewL (ndL xs) (1 + (drM ys 4 : Int))).length) cap3, .int .i64 (q : Int), .slice (some ⟨g3, 0, none⟩) q cap3, .slice (some ⟨g5, 0, none⟩) q cap4, .slice (some ⟨g3, 0, none⟩) ((fewL (ndL xs) (1 + (drM ys 4 : Int))).length) cap3, .int .i64 (q : Int), .int .i64 ((q : Int) + 1), .slice (some (tlA g3 cap3 (q + 1))) (((fewL (ndL xs) (1 + (drM ys 4 : Int))).length) - (q + 1)) (cap3 - (q + 1)), .slice (some ⟨g6, 0, none⟩) (q + (((fewL (ndL xs) (1 + (drM ys 4 : Int))).length) - (q + 1))) cap5, .tuple #[.bool false, .int .i64 0], .slice (some ⟨g1, 0, none⟩) ((ndL xs).length) cap1, .int .i64 (1 + (drM ys 4 : Int)), .slice (some ⟨g6, 0, none⟩) (q + (((fewL (ndL xs) (1 + (drM ys 4 : Int))).length) - (q + 1))) cap5, .tuple #[.bool false, .int .i64 0], .bool false, .int .i64 0, .tuple #[.int .i64 (atI (fewL (ndL xs) (1 + (drM ys 4 : Int))) q), .int .i64 1, .int .i64 0], .slice (some ⟨g1, 0, none⟩) ((ndL xs).length) cap1, .int .i64 (1 + (drM ys 4 : Int)), .slice (some ⟨g6, 0, none⟩) (q + (((fewL (ndL xs) (1 + (drM ys 4 : Int))).length) - (q + 1))) cap5, .tuple #[.int .i64 (atI (fewL (ndL xs) (1 + (drM ys 4 : Int))) q), .int .i64 1, .int .i64 0], .int .i64 (atI (fewL (ndL xs) (1 + (drM ys 4 : Int))) q), .int .i64 1, .int .i64 0, .int .i64 0, .bool false, .bool false, .bool false, .bool false, .bool false, .int .i64 0, .bool false, .bool false, .bool false, .int .i64 1, .bool false, .bool false, .bool false, .int .i64 (atI (fewL (ndL xs) (1 + (drM ys 4 : Int))) q), .slice (some ⟨g3, 0, none⟩) ((fewL (ndL xs) (1 + (drM ys 4 : Int))).length) cap3, .int .i64 (q : Int), J4 192, J4 193, J4 194, J4 195, J4 196, J4 197, J4 198, J4 199, J4 200, J4 201, J4 202, J4 203, J4 204, J4 205], []⟩) (by kernel_rfl) ?_
               refine wsix1 g3 0 ((fewL (ndL xs) (1 + (drM ys 4 : Int))).length) cap3 q .i64 slit__int64 ?_
               replace B3 := ((X1.blk B3 q_g3_g5).ext E11).ext E12
               refine wld g3 (0 + q) scal_int64 (B3.get (SlI.get S3 (by omega))) ?_
               refine wv (.bool (decide ((atI (fewL (ndL xs) (1 + (drM ys 4 : Int))) q) < atI (fewL (ndL xs) (1 + (drM ys 4 : Int))) q))) ?_
               refine wv (.bool (decide ((atI (fewL (ndL xs) (1 + (drM ys 4 : Int))) q) < atI (fewL (ndL xs) (1 + (drM ys 4 : Int))) q))) ?_
               refine wv (.bool (decide ((atI (fewL (ndL xs) (1 + (drM ys 4 : Int))) q) < atI (fewL (ndL xs) (1 + (drM ys 4 : Int))) q))) ?_
               have H8 := ((X1.ext w lo_g5 H7).trans E11).trans E12
               refine split_bool (decide ((atI (fewL (ndL xs) (1 + (drM ys 4 : Int))) q) < atI (fewL (ndL xs) (1 + (drM ys 4 : Int))) q)) (fun h10 => ?_) (fun h10 => ?_)
               · skip
                 refine wbl 196 true h10 ?_
                 have h10d := dT h10
                 refine wsk ?_
                 refine wsk ?_
                 refine wsk ?_
                 refine wsk ?_
                 refine wsk ?_
                 refine wsk ?_
                 refine wsk ?_
                 refine wsk ?_
                 refine wv (.bool true) ?_
                 refine wpList_nil (then_normal ?_)
                 refine wct ?_
                 refine wsr ?_
                 refine wv (.bool false) ?_
                 refine wpList_nil (then_normal ?_)
                 refine wp_ret ?_
                 refine block_ret (then_ret (then_ret (block_ret (then_ret ?_))))
                 refine ret1 (.bool true) rfl ?_ rfl ?_
                 · refine (resT (v := .bool false) (by kernel_rfl)).trans ?_
                   refine congrArg Value.bool ?_
                   exfalso; have ge_ := gN_end (need := ndL xs) (len := (((1 + drM ys 4) : Nat) : Int)) (k := kn) (by omega)
                   have ce_ : (((1 + drM ys 4) : Nat) : Int) = 1 + (drM ys 4 : Int) := by omega
                   rw [ce_] at ge_ hsm
                   omega
                 exact ⟨rfl, H8⟩
               · skip
                 refine wbl 196 false h10 ?_
                 have h10d := dF h10
                 refine wv (.int .i64 (atI (fewL (ndL xs) (1 + (drM ys 4 : Int))) q)) ?_
                 refine wv (.slice (some ⟨g3, 0, none⟩) ((fewL (ndL xs) (1 + (drM ys 4 : Int))).length) cap3) ?_
                 refine wv (.int .i64 (q : Int)) ?_
                 refine wsix1 g3 0 ((fewL (ndL xs) (1 + (drM ys 4 : Int))).length) cap3 q .i64 slit__int64 ?_
                 refine wld g3 (0 + q) scal_int64 (B3.get (SlI.get S3 (by omega))) ?_
                 refine wv (.int .i64 (1 + (drM ys 4 : Int))) ?_
                 refine wi64 ((atI (fewL (ndL xs) (1 + (drM ys 4 : Int))) q) + (1 + (drM ys 4 : Int))) ?_
                 refine wv (.bool (decide (((atI (fewL (ndL xs) (1 + (drM ys 4 : Int))) q) + (1 + (drM ys 4 : Int))) ≤ atI (fewL (ndL xs) (1 + (drM ys 4 : Int))) q))) ?_
                 refine wv (.bool (decide (((atI (fewL (ndL xs) (1 + (drM ys 4 : Int))) q) + (1 + (drM ys 4 : Int))) ≤ atI (fewL (ndL xs) (1 + (drM ys 4 : Int))) q))) ?_
                 refine wpList_nil (then_normal ?_)
                 refine wsplit (decide (((atI (fewL (ndL xs) (1 + (drM ys 4 : Int))) q) + (1 + (drM ys 4 : Int))) ≤ atI (fewL (ndL xs) (1 + (drM ys 4 : Int))) q)) (fun h11 => ?_) (fun h11 => ?_)
                 · skip
                   have h11d := dT h11
                   refine wsr ?_
                   refine wv (.bool false) ?_
                   refine wpList_nil (then_normal ?_)
                   refine wp_ret ?_
                   refine block_ret (then_ret (then_ret (block_ret (then_ret ?_))))
                   refine ret1 (.bool true) rfl ?_ rfl ?_
                   · refine (resT (v := .bool false) (by kernel_rfl)).trans ?_
                     refine congrArg Value.bool ?_
                     exfalso; have ge_ := gN_end (need := ndL xs) (len := (((1 + drM ys 4) : Nat) : Int)) (k := kn) (by omega)
                     have ce_ : (((1 + drM ys 4) : Nat) : Int) = 1 + (drM ys 4 : Int) := by omega
                     rw [ce_] at ge_ hsm
                     omega
                   exact ⟨rfl, H8⟩
                 · skip
                   have h11d := dF h11
                   refine wp_skip ?_
                   refine block_normal (then_normal ?_)
                   refine wp_region_lit ?_
                   refine wv (.int .i64 (q : Int)) ?_
                   refine wi64 ((q : Int) + 1) ?_
                   refine wv (.int .i64 ((q : Int) + 1)) ?_
                   refine wpList_nil (then_normal ?_)
                   replace B1 := B1.ext E12
                   replace B2 := ((X1.blk B2 q_g2_g5).ext E11).ext E12
                   refine ⟨_, ?_, q + 1, rfl, ?_, H8, B1, B2, B3, exJ (by kernel_rfl)⟩
                   · omega
                   · omega
             · skip
               have h9d := dF h9
               refine wp_exit ?_
               refine then_exit ?_
               refine then_exit ?_
               refine block_exit ?_
               refine then_normal ?_
               refine wsr ?_
               refine wv (.bool true) ?_
               refine wpList_nil (then_normal ?_)
               refine wp_ret ?_
               refine ret1 (.bool true) rfl ?_ rfl ?_
               · exact resT (by kernel_rfl)
               exact ⟨rfl, HL4⟩
end
--# row FnShifts
set_option maxRecDepth 100000 in
theorem fnShifts_lifted (os : Os) (started : os.Started) (H : Type) (enc : TypeId × Value → H) :
    ReturnsInHanded {} Try.checked os 6 .any (Rows.fnShiftsSpec.pre6 enc Try.prog Try.f6 Rows.fnShiftsRow.domain false) (Rows.fnShiftsSpec.post enc Try.prog Try.f6 false true false false) := by
  refine returnsInHanded_of_change (C := Try.checked) ownKnob_none started (by kernel_rfl) Try.func6
    (ChangeSpec.witness6 (enc := enc) (C := Try.checked) false ⟨#[], #[.slice none 0 0, .slice none 0 0], []⟩ 8 (by kernel_rfl) (by kernel_rfl) (by kernel_rfl) (by kernel_rfl)) ?_
  intro W base args ds gs before hval0 hW hcnd _
  have hval : ∀ (j : Nat) t v, Try.f6.params[j]? = some t → args[j]? = some v → Value.okWide Try.prog W .any base t v := hval0
  have hW' := hW
  obtain ⟨p, q, hA0, hV, rfl, hfz, hnd⟩ := hW
  have hA : DataW.TrodAll enc Try.prog W 0 (fun _ => true) true Try.f6.params.toList args.toList ds p := hA0
  rw [Try.params6] at hA hval
  obtain ⟨v0, vs0, d0, ds0, p0, q0, hargs, rfl, rfl, h0, r0⟩ := trodAll_cons hA
  obtain ⟨v1, vs1, d1, ds1, p1, q1, rfl, rfl, rfl, h1, r1⟩ := trodAll_cons r0
  obtain ⟨rfl, rfl, rfl⟩ := trodAll_nil r1
  obtain rfl : args = #[v0, v1] := by cases args; simp_all
  obtain ⟨rfl, rfl⟩ := trodVars_none hV
  have k0 := h0
  have lt0 : ∀ x ∈ p0, x.block < W.heap.size := by obtain ⟨m, hm⟩ := k0; exact DataW.trod_lt m _ _ _ hm
  obtain ⟨xs, hin0, hwl0⟩ := open_slin (k := .u8) Try.underlying34 Try.underlying5 (by kernel_rfl) (hval 0 34 v0 rfl rfl) h0
  have k1 := h1
  have lt1 : ∀ x ∈ p1, x.block < W.heap.size := by obtain ⟨m, hm⟩ := k1; exact DataW.trod_lt m _ _ _ hm
  obtain ⟨ys, hin1, hwl1⟩ := open_slin (k := .u8) Try.underlying34 Try.underlying5 (by kernel_rfl) (hval 1 34 v1 rfl rfl) h1
  clear hA0 hval0
  refine (FnShifts_walk xs v0 ys v1 (atI_u8 hwl0) (atI_u8 hwl1) W hin0 hin1).mono fun e W' ⟨he, hx⟩ => ?_
  have bel := hx.below
  subst he
  exact ⟨_, rfl, _, _, _, [], _, [], hW', trodAll_mk1 (shut_bool Try.underlying4 _), (trodAll_cons_mk (Below.trod laidOut_ (by kernel_rfl) (of_decide_eq_true (by kernel_rfl)) k0 bel lt0) (trodAll_cons_mk (Below.trod laidOut_ (by kernel_rfl) (of_decide_eq_true (by kernel_rfl)) k1 bel lt1) trodAll_mk0)), rfl, bel.frame _, fun h => by cases h⟩
theorem fnShifts_holds : Rows.FnShiftsSaid :=
  OpenClaim.holds_of_wide 6 Try.f6 rfl rfl rfl rfl rfl rfl rfl ⟨rfl, rfl, rfl, rfl, rfl⟩ rfl rfl rfl rfl rfl (by kernel_rfl) Try.func6 (by kernel_rfl)
    (of_decide_eq_true (by kernel_rfl)) (by unfold Func.isWrapper; first | (rw [if_pos (by decide +kernel)]; kernel_rfl) | (rw [if_neg (by decide +kernel)]; exact ⟨rfl, rfl⟩))
    (fun os started H enc _ => fnShifts_lifted os started H enc)
end Go.Proofs.Ytbjcloilcpoafaa
