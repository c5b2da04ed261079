/-
  For all arguments, the law FnExactBackBeat returns true; its arguments read as they did. No conditions.
-/
import Derived.Test.YtldlaohefgianaaRows
import Derived.Test.YtldlaohefgianaaFn15
import Derived.Test.YtldlaohefgianaaRowk
import Derived.WalkKit
import Derived.ProofKit
import Derived.OpenShut
import Derived.ShutString
import Derived.ChangeOld
import Derived.Below
import Derived.SizedLaws
namespace Go.Proofs.Ytldlaohefgianaa
open Go.ChangeShapes Go.WideShapes Go.ChangeAt Go.RowKit
open Go.ChangeMaps (open_string shut_string)
set_option linter.unusedVariables false
theorem ownKnob_none : ownKnob Try.prog.godebug = none := by kernel_rfl
theorem laidOut_ : laidOutB Try.prog = true := by kernel_rfl
theorem atI_i16 {xs : List Int} (h : ∀ n ∈ xs, (Lit.int .i16 n).wf = true) (i : Nat) : -32768 ≤ atI xs i ∧ atI xs i ≤ 32767 := by
  by_cases hi : i < xs.length
  · exact bounds_i16 (h _ (atI_mem hi))
  · unfold atI; rw [List.getD, List.getElem?_eq_none (by omega)]; show (-32768 : Int) ≤ 0 ∧ (0 : Int) ≤ 32767; omega
section
set_option maxHeartbeats 4000000
set_option maxRecDepth 100000
attribute [local irreducible] wpList Code.wp
--# walk FnExactBackBeat
theorem FnExactBackBeat_walk (F : Fld) (hF : F.wf) (xs : List Int) (v : Value) (w : World) (hin : SlIn w v .i16 xs) (hw16 : ∀ i, -32768 ≤ atI xs i ∧ atI xs i ≤ 32767) :
 Calls Try.prog 3 #[.agg F.cells, v] w fun e w' => e = .returned (.bool true) ∧ Ext w w' := by
 refine calls_of_wp Try.func3 rfl ?_
 refine wp_frame (a' := ⟨#[.agg F.cells, v, undef, undef, undef, undef, undef, undef, undef, undef, undef, undef, undef, undef, undef, undef, undef, undef, undef, undef, undef, undef, undef, undef, undef, undef, undef, undef, undef, undef, undef, undef, undef, undef, undef, undef, undef, undef, undef, undef, undef, undef, undef, undef, undef, undef, undef, undef, undef, undef, undef, undef, undef, undef, undef, undef, undef, undef, undef, undef, undef, undef, undef, undef, undef, undef, undef, undef, undef, undef, undef, undef, undef, undef, undef, undef, undef, undef, undef, undef, undef, undef, undef, undef, undef, undef, undef, undef, undef, undef, undef, undef, undef, undef, undef, undef, undef, undef, undef, undef, undef], []⟩) (by kernel_rfl) ?_
 refine wsr ?_
 refine wbox F.cells ?_
 intro g1 w1 B1 E1 hg_
 have lo_g1 := Nat.le_trans ((Ext.refl w)).size hg_
 refine wv (.bool false) ?_
 refine wpList_nil (then_normal ?_)
 refine wp_seq ?_
 refine wsr ?_
 refine wv v ?_
 have H1 := (Ext.refl w).trans E1
 refine wlen (SlIn.ext hin H1) ⟨_, slt__int16.1⟩ ?_
 refine wv (.bool (decide (1048576 < (xs.length : Int)))) ?_
 refine wpList_nil (then_normal ?_)
 refine wsplit (decide (1048576 < (xs.length : Int))) (fun h1 => ?_) (fun h1 => ?_)
 · skip
   have h1d := dT h1
   refine wsr ?_
   refine wv (.bool true) ?_
   refine wpList_nil (then_normal ?_)
   refine wp_ret ?_
   refine then_ret ?_
   refine ret1 (.bool true) rfl ?_ rfl ?_
   · exact resT (by kernel_rfl)
   exact ⟨rfl, H1⟩
 · skip
   have h1d := dF h1
   refine wp_skip ?_
   refine then_normal ?_
   refine wsr ?_
   refine wrow row_laws_Field B1 (by exact Fld.size_cells _) ?_
   refine wcl (toField_any F hF _) ?_
   intro w2 E2
   refine wv v ?_
   have H2 := H1.trans E2
   replace B1 := B1.ext E2
   refine wcli (toBeat_any xs v (by omega) _ (SlIn.ext hin H2)) ?_
   intro g2 cap1 cs1 w3 B2 S1 E3 hg_
   have q_g1_g2 := Nat.ne_of_lt (Nat.lt_of_lt_of_le B1.lt hg_)
   have lo_g2 := Nat.le_trans (H2).size hg_
   have H3 := H2.trans E3
   refine split_bool (okB F && beatB F xs) (fun h2 => ?_) (fun h2 => ?_)
   · skip
     obtain ⟨h2a, h2b⟩ := andT h2
     replace B1 := B1.ext E3
     refine wcli (sBack_t F hF xs xs.length g2 cap1 cs1 S1 (by omega) hw16 h2 _ B2) ?_
     intro g3 cap2 cs2 w4 B3 S2 E4 hg_
     have q_g1_g3 := Nat.ne_of_lt (Nat.lt_of_lt_of_le B1.lt hg_)
     have q_g2_g3 := Nat.ne_of_lt (Nat.lt_of_lt_of_le B2.lt hg_)
     have lo_g3 := Nat.le_trans (H3).size hg_
     have bl1 := backL_len h2
     refine wv (.tuple #[.slice (some ⟨g3, 0, none⟩) ((backL xs).length) cap2, .int .i64 0]) ?_
     refine wv (.slice (some ⟨g3, 0, none⟩) ((backL xs).length) cap2) ?_
     refine wv (.int .i64 0) ?_
     refine wv (.slice (some ⟨g3, 0, none⟩) ((backL xs).length) cap2) ?_
     refine wv (.int .i64 0) ?_
     refine wpList_nil (then_normal ?_)
     refine wsr ?_
     refine wv v ?_
     have H4 := H3.trans E4
     replace B1 := B1.ext E4
     replace B2 := B2.ext E4
     refine wcli (toBeat_any xs v (by omega) _ (SlIn.ext hin H4)) ?_
     intro g4 cap3 cs3 w5 B4 S3 E5 hg_
     have q_g1_g4 := Nat.ne_of_lt (Nat.lt_of_lt_of_le B1.lt hg_)
     have q_g2_g4 := Nat.ne_of_lt (Nat.lt_of_lt_of_le B2.lt hg_)
     have q_g3_g4 := Nat.ne_of_lt (Nat.lt_of_lt_of_le B3.lt hg_)
     have lo_g4 := Nat.le_trans (H4).size hg_
     refine wv (.slice (some ⟨g4, 0, none⟩) xs.length cap3) ?_
     refine wpList_nil (then_normal ?_)
     refine wsr ?_
     replace B1 := B1.ext E5
     refine wrow row_laws_Field B1 (by exact Fld.size_cells _) ?_
     refine wcl (toField_any F hF _) ?_
     intro w6 E6
     refine wv (.slice (some ⟨g4, 0, none⟩) xs.length cap3) ?_
     replace B4 := B4.ext E6
     replace B1 := B1.ext E6
     replace B2 := (B2.ext E5).ext E6
     replace B3 := (B3.ext E5).ext E6
     have H5 := (H4.trans E5).trans E6
     refine wcli (iBack_t F hF xs xs.length g4 cap3 cs3 S3 (by omega) hw16 h2 _ B4) ?_
     intro g5 cap4 cs4 w7 B5 S4 E7 hg_
     have q_g1_g5 := Nat.ne_of_lt (Nat.lt_of_lt_of_le B1.lt hg_)
     have q_g2_g5 := Nat.ne_of_lt (Nat.lt_of_lt_of_le B2.lt hg_)
     have q_g3_g5 := Nat.ne_of_lt (Nat.lt_of_lt_of_le B3.lt hg_)
     have q_g4_g5 := Nat.ne_of_lt (Nat.lt_of_lt_of_le B4.lt hg_)
     have lo_g5 := Nat.le_trans (H5).size hg_
     have bl2 := backL_len h2
     refine wv (.tuple #[.slice (some ⟨g5, 0, none⟩) ((backL xs).length) cap4, .int .i64 0]) ?_
     refine wv (.slice (some ⟨g5, 0, none⟩) ((backL xs).length) cap4) ?_
     refine wv (.int .i64 0) ?_
     refine wv (.slice (some ⟨g5, 0, none⟩) ((backL xs).length) cap4) ?_
     refine wv (.int .i64 0) ?_
     refine wpList_nil (then_normal ?_)
     refine wp_seq ?_
     refine wsr ?_
     refine wv (.slice (some ⟨g5, 0, none⟩) ((backL xs).length) cap4) ?_
     refine wv (.slice (some ⟨g3, 0, none⟩) ((backL xs).length) cap2) ?_
     replace B3 := B3.ext E7
     refine wcl (eqBeat_same (backL xs) g5 cap4 cs4 S4 g3 cap2 cs2 S2 (by omega) _ B5 B3) ?_
     intro w8 E8
     refine wv (.bool false) ?_
     refine wv (.bool false) ?_
     refine wv (.int .i64 0) ?_
     refine wv (.int .i64 0) ?_
     refine wvv (.bool (0 != 0)) (.bool false) (by simp) ?_
     refine wv (.bool false) ?_
     refine wpList_nil (then_normal ?_)
     refine wp_frame (a' := ⟨#[.agg F.cells, v, .pointer (some ⟨g1, 0, none⟩), undef, .bool false, .slice (some ⟨g3, 0, none⟩) ((backL xs).length) cap2, .int .i64 0, .slice (some ⟨g4, 0, none⟩) xs.length cap3, .slice (some ⟨g5, 0, none⟩) ((backL xs).length) cap4, .int .i64 0, undef, undef, undef, undef, undef, v, .int .i64 (xs.length : Int), .bool (decide (1048576 < (xs.length : Int))), .tuple #[.slice (some ⟨g3, 0, none⟩) ((backL xs).length) cap2, .int .i64 0], .agg F.cells, .agg F.cells, v, .slice (some ⟨g2, 0, none⟩) xs.length cap1, .tuple #[.slice (some ⟨g3, 0, none⟩) ((backL xs).length) cap2, .int .i64 0], .slice (some ⟨g3, 0, none⟩) ((backL xs).length) cap2, .int .i64 0, v, .slice (some ⟨g4, 0, none⟩) xs.length cap3, .tuple #[.slice (some ⟨g5, 0, none⟩) ((backL xs).length) cap4, .int .i64 0], .agg F.cells, .agg F.cells, .slice (some ⟨g4, 0, none⟩) xs.length cap3, .tuple #[.slice (some ⟨g5, 0, none⟩) ((backL xs).length) cap4, .int .i64 0], .slice (some ⟨g5, 0, none⟩) ((backL xs).length) cap4, .int .i64 0, .slice (some ⟨g5, 0, none⟩) ((backL xs).length) cap4, .slice (some ⟨g3, 0, none⟩) ((backL xs).length) cap2, .bool true, .bool false, .bool false, .int .i64 0, .int .i64 0, .bool false, .bool false, undef, undef, undef, undef, undef, undef, undef, undef, undef, undef, undef, undef, undef, undef, undef, undef, undef, undef, undef, undef, undef, undef, undef, undef, undef, undef, undef, undef, undef, undef, undef, undef, undef, undef, undef, undef, undef, undef, undef, undef, undef, undef, undef, undef, undef, undef, undef, undef, undef, undef, undef, undef, undef, undef, undef, undef, undef], []⟩) (by kernel_rfl) ?_
     refine wcf ?_
     refine wp_skip ?_
     refine then_normal ?_
     refine wp_seq ?_
     refine wsr ?_
     refine wv (.slice (some ⟨g4, 0, none⟩) xs.length cap3) ?_
     refine wv v ?_
     have H6 := (H5.trans E7).trans E8
     replace B1 := (B1.ext E7).ext E8
     replace B2 := (B2.ext E7).ext E8
     replace B3 := B3.ext E8
     replace B4 := (B4.ext E7).ext E8
     replace B5 := B5.ext E8
     refine wcli (toBeat_any xs v (by omega) _ (SlIn.ext hin H6)) ?_
     intro g6 cap5 cs5 w9 B6 S5 E9 hg_
     have q_g1_g6 := Nat.ne_of_lt (Nat.lt_of_lt_of_le B1.lt hg_)
     have q_g2_g6 := Nat.ne_of_lt (Nat.lt_of_lt_of_le B2.lt hg_)
     have q_g3_g6 := Nat.ne_of_lt (Nat.lt_of_lt_of_le B3.lt hg_)
     have q_g4_g6 := Nat.ne_of_lt (Nat.lt_of_lt_of_le B4.lt hg_)
     have q_g5_g6 := Nat.ne_of_lt (Nat.lt_of_lt_of_le B5.lt hg_)
     have lo_g6 := Nat.le_trans (H6).size hg_
     replace B4 := B4.ext E9
     refine wcl (eqBeat_same xs g4 cap3 cs3 S3 g6 cap5 cs5 S5 (by omega) _ B4 B6) ?_
     intro w10 E10
     refine wv (.bool false) ?_
     refine wpList_nil (then_normal ?_)
     refine wcf ?_
     refine wp_skip ?_
     refine then_normal ?_
     refine wsr ?_
     refine wv (.int .i64 1) ?_
     refine wpList_nil (then_normal ?_)
     refine wsr ?_
     refine wv (.slice (some ⟨g4, 0, none⟩) xs.length cap3) ?_
     refine wv (.int .i64 1) ?_
     replace B4 := B4.ext E10
     refine wclx (fun v_ w_ => ∃ cs' ys, v_ = .int .i64 (1 + (xs.length : Int)) ∧ Blk w_ g4 24 cs' ∧ SlI cs' xs.length cap3 .i16 ys ∧ (ys.length = xs.length ∧ ∀ j, j < xs.length → atI ys j = IntKind.i16.wrap (1 + (j : Int))) ∧ Wr g4 w10 w_) (markBeat_any xs g4 cap3 cs3 S3 1 (by omega) (by omega) _ B4) (fun e_ w_ ⟨c_, y_, h_, r_⟩ => ⟨_, h_, c_, y_, rfl, r_⟩) ?_
     rintro v_ w11 ⟨cs6, ys1, rfl, B4_, S6, hm1, X1⟩
     clear B4; have B4 := B4_; clear B4_
     refine wv (.int .i64 (1 + (xs.length : Int))) ?_
     refine wpList_nil (then_normal ?_)
     refine wp_seq ?_
     refine wsr ?_
     refine wv (.int .i64 (1 + (xs.length : Int))) ?_
     refine wv (.bool (decide ((1 + (xs.length : Int)) < 0))) ?_
     refine wv (.bool (decide ((1 + (xs.length : Int)) < 0))) ?_
     have H7 := X1.ext w lo_g4 ((H6.trans E9).trans E10)
     refine split_bool (decide ((1 + (xs.length : Int)) < 0)) (fun h3 => ?_) (fun h3 => ?_)
     · skip
       refine wbl 54 true h3 ?_
       have h3d := dT h3
       refine wsk ?_
       refine wsk ?_
       refine wsk ?_
       refine wsk ?_
       refine wv (.bool true) ?_
       refine wv (.bool true) ?_
       refine wsk ?_
       refine wsk ?_
       refine wsk ?_
       refine wv (.bool true) ?_
       refine wpList_nil (then_normal ?_)
       refine wct ?_
       refine wsr ?_
       refine wv (.bool false) ?_
       refine wpList_nil (then_normal ?_)
       refine wp_ret ?_
       refine then_ret ?_
       refine ret1 (.bool true) rfl ?_ rfl ?_
       · refine (resT (v := .bool false) (by kernel_rfl)).trans ?_
         refine congrArg Value.bool ?_
         exfalso; omega
       exact ⟨rfl, H7⟩
     · skip
       refine wbl 54 false h3 ?_
       have h3d := dF h3
       refine wv (.slice (some ⟨g5, 0, none⟩) ((backL xs).length) cap4) ?_
       refine wv (.slice (some ⟨g3, 0, none⟩) ((backL xs).length) cap2) ?_
       replace B5 := X1.blk ((B5.ext E9).ext E10) (Ne.symm q_g4_g5)
       replace B3 := X1.blk ((B3.ext E9).ext E10) q_g3_g4
       refine wcl (eqBeat_same (backL xs) g5 cap4 cs4 S4 g3 cap2 cs2 S2 (by omega) _ B5 B3) ?_
       intro w12 E11
       refine wv (.bool false) ?_
       refine wv (.bool false) ?_
       refine wv (.bool false) ?_
       refine wv (.int .i64 0) ?_
       refine wv (.int .i64 0) ?_
       refine wvv (.bool (0 != 0)) (.bool false) (by simp) ?_
       refine wv (.bool false) ?_
       refine wpList_nil (then_normal ?_)
       refine wcf ?_
       refine wp_skip ?_
       refine then_normal ?_
       refine wsr ?_
       refine wv (.int .i64 1) ?_
       refine wpList_nil (then_normal ?_)
       refine wsr ?_
       refine wv (.slice (some ⟨g5, 0, none⟩) ((backL xs).length) cap4) ?_
       refine wv (.int .i64 1) ?_
       replace B5 := B5.ext E11
       refine wclx (fun v_ w_ => ∃ cs' ys, v_ = .int .i64 (1 + ((backL xs).length : Int)) ∧ Blk w_ g5 24 cs' ∧ SlI cs' (backL xs).length cap4 .i16 ys ∧ (ys.length = (backL xs).length ∧ ∀ j, j < (backL xs).length → atI ys j = IntKind.i16.wrap (1 + (j : Int))) ∧ Wr g5 w12 w_) (markBeat_any (backL xs) g5 cap4 cs4 S4 1 (by omega) (by omega) _ B5) (fun e_ w_ ⟨c_, y_, h_, r_⟩ => ⟨_, h_, c_, y_, rfl, r_⟩) ?_
       rintro v_ w13 ⟨cs7, ys2, rfl, B5_, S7, hm2, X2⟩
       clear B5; have B5 := B5_; clear B5_
       refine wv (.int .i64 (1 + ((backL xs).length : Int))) ?_
       refine wpList_nil (then_normal ?_)
       refine wsr ?_
       refine wv (.int .i64 1) ?_
       refine wpList_nil (then_normal ?_)
       refine wsr ?_
       refine wv (.slice (some ⟨g5, 0, none⟩) ((backL xs).length) cap4) ?_
       refine wv (.int .i64 1) ?_
       refine wcl (heldBeat_any ys2 ((backL xs).length) g5 cap4 cs7 S7 1 (by omega) (by omega) hm2.2 _ B5) ?_
       intro w14 E12
       refine wv (.int .i64 (1 + ((backL xs).length : Int))) ?_
       refine wpList_nil (then_normal ?_)
       refine wp_frame (a' := ⟨#[.agg F.cells, v, .pointer (some ⟨g1, 0, none⟩), undef, .bool false, .slice (some ⟨g3, 0, none⟩) ((backL xs).length) cap2, .int .i64 0, .slice (some ⟨g4, 0, none⟩) xs.length cap3, .slice (some ⟨g5, 0, none⟩) ((backL xs).length) cap4, .int .i64 0, .int .i64 (1 + (xs.length : Int)), .int .i64 (1 + ((backL xs).length : Int)), .int .i64 (1 + ((backL xs).length : Int)), undef, undef, v, .int .i64 (xs.length : Int), .bool (decide (1048576 < (xs.length : Int))), .tuple #[.slice (some ⟨g3, 0, none⟩) ((backL xs).length) cap2, .int .i64 0], .agg F.cells, .agg F.cells, v, .slice (some ⟨g2, 0, none⟩) xs.length cap1, .tuple #[.slice (some ⟨g3, 0, none⟩) ((backL xs).length) cap2, .int .i64 0], .slice (some ⟨g3, 0, none⟩) ((backL xs).length) cap2, .int .i64 0, v, .slice (some ⟨g4, 0, none⟩) xs.length cap3, .tuple #[.slice (some ⟨g5, 0, none⟩) ((backL xs).length) cap4, .int .i64 0], .agg F.cells, .agg F.cells, .slice (some ⟨g4, 0, none⟩) xs.length cap3, .tuple #[.slice (some ⟨g5, 0, none⟩) ((backL xs).length) cap4, .int .i64 0], .slice (some ⟨g5, 0, none⟩) ((backL xs).length) cap4, .int .i64 0, .slice (some ⟨g5, 0, none⟩) ((backL xs).length) cap4, .slice (some ⟨g3, 0, none⟩) ((backL xs).length) cap2, .bool true, .bool false, .bool false, .int .i64 0, .int .i64 0, .bool false, .bool false, .slice (some ⟨g4, 0, none⟩) xs.length cap3, v, .slice (some ⟨g6, 0, none⟩) xs.length cap5, .bool true, .bool false, .slice (some ⟨g4, 0, none⟩) xs.length cap3, .int .i64 1, .int .i64 (1 + (xs.length : Int)), .int .i64 (1 + (xs.length : Int)), .bool (decide ((1 + (xs.length : Int)) < 0)), .bool false, .slice (some ⟨g5, 0, none⟩) ((backL xs).length) cap4, .slice (some ⟨g3, 0, none⟩) ((backL xs).length) cap2, .bool true, .bool false, .bool false, .bool false, .int .i64 0, .int .i64 0, .bool false, .bool false, .slice (some ⟨g5, 0, none⟩) ((backL xs).length) cap4, .int .i64 1, .int .i64 (1 + ((backL xs).length : Int)), .slice (some ⟨g5, 0, none⟩) ((backL xs).length) cap4, .int .i64 1, .int .i64 (1 + ((backL xs).length : Int)), undef, undef, undef, undef, undef, undef, undef, undef, undef, undef, undef, undef, undef, undef, undef, undef, undef, undef, undef, undef, undef, undef, undef, undef, undef, undef, undef, undef, undef, undef], []⟩) (by kernel_rfl) ?_
       refine wp_seq ?_
       refine wsr ?_
       refine wv (.int .i64 (1 + ((backL xs).length : Int))) ?_
       refine wv (.bool (decide ((1 + ((backL xs).length : Int)) < 0))) ?_
       refine wpList_nil (then_normal ?_)
       have H8 := (X2.ext w lo_g5 (H7.trans E11)).trans E12
       refine wsplit (decide ((1 + ((backL xs).length : Int)) < 0)) (fun h4 => ?_) (fun h4 => ?_)
       · skip
         have h4d := dT h4
         refine wsr ?_
         refine wv (.bool false) ?_
         refine wpList_nil (then_normal ?_)
         refine wp_ret ?_
         refine then_ret ?_
         refine ret1 (.bool true) rfl ?_ rfl ?_
         · refine (resT (v := .bool false) (by kernel_rfl)).trans ?_
           refine congrArg Value.bool ?_
           exfalso; omega
         exact ⟨rfl, H8⟩
       · skip
         have h4d := dF h4
         refine wp_skip ?_
         refine then_normal ?_
         refine wp_seq ?_
         refine wsr ?_
         refine wv (.int .i64 (1 + ((backL xs).length : Int))) ?_
         refine wv (.int .i64 (1 + ((backL xs).length : Int))) ?_
         refine wvv (.bool ((1 + ((backL xs).length : Int)) != (1 + ((backL xs).length : Int)))) (.bool false) (by simp) ?_
         refine wpList_nil (then_normal ?_)
         refine wcf ?_
         refine wp_skip ?_
         refine then_normal ?_
         refine wsr ?_
         replace B1 := (X2.blk ((X1.blk ((B1.ext E9).ext E10) q_g1_g4).ext E11) q_g1_g5).ext E12
         refine wrow row_laws_Field B1 (by exact Fld.size_cells _) ?_
         refine wcl (toField_any F hF _) ?_
         intro w15 E13
         refine wv v ?_
         have H9 := H8.trans E13
         replace B1 := B1.ext E13
         replace B2 := ((X2.blk ((X1.blk ((B2.ext E9).ext E10) q_g2_g4).ext E11) q_g2_g5).ext E12).ext E13
         replace B3 := ((X2.blk (B3.ext E11) q_g3_g5).ext E12).ext E13
         replace B4 := ((X2.blk (B4.ext E11) q_g4_g5).ext E12).ext E13
         replace B5 := (B5.ext E12).ext E13
         replace B6 := ((X2.blk ((X1.blk (B6.ext E10) (Ne.symm q_g4_g6)).ext E11) (Ne.symm q_g5_g6)).ext E12).ext E13
         refine wcli (toBeat_any xs v (by omega) _ (SlIn.ext hin H9)) ?_
         intro g7 cap6 cs8 w16 B7 S8 E14 hg_
         have q_g1_g7 := Nat.ne_of_lt (Nat.lt_of_lt_of_le B1.lt hg_)
         have q_g2_g7 := Nat.ne_of_lt (Nat.lt_of_lt_of_le B2.lt hg_)
         have q_g3_g7 := Nat.ne_of_lt (Nat.lt_of_lt_of_le B3.lt hg_)
         have q_g4_g7 := Nat.ne_of_lt (Nat.lt_of_lt_of_le B4.lt hg_)
         have q_g5_g7 := Nat.ne_of_lt (Nat.lt_of_lt_of_le B5.lt hg_)
         have q_g6_g7 := Nat.ne_of_lt (Nat.lt_of_lt_of_le B6.lt hg_)
         have lo_g7 := Nat.le_trans (H9).size hg_
         replace B1 := B1.ext E14
         replace B2 := B2.ext E14
         replace B3 := B3.ext E14
         replace B4 := B4.ext E14
         replace B5 := B5.ext E14
         replace B6 := B6.ext E14
         have H10 := H9.trans E14
         refine wcli (iBack_t F hF xs xs.length g7 cap6 cs8 S8 (by omega) hw16 h2 _ B7) ?_
         intro g8 cap7 cs9 w17 B8 S9 E15 hg_
         have q_g1_g8 := Nat.ne_of_lt (Nat.lt_of_lt_of_le B1.lt hg_)
         have q_g2_g8 := Nat.ne_of_lt (Nat.lt_of_lt_of_le B2.lt hg_)
         have q_g3_g8 := Nat.ne_of_lt (Nat.lt_of_lt_of_le B3.lt hg_)
         have q_g4_g8 := Nat.ne_of_lt (Nat.lt_of_lt_of_le B4.lt hg_)
         have q_g5_g8 := Nat.ne_of_lt (Nat.lt_of_lt_of_le B5.lt hg_)
         have q_g6_g8 := Nat.ne_of_lt (Nat.lt_of_lt_of_le B6.lt hg_)
         have q_g7_g8 := Nat.ne_of_lt (Nat.lt_of_lt_of_le B7.lt hg_)
         have lo_g8 := Nat.le_trans (H10).size hg_
         have bl3 := backL_len h2
         refine wv (.tuple #[.slice (some ⟨g8, 0, none⟩) ((backL xs).length) cap7, .int .i64 0]) ?_
         refine wv (.slice (some ⟨g8, 0, none⟩) ((backL xs).length) cap7) ?_
         refine wv (.int .i64 0) ?_
         refine wv (.slice (some ⟨g8, 0, none⟩) ((backL xs).length) cap7) ?_
         refine wv (.int .i64 0) ?_
         refine wpList_nil (then_normal ?_)
         refine wp_seq ?_
         refine wsr ?_
         refine wv (.slice (some ⟨g8, 0, none⟩) ((backL xs).length) cap7) ?_
         refine wv (.slice (some ⟨g3, 0, none⟩) ((backL xs).length) cap2) ?_
         replace B3 := B3.ext E15
         refine wcl (eqBeat_same (backL xs) g8 cap7 cs9 S9 g3 cap2 cs2 S2 (by omega) _ B8 B3) ?_
         intro w18 E16
         refine wv (.bool false) ?_
         refine wv (.bool false) ?_
         refine wv (.int .i64 0) ?_
         refine wv (.int .i64 0) ?_
         refine wvv (.bool (0 != 0)) (.bool false) (by simp) ?_
         refine wv (.bool false) ?_
         refine wpList_nil (then_normal ?_)
         refine wcf ?_
         refine wp_skip ?_
         refine then_normal ?_
         refine wsr ?_
         refine wv (.int .i64 1) ?_
         refine wpList_nil (then_normal ?_)
         refine wsr ?_
         refine wv (.slice (some ⟨g5, 0, none⟩) ((backL xs).length) cap4) ?_
         refine wv (.int .i64 1) ?_
         replace B5 := (B5.ext E15).ext E16
         refine wcl (heldBeat_any ys2 ((backL xs).length) g5 cap4 cs7 S7 1 (by omega) (by omega) hm2.2 _ B5) ?_
         intro w19 E17
         refine wv (.int .i64 (1 + ((backL xs).length : Int))) ?_
         refine wpList_nil (then_normal ?_)
         refine wp_seq ?_
         refine wsr ?_
         refine wv (.int .i64 (1 + ((backL xs).length : Int))) ?_
         refine wv (.bool (decide ((1 + ((backL xs).length : Int)) < 0))) ?_
         refine wbl 97 false h4 ?_
         refine wpList_nil (then_normal ?_)
         refine wp_frame (a' := ⟨#[.agg F.cells, v, .pointer (some ⟨g1, 0, none⟩), undef, .bool false, .slice (some ⟨g3, 0, none⟩) ((backL xs).length) cap2, .int .i64 0, .slice (some ⟨g4, 0, none⟩) xs.length cap3, .slice (some ⟨g5, 0, none⟩) ((backL xs).length) cap4, .int .i64 0, .int .i64 (1 + (xs.length : Int)), .int .i64 (1 + ((backL xs).length : Int)), .int .i64 (1 + ((backL xs).length : Int)), .slice (some ⟨g8, 0, none⟩) ((backL xs).length) cap7, .int .i64 0, v, .int .i64 (xs.length : Int), .bool (decide (1048576 < (xs.length : Int))), .tuple #[.slice (some ⟨g3, 0, none⟩) ((backL xs).length) cap2, .int .i64 0], .agg F.cells, .agg F.cells, v, .slice (some ⟨g2, 0, none⟩) xs.length cap1, .tuple #[.slice (some ⟨g3, 0, none⟩) ((backL xs).length) cap2, .int .i64 0], .slice (some ⟨g3, 0, none⟩) ((backL xs).length) cap2, .int .i64 0, v, .slice (some ⟨g4, 0, none⟩) xs.length cap3, .tuple #[.slice (some ⟨g5, 0, none⟩) ((backL xs).length) cap4, .int .i64 0], .agg F.cells, .agg F.cells, .slice (some ⟨g4, 0, none⟩) xs.length cap3, .tuple #[.slice (some ⟨g5, 0, none⟩) ((backL xs).length) cap4, .int .i64 0], .slice (some ⟨g5, 0, none⟩) ((backL xs).length) cap4, .int .i64 0, .slice (some ⟨g5, 0, none⟩) ((backL xs).length) cap4, .slice (some ⟨g3, 0, none⟩) ((backL xs).length) cap2, .bool true, .bool false, .bool false, .int .i64 0, .int .i64 0, .bool false, .bool false, .slice (some ⟨g4, 0, none⟩) xs.length cap3, v, .slice (some ⟨g6, 0, none⟩) xs.length cap5, .bool true, .bool false, .slice (some ⟨g4, 0, none⟩) xs.length cap3, .int .i64 1, .int .i64 (1 + (xs.length : Int)), .int .i64 (1 + (xs.length : Int)), .bool (decide ((1 + (xs.length : Int)) < 0)), .bool false, .slice (some ⟨g5, 0, none⟩) ((backL xs).length) cap4, .slice (some ⟨g3, 0, none⟩) ((backL xs).length) cap2, .bool true, .bool false, .bool false, .bool false, .int .i64 0, .int .i64 0, .bool false, .bool false, .slice (some ⟨g5, 0, none⟩) ((backL xs).length) cap4, .int .i64 1, .int .i64 (1 + ((backL xs).length : Int)), .slice (some ⟨g5, 0, none⟩) ((backL xs).length) cap4, .int .i64 1, .int .i64 (1 + ((backL xs).length : Int)), .int .i64 (1 + ((backL xs).length : Int)), .bool (decide ((1 + ((backL xs).length : Int)) < 0)), .int .i64 (1 + ((backL xs).length : Int)), .int .i64 (1 + ((backL xs).length : Int)), .bool false, .tuple #[.slice (some ⟨g8, 0, none⟩) ((backL xs).length) cap7, .int .i64 0], .agg F.cells, .agg F.cells, v, .slice (some ⟨g7, 0, none⟩) xs.length cap6, .tuple #[.slice (some ⟨g8, 0, none⟩) ((backL xs).length) cap7, .int .i64 0], .slice (some ⟨g8, 0, none⟩) ((backL xs).length) cap7, .int .i64 0, .slice (some ⟨g8, 0, none⟩) ((backL xs).length) cap7, .slice (some ⟨g3, 0, none⟩) ((backL xs).length) cap2, .bool true, .bool false, .bool false, .int .i64 0, .int .i64 0, .bool false, .bool false, .slice (some ⟨g5, 0, none⟩) ((backL xs).length) cap4, .int .i64 1, .int .i64 (1 + ((backL xs).length : Int)), .int .i64 (1 + ((backL xs).length : Int)), .bool false, undef, undef, undef], []⟩) (by kernel_rfl) ?_
         refine wcf ?_
         refine wp_skip ?_
         refine then_normal ?_
         refine wp_seq ?_
         refine wsr ?_
         refine wv (.int .i64 (1 + ((backL xs).length : Int))) ?_
         refine wv (.int .i64 (1 + ((backL xs).length : Int))) ?_
         refine wvv (.bool ((1 + ((backL xs).length : Int)) != (1 + ((backL xs).length : Int)))) (.bool false) (by simp) ?_
         refine wpList_nil (then_normal ?_)
         refine wcf ?_
         refine wp_skip ?_
         refine then_normal ?_
         refine wsr ?_
         refine wv (.bool true) ?_
         refine wpList_nil (then_normal ?_)
         refine wp_ret ?_
         have H11 := ((H10.trans E15).trans E16).trans E17
         refine ret1 (.bool true) rfl ?_ rfl ?_
         · exact resT (by kernel_rfl)
         exact ⟨rfl, H11⟩
   · skip
     replace B1 := B1.ext E3
     refine wcli (sBack_f F hF xs xs.length g2 cap1 cs1 S1 (by omega) hw16 h2 _ B2) ?_
     intro g9 cap8 cs10 w20 B9 S10 E18 hg_
     have q_g1_g9 := Nat.ne_of_lt (Nat.lt_of_lt_of_le B1.lt hg_)
     have q_g2_g9 := Nat.ne_of_lt (Nat.lt_of_lt_of_le B2.lt hg_)
     have lo_g9 := Nat.le_trans (H3).size hg_
     refine wv (.tuple #[.slice (some ⟨g9, 0, none⟩) (([] : List Int).length) cap8, .int .i64 1]) ?_
     refine wv (.slice (some ⟨g9, 0, none⟩) (([] : List Int).length) cap8) ?_
     refine wv (.int .i64 1) ?_
     refine wv (.slice (some ⟨g9, 0, none⟩) (([] : List Int).length) cap8) ?_
     refine wv (.int .i64 1) ?_
     refine wpList_nil (then_normal ?_)
     refine wsr ?_
     refine wv v ?_
     have H12 := H3.trans E18
     replace B1 := B1.ext E18
     replace B2 := B2.ext E18
     refine wcli (toBeat_any xs v (by omega) _ (SlIn.ext hin H12)) ?_
     intro g10 cap9 cs11 w21 B10 S11 E19 hg_
     have q_g1_g10 := Nat.ne_of_lt (Nat.lt_of_lt_of_le B1.lt hg_)
     have q_g2_g10 := Nat.ne_of_lt (Nat.lt_of_lt_of_le B2.lt hg_)
     have q_g9_g10 := Nat.ne_of_lt (Nat.lt_of_lt_of_le B9.lt hg_)
     have lo_g10 := Nat.le_trans (H12).size hg_
     refine wv (.slice (some ⟨g10, 0, none⟩) xs.length cap9) ?_
     refine wpList_nil (then_normal ?_)
     refine wsr ?_
     replace B1 := B1.ext E19
     refine wrow row_laws_Field B1 (by exact Fld.size_cells _) ?_
     refine wcl (toField_any F hF _) ?_
     intro w22 E20
     refine wv (.slice (some ⟨g10, 0, none⟩) xs.length cap9) ?_
     replace B10 := B10.ext E20
     refine wcl (iBack_f F hF xs xs.length g10 cap9 cs11 S11 (by omega) hw16 h2 _ B10) ?_
     intro w23 E21
     refine wv (.tuple #[.slice none 0 0, .int .i64 1]) ?_
     refine wv (.slice none 0 0) ?_
     refine wv (.int .i64 1) ?_
     refine wv (.slice none 0 0) ?_
     refine wv (.int .i64 1) ?_
     refine wpList_nil (then_normal ?_)
     refine wp_seq ?_
     refine wsr ?_
     refine wv (.slice none 0 0) ?_
     refine wv (.slice (some ⟨g9, 0, none⟩) (([] : List Int).length) cap8) ?_
     replace B9 := ((B9.ext E19).ext E20).ext E21
     refine wcl (eqBeat_nil g9 cap8 _) ?_
     intro w24 E22
     refine wv (.bool false) ?_
     refine wv (.bool false) ?_
     refine wv (.int .i64 1) ?_
     refine wv (.int .i64 1) ?_
     refine wvv (.bool (1 != 1)) (.bool false) (by simp) ?_
     refine wv (.bool false) ?_
     refine wpList_nil (then_normal ?_)
     refine wp_frame (a' := ⟨#[.agg F.cells, v, .pointer (some ⟨g1, 0, none⟩), undef, .bool false, .slice (some ⟨g9, 0, none⟩) (([] : List Int).length) cap8, .int .i64 1, .slice (some ⟨g10, 0, none⟩) xs.length cap9, .slice none 0 0, .int .i64 1, undef, undef, undef, undef, undef, v, .int .i64 (xs.length : Int), .bool (decide (1048576 < (xs.length : Int))), .tuple #[.slice (some ⟨g9, 0, none⟩) (([] : List Int).length) cap8, .int .i64 1], .agg F.cells, .agg F.cells, v, .slice (some ⟨g2, 0, none⟩) xs.length cap1, .tuple #[.slice (some ⟨g9, 0, none⟩) (([] : List Int).length) cap8, .int .i64 1], .slice (some ⟨g9, 0, none⟩) (([] : List Int).length) cap8, .int .i64 1, v, .slice (some ⟨g10, 0, none⟩) xs.length cap9, .tuple #[.slice none 0 0, .int .i64 1], .agg F.cells, .agg F.cells, .slice (some ⟨g10, 0, none⟩) xs.length cap9, .tuple #[.slice none 0 0, .int .i64 1], .slice none 0 0, .int .i64 1, .slice none 0 0, .slice (some ⟨g9, 0, none⟩) (([] : List Int).length) cap8, .bool true, .bool false, .bool false, .int .i64 1, .int .i64 1, .bool false, .bool false, undef, undef, undef, undef, undef, undef, undef, undef, undef, undef, undef, undef, undef, undef, undef, undef, undef, undef, undef, undef, undef, undef, undef, undef, undef, undef, undef, undef, undef, undef, undef, undef, undef, undef, undef, undef, undef, undef, undef, undef, undef, undef, undef, undef, undef, undef, undef, undef, undef, undef, undef, undef, undef, undef, undef, undef, undef], []⟩) (by kernel_rfl) ?_
     refine wcf ?_
     refine wp_skip ?_
     refine then_normal ?_
     refine wp_seq ?_
     refine wsr ?_
     refine wv (.slice (some ⟨g10, 0, none⟩) xs.length cap9) ?_
     refine wv v ?_
     have H13 := (((H12.trans E19).trans E20).trans E21).trans E22
     replace B1 := ((B1.ext E20).ext E21).ext E22
     replace B2 := (((B2.ext E19).ext E20).ext E21).ext E22
     replace B9 := B9.ext E22
     replace B10 := (B10.ext E21).ext E22
     refine wcli (toBeat_any xs v (by omega) _ (SlIn.ext hin H13)) ?_
     intro g11 cap10 cs12 w25 B11 S12 E23 hg_
     have q_g1_g11 := Nat.ne_of_lt (Nat.lt_of_lt_of_le B1.lt hg_)
     have q_g2_g11 := Nat.ne_of_lt (Nat.lt_of_lt_of_le B2.lt hg_)
     have q_g9_g11 := Nat.ne_of_lt (Nat.lt_of_lt_of_le B9.lt hg_)
     have q_g10_g11 := Nat.ne_of_lt (Nat.lt_of_lt_of_le B10.lt hg_)
     have lo_g11 := Nat.le_trans (H13).size hg_
     replace B10 := B10.ext E23
     refine wcl (eqBeat_same xs g10 cap9 cs11 S11 g11 cap10 cs12 S12 (by omega) _ B10 B11) ?_
     intro w26 E24
     refine wv (.bool false) ?_
     refine wpList_nil (then_normal ?_)
     refine wcf ?_
     refine wp_skip ?_
     refine then_normal ?_
     refine wsr ?_
     refine wv (.int .i64 1) ?_
     refine wpList_nil (then_normal ?_)
     refine wsr ?_
     refine wv (.slice (some ⟨g10, 0, none⟩) xs.length cap9) ?_
     refine wv (.int .i64 1) ?_
     replace B10 := B10.ext E24
     refine wclx (fun v_ w_ => ∃ cs' ys, v_ = .int .i64 (1 + (xs.length : Int)) ∧ Blk w_ g10 24 cs' ∧ SlI cs' xs.length cap9 .i16 ys ∧ (ys.length = xs.length ∧ ∀ j, j < xs.length → atI ys j = IntKind.i16.wrap (1 + (j : Int))) ∧ Wr g10 w26 w_) (markBeat_any xs g10 cap9 cs11 S11 1 (by omega) (by omega) _ B10) (fun e_ w_ ⟨c_, y_, h_, r_⟩ => ⟨_, h_, c_, y_, rfl, r_⟩) ?_
     rintro v_ w27 ⟨cs13, ys3, rfl, B10_, S13, hm3, X3⟩
     clear B10; have B10 := B10_; clear B10_
     refine wv (.int .i64 (1 + (xs.length : Int))) ?_
     refine wpList_nil (then_normal ?_)
     refine wp_seq ?_
     refine wsr ?_
     refine wv (.int .i64 (1 + (xs.length : Int))) ?_
     refine wv (.bool (decide ((1 + (xs.length : Int)) < 0))) ?_
     refine wv (.bool (decide ((1 + (xs.length : Int)) < 0))) ?_
     have H14 := X3.ext w lo_g10 ((H13.trans E23).trans E24)
     refine split_bool (decide ((1 + (xs.length : Int)) < 0)) (fun h5 => ?_) (fun h5 => ?_)
     · skip
       refine wbl 54 true h5 ?_
       have h5d := dT h5
       refine wsk ?_
       refine wsk ?_
       refine wsk ?_
       refine wsk ?_
       refine wv (.bool true) ?_
       refine wv (.bool true) ?_
       refine wsk ?_
       refine wsk ?_
       refine wsk ?_
       refine wv (.bool true) ?_
       refine wpList_nil (then_normal ?_)
       refine wct ?_
       refine wsr ?_
       refine wv (.bool false) ?_
       refine wpList_nil (then_normal ?_)
       refine wp_ret ?_
       refine then_ret ?_
       refine ret1 (.bool true) rfl ?_ rfl ?_
       · refine (resT (v := .bool false) (by kernel_rfl)).trans ?_
         refine congrArg Value.bool ?_
         exfalso; omega
       exact ⟨rfl, H14⟩
     · skip
       refine wbl 54 false h5 ?_
       have h5d := dF h5
       refine wv (.slice none 0 0) ?_
       refine wv (.slice (some ⟨g9, 0, none⟩) (([] : List Int).length) cap8) ?_
       replace B9 := X3.blk ((B9.ext E23).ext E24) q_g9_g10
       refine wcl (eqBeat_nil g9 cap8 _) ?_
       intro w28 E25
       refine wv (.bool false) ?_
       refine wv (.bool false) ?_
       refine wv (.bool false) ?_
       refine wv (.int .i64 1) ?_
       refine wv (.int .i64 1) ?_
       refine wvv (.bool (1 != 1)) (.bool false) (by simp) ?_
       refine wv (.bool false) ?_
       refine wpList_nil (then_normal ?_)
       refine wcf ?_
       refine wp_skip ?_
       refine then_normal ?_
       refine wsr ?_
       refine wv (.int .i64 1) ?_
       refine wpList_nil (then_normal ?_)
       refine wsr ?_
       refine wv (.slice none 0 0) ?_
       refine wv (.int .i64 1) ?_
       refine wcl (markBeat_nil 1 _) ?_
       intro w29 E26
       refine wv (.int .i64 1) ?_
       refine wpList_nil (then_normal ?_)
       refine wsr ?_
       refine wv (.int .i64 1) ?_
       refine wpList_nil (then_normal ?_)
       refine wsr ?_
       refine wv (.slice none 0 0) ?_
       refine wv (.int .i64 1) ?_
       refine wcl (heldBeat_nil 1 _) ?_
       intro w30 E27
       refine wv (.int .i64 1) ?_
       refine wpList_nil (then_normal ?_)
       refine wp_frame (a' := ⟨#[.agg F.cells, v, .pointer (some ⟨g1, 0, none⟩), undef, .bool false, .slice (some ⟨g9, 0, none⟩) (([] : List Int).length) cap8, .int .i64 1, .slice (some ⟨g10, 0, none⟩) xs.length cap9, .slice none 0 0, .int .i64 1, .int .i64 (1 + (xs.length : Int)), .int .i64 1, .int .i64 1, undef, undef, v, .int .i64 (xs.length : Int), .bool (decide (1048576 < (xs.length : Int))), .tuple #[.slice (some ⟨g9, 0, none⟩) (([] : List Int).length) cap8, .int .i64 1], .agg F.cells, .agg F.cells, v, .slice (some ⟨g2, 0, none⟩) xs.length cap1, .tuple #[.slice (some ⟨g9, 0, none⟩) (([] : List Int).length) cap8, .int .i64 1], .slice (some ⟨g9, 0, none⟩) (([] : List Int).length) cap8, .int .i64 1, v, .slice (some ⟨g10, 0, none⟩) xs.length cap9, .tuple #[.slice none 0 0, .int .i64 1], .agg F.cells, .agg F.cells, .slice (some ⟨g10, 0, none⟩) xs.length cap9, .tuple #[.slice none 0 0, .int .i64 1], .slice none 0 0, .int .i64 1, .slice none 0 0, .slice (some ⟨g9, 0, none⟩) (([] : List Int).length) cap8, .bool true, .bool false, .bool false, .int .i64 1, .int .i64 1, .bool false, .bool false, .slice (some ⟨g10, 0, none⟩) xs.length cap9, v, .slice (some ⟨g11, 0, none⟩) xs.length cap10, .bool true, .bool false, .slice (some ⟨g10, 0, none⟩) xs.length cap9, .int .i64 1, .int .i64 (1 + (xs.length : Int)), .int .i64 (1 + (xs.length : Int)), .bool (decide ((1 + (xs.length : Int)) < 0)), .bool false, .slice none 0 0, .slice (some ⟨g9, 0, none⟩) (([] : List Int).length) cap8, .bool true, .bool false, .bool false, .bool false, .int .i64 1, .int .i64 1, .bool false, .bool false, .slice none 0 0, .int .i64 1, .int .i64 1, .slice none 0 0, .int .i64 1, .int .i64 1, undef, undef, undef, undef, undef, undef, undef, undef, undef, undef, undef, undef, undef, undef, undef, undef, undef, undef, undef, undef, undef, undef, undef, undef, undef, undef, undef, undef, undef, undef], []⟩) (by kernel_rfl) ?_
       refine wp_seq ?_
       refine wsr ?_
       refine wv (.int .i64 1) ?_
       refine wv (.bool false) ?_
       refine wpList_nil (then_normal ?_)
       refine wcf ?_
       refine wp_skip ?_
       refine then_normal ?_
       refine wp_seq ?_
       refine wsr ?_
       refine wv (.int .i64 1) ?_
       refine wv (.int .i64 1) ?_
       refine wvv (.bool (1 != 1)) (.bool false) (by simp) ?_
       refine wpList_nil (then_normal ?_)
       refine wcf ?_
       refine wp_skip ?_
       refine then_normal ?_
       refine wsr ?_
       replace B1 := (((X3.blk ((B1.ext E23).ext E24) q_g1_g10).ext E25).ext E26).ext E27
       refine wrow row_laws_Field B1 (by exact Fld.size_cells _) ?_
       refine wcl (toField_any F hF _) ?_
       intro w31 E28
       refine wv v ?_
       have H15 := (((H14.trans E25).trans E26).trans E27).trans E28
       replace B1 := B1.ext E28
       replace B2 := ((((X3.blk ((B2.ext E23).ext E24) q_g2_g10).ext E25).ext E26).ext E27).ext E28
       replace B9 := (((B9.ext E25).ext E26).ext E27).ext E28
       replace B10 := (((B10.ext E25).ext E26).ext E27).ext E28
       replace B11 := ((((X3.blk (B11.ext E24) (Ne.symm q_g10_g11)).ext E25).ext E26).ext E27).ext E28
       refine wcli (toBeat_any xs v (by omega) _ (SlIn.ext hin H15)) ?_
       intro g12 cap11 cs14 w32 B12 S14 E29 hg_
       have q_g1_g12 := Nat.ne_of_lt (Nat.lt_of_lt_of_le B1.lt hg_)
       have q_g2_g12 := Nat.ne_of_lt (Nat.lt_of_lt_of_le B2.lt hg_)
       have q_g9_g12 := Nat.ne_of_lt (Nat.lt_of_lt_of_le B9.lt hg_)
       have q_g10_g12 := Nat.ne_of_lt (Nat.lt_of_lt_of_le B10.lt hg_)
       have q_g11_g12 := Nat.ne_of_lt (Nat.lt_of_lt_of_le B11.lt hg_)
       have lo_g12 := Nat.le_trans (H15).size hg_
       refine wcl (iBack_f F hF xs xs.length g12 cap11 cs14 S14 (by omega) hw16 h2 _ B12) ?_
       intro w33 E30
       refine wv (.tuple #[.slice none 0 0, .int .i64 1]) ?_
       refine wv (.slice none 0 0) ?_
       refine wv (.int .i64 1) ?_
       refine wv (.slice none 0 0) ?_
       refine wv (.int .i64 1) ?_
       refine wpList_nil (then_normal ?_)
       refine wp_seq ?_
       refine wsr ?_
       refine wv (.slice none 0 0) ?_
       refine wv (.slice (some ⟨g9, 0, none⟩) (([] : List Int).length) cap8) ?_
       replace B9 := (B9.ext E29).ext E30
       refine wcl (eqBeat_nil g9 cap8 _) ?_
       intro w34 E31
       refine wv (.bool false) ?_
       refine wv (.bool false) ?_
       refine wv (.int .i64 1) ?_
       refine wv (.int .i64 1) ?_
       refine wvv (.bool (1 != 1)) (.bool false) (by simp) ?_
       refine wv (.bool false) ?_
       refine wpList_nil (then_normal ?_)
       refine wcf ?_
       refine wp_skip ?_
       refine then_normal ?_
       refine wsr ?_
       refine wv (.int .i64 1) ?_
       refine wpList_nil (then_normal ?_)
       refine wsr ?_
       refine wv (.slice none 0 0) ?_
       refine wv (.int .i64 1) ?_
       refine wcl (heldBeat_nil 1 _) ?_
       intro w35 E32
       refine wv (.int .i64 1) ?_
       refine wpList_nil (then_normal ?_)
       refine wp_seq ?_
       refine wsr ?_
       refine wv (.int .i64 1) ?_
       refine wv (.bool false) ?_
       refine wpList_nil (then_normal ?_)
       refine wp_frame (a' := ⟨#[.agg F.cells, v, .pointer (some ⟨g1, 0, none⟩), undef, .bool false, .slice (some ⟨g9, 0, none⟩) (([] : List Int).length) cap8, .int .i64 1, .slice (some ⟨g10, 0, none⟩) xs.length cap9, .slice none 0 0, .int .i64 1, .int .i64 (1 + (xs.length : Int)), .int .i64 1, .int .i64 1, .slice none 0 0, .int .i64 1, v, .int .i64 (xs.length : Int), .bool (decide (1048576 < (xs.length : Int))), .tuple #[.slice (some ⟨g9, 0, none⟩) (([] : List Int).length) cap8, .int .i64 1], .agg F.cells, .agg F.cells, v, .slice (some ⟨g2, 0, none⟩) xs.length cap1, .tuple #[.slice (some ⟨g9, 0, none⟩) (([] : List Int).length) cap8, .int .i64 1], .slice (some ⟨g9, 0, none⟩) (([] : List Int).length) cap8, .int .i64 1, v, .slice (some ⟨g10, 0, none⟩) xs.length cap9, .tuple #[.slice none 0 0, .int .i64 1], .agg F.cells, .agg F.cells, .slice (some ⟨g10, 0, none⟩) xs.length cap9, .tuple #[.slice none 0 0, .int .i64 1], .slice none 0 0, .int .i64 1, .slice none 0 0, .slice (some ⟨g9, 0, none⟩) (([] : List Int).length) cap8, .bool true, .bool false, .bool false, .int .i64 1, .int .i64 1, .bool false, .bool false, .slice (some ⟨g10, 0, none⟩) xs.length cap9, v, .slice (some ⟨g11, 0, none⟩) xs.length cap10, .bool true, .bool false, .slice (some ⟨g10, 0, none⟩) xs.length cap9, .int .i64 1, .int .i64 (1 + (xs.length : Int)), .int .i64 (1 + (xs.length : Int)), .bool (decide ((1 + (xs.length : Int)) < 0)), .bool false, .slice none 0 0, .slice (some ⟨g9, 0, none⟩) (([] : List Int).length) cap8, .bool true, .bool false, .bool false, .bool false, .int .i64 1, .int .i64 1, .bool false, .bool false, .slice none 0 0, .int .i64 1, .int .i64 1, .slice none 0 0, .int .i64 1, .int .i64 1, .int .i64 1, .bool false, .int .i64 1, .int .i64 1, .bool false, .tuple #[.slice none 0 0, .int .i64 1], .agg F.cells, .agg F.cells, v, .slice (some ⟨g12, 0, none⟩) xs.length cap11, .tuple #[.slice none 0 0, .int .i64 1], .slice none 0 0, .int .i64 1, .slice none 0 0, .slice (some ⟨g9, 0, none⟩) (([] : List Int).length) cap8, .bool true, .bool false, .bool false, .int .i64 1, .int .i64 1, .bool false, .bool false, .slice none 0 0, .int .i64 1, .int .i64 1, .int .i64 1, .bool false, undef, undef, undef], []⟩) (by kernel_rfl) ?_
       refine wcf ?_
       refine wp_skip ?_
       refine then_normal ?_
       refine wp_seq ?_
       refine wsr ?_
       refine wv (.int .i64 1) ?_
       refine wv (.int .i64 1) ?_
       refine wvv (.bool (1 != 1)) (.bool false) (by simp) ?_
       refine wpList_nil (then_normal ?_)
       refine wcf ?_
       refine wp_skip ?_
       refine then_normal ?_
       refine wsr ?_
       refine wv (.bool true) ?_
       refine wpList_nil (then_normal ?_)
       refine wp_ret ?_
       have H16 := (((H15.trans E29).trans E30).trans E31).trans E32
       refine ret1 (.bool true) rfl ?_ rfl ?_
       · exact resT (by kernel_rfl)
       exact ⟨rfl, H16⟩
end
--# row FnExactBackBeat
set_option maxRecDepth 100000 in
theorem fnExactBackBeat_lifted (os : Os) (started : os.Started) (H : Type) (enc : TypeId × Value → H) :
    ReturnsInHanded {} Try.checked os 3 .any (Rows.fnExactBackBeatSpec.pre6 enc Try.prog Try.f3 Rows.fnExactBackBeatRow.domain false) (Rows.fnExactBackBeatSpec.post enc Try.prog Try.f3 false true false false) := by
  refine returnsInHanded_of_change (C := Try.checked) ownKnob_none started (by kernel_rfl) Try.func3
    (ChangeSpec.witness6 (enc := enc) (C := Try.checked) false ⟨#[], #[.agg Try.zeroCells27, .slice none 0 0], []⟩ 8 (by kernel_rfl) (by kernel_rfl) (by kernel_rfl) (by kernel_rfl)) ?_
  intro W base args ds gs before hval0 hW hcnd _
  have hval : ∀ (j : Nat) t v, Try.f3.params[j]? = some t → args[j]? = some v → Value.okWide Try.prog W .any base t v := hval0
  have hW' := hW
  obtain ⟨p, q, hA0, hV, rfl, hfz, hnd⟩ := hW
  have hA : DataW.TrodAll enc Try.prog W 0 (fun _ => true) true Try.f3.params.toList args.toList ds p := hA0
  rw [Try.params3] at hA hval
  obtain ⟨v0, vs0, d0, ds0, p0, q0, hargs, rfl, rfl, h0, r0⟩ := trodAll_cons hA
  obtain ⟨v1, vs1, d1, ds1, p1, q1, rfl, rfl, rfl, h1, r1⟩ := trodAll_cons r0
  obtain ⟨rfl, rfl, rfl⟩ := trodAll_nil r1
  obtain rfl : args = #[v0, v1] := by cases args; simp_all
  obtain ⟨rfl, rfl⟩ := trodVars_none hV
  have k0 := h0
  have lt0 : ∀ x ∈ p0, x.block < W.heap.size := by obtain ⟨m, hm⟩ := k0; exact DataW.trod_lt m _ _ _ hm
  obtain ⟨F, rfl, hF⟩ := open_field Try.underlying27 (by kernel_rfl) (by kernel_rfl) Try.underlying22 Try.underlying5 Try.underlying24 (hval 0 27 v0 rfl rfl)
  have k1 := h1
  have lt1 : ∀ x ∈ p1, x.block < W.heap.size := by obtain ⟨m, hm⟩ := k1; exact DataW.trod_lt m _ _ _ hm
  obtain ⟨xs, hin1, hwl1⟩ := open_slin (k := .i16) Try.underlying28 Try.underlying24 (by kernel_rfl) (hval 1 28 v1 rfl rfl) h1
  clear hA0 hval0
  refine (FnExactBackBeat_walk F hF xs v1 W hin1 (atI_i16 hwl1)).mono fun e W' ⟨he, hx⟩ => ?_
  have bel := hx.below
  subst he
  exact ⟨_, rfl, _, _, _, [], _, [], hW', trodAll_mk1 (shut_bool Try.underlying4 _), (trodAll_cons_mk (Below.trod laidOut_ (by kernel_rfl) (of_decide_eq_true (by kernel_rfl)) k0 bel lt0) (trodAll_cons_mk (Below.trod laidOut_ (by kernel_rfl) (of_decide_eq_true (by kernel_rfl)) k1 bel lt1) trodAll_mk0)), rfl, bel.frame _, fun h => by cases h⟩
theorem fnExactBackBeat_holds : Rows.FnExactBackBeatSaid :=
  OpenClaim.holds_of_wide 3 Try.f3 rfl rfl rfl rfl rfl rfl rfl ⟨rfl, rfl, rfl, rfl, rfl⟩ rfl rfl rfl rfl rfl (by kernel_rfl) Try.func3 (by kernel_rfl)
    (of_decide_eq_true (by kernel_rfl)) (by unfold Func.isWrapper; first | (rw [if_pos (by decide +kernel)]; kernel_rfl) | (rw [if_neg (by decide +kernel)]; exact ⟨rfl, rfl⟩))
    (fun os started H enc _ => fnExactBackBeat_lifted os started H enc)
end Go.Proofs.Ytldlaohefgianaa
