/-
 For all arguments, the law FnPlaces returns true; its arguments read as they did. No conditions.
-/
import Derived.Test.YtgglcebaanomhaaRows
import Derived.Test.YtgglcebaanomhaaFn27
import Derived.Test.YtgglcebaanomhaaRowk
import Derived.WalkKit
import Derived.ProofKit
import Derived.OpenShut
import Derived.ShutString
import Derived.ChangeOld
import Derived.Below
import Derived.SizedLaws
namespace Go.Proofs.Ytgglcebaanomhaa
open Go.ChangeShapes Go.WideShapes Go.ChangeAt Go.RowKit
open Go.ChangeMaps (open_string shut_string)
set_option linter.unusedVariables false
theorem ownKnob_none : ownKnob Try.prog.godebug = none := by kernel_rfl
theorem laidOut_ : laidOutB Try.prog = true := by kernel_rfl
theorem atI_u8 {xs : List Int} (h : ∀ n ∈ xs, (Lit.int .u8 n).wf = true) (i : Nat) (hi : i < xs.length) : 0 ≤ atI xs i ∧ atI xs i ≤ 255 := bounds_u8 (h _ (atI_mem hi))
section
set_option maxHeartbeats 4000000
set_option maxRecDepth 100000
attribute [local irreducible] wpList Code.wp OpRun
theorem FnPlaces_walk (xs : List Int) (v : Value) (ys : List Int) (v2 : Value) (hxb : ∀ i, i < xs.length → 0 ≤ atI xs i ∧ atI xs i ≤ 255) (hyb : ∀ i, i < ys.length → 0 ≤ atI ys i ∧ atI ys i ≤ 255) (w : World) (hin : SlIn w v .u8 xs) (hin2 : SlIn w v2 .u8 ys) :
 Calls Try.prog 3 #[v, v2] w fun e w' => e = .returned (.bool true) ∧ Ext w w' := by
 have hbx_ := hxb
 have hby_ := hyb
 refine calls_of_wp Try.func3 rfl ?_
 refine wp_frame (a' := ⟨#[v, v2, undef, undef, undef, undef, undef, undef, undef, undef, undef, undef, undef, undef, undef, undef, undef, undef, undef, undef, undef, undef, undef, undef, undef, undef, undef, undef, undef, undef, undef, undef, undef, undef, undef, undef, undef, undef, undef, undef, undef, undef, undef, undef, undef, undef, undef, undef, undef, undef, undef, undef, undef, undef, undef, undef, undef, undef, undef, undef, undef, undef, undef, undef, undef, undef, undef, undef, undef, undef, undef, undef, undef, undef, undef, undef, undef, undef, undef, undef, undef, undef, undef, undef, undef, undef, undef, undef, undef, undef, undef, undef, undef, undef, undef, undef, undef, undef, undef, undef, undef, undef, undef, undef, undef, undef, undef, undef, undef, undef, undef, undef, undef, undef, undef, undef, undef, undef, undef, undef, undef, undef, undef, undef, undef, undef, undef, undef, undef, undef, undef, undef, undef, undef, undef, undef, undef, undef, undef, undef, undef, undef, undef, undef, undef, undef, undef, undef, undef, undef, undef, undef, undef, undef, undef, undef, undef, undef, undef, undef, undef, undef, undef, undef, undef, undef, undef, undef, undef, undef, undef, undef, undef, undef, undef, undef, undef, undef, undef, undef, undef, undef, undef, undef, undef, undef, undef, undef, undef, undef, undef, undef, undef, undef, undef, undef, undef, undef, undef, undef, undef, undef, undef, undef, undef, undef, undef, undef, undef, undef, undef, undef, undef, undef, undef, undef, undef, undef, undef, undef, undef, undef, undef, undef, undef, undef, undef, undef, undef, undef, undef, undef, undef, undef, undef, undef, undef, undef, undef, undef, undef, undef, undef, undef, undef, undef, undef, undef, undef, undef, undef, undef, undef, undef, undef, undef, undef, undef, undef, undef, undef, undef, undef, undef, undef, undef, undef, undef, undef, undef, undef, undef, undef, undef, undef, undef, undef, undef, undef, undef, undef, undef, undef, undef, undef, undef, undef, undef, undef, undef, undef, undef, undef, undef, undef, undef, undef, undef, undef, undef, undef, undef, undef, undef, undef, undef, undef, undef, undef, undef, undef, undef, undef, undef, undef, undef, undef, undef, undef, undef, undef, undef, undef, undef, undef, undef, undef, undef, undef, undef, undef, undef, undef, undef, undef, undef, undef, undef, undef, undef, undef, undef, undef, undef, undef, undef, undef, undef, undef, undef, undef, undef, undef, undef, undef, undef, undef, undef, undef, undef, undef, undef, undef, undef, undef, undef, undef, undef, undef, undef, undef, undef, undef, undef, undef, undef, undef, undef, undef, undef, undef, undef, undef, undef, undef, undef, undef], []⟩) (by as_aux_lemma => kernel_rfl) ?_
 refine wsr ?_
 refine wv (.bool false) ?_
 refine wpList_nil (then_normal ?_)
 refine wp_seq ?_
 refine wsr ?_
 refine wv v ?_
 refine wcl (f6big_any xs v _ (SlIn.ext hin (Ext.refl w))) ?_
 intro w1 E1
 refine wv (.bool (decide (4096 < (xs.length : Int)))) ?_
 have H1 := (Ext.refl w).trans E1
 refine split_bool (decide (4096 < (xs.length : Int))) (fun h1 => ?_) (fun h1 => ?_)
 ·skip
  refine wbl 47 true h1 ?_
  have h1d := dT h1
  refine wsk ?_
  refine wsk ?_
  refine wv (.bool true) ?_
  refine wpList_nil (then_normal ?_)
  refine wct ?_
  refine wsr ?_
  refine wv (.bool true) ?_
  refine wpList_nil (then_normal ?_)
  refine wp_ret ?_
  refine then_ret ?_
  refine ret1 (.bool true) rfl ?_ rfl ?_
  ·exact resT (by as_aux_lemma => kernel_rfl)
  exact ⟨rfl, H1⟩
 ·skip
  refine wbl 47 false h1 ?_
  have h1d := dF h1
  refine wv v2 ?_
  refine wcl (f6big_any ys v2 _ (SlIn.ext hin2 H1)) ?_
  intro w2 E2
  refine wv (.bool (decide (4096 < (ys.length : Int)))) ?_
  refine wpList_nil (then_normal ?_)
  have H2 := H1.trans E2
  refine wsplit (decide (4096 < (ys.length : Int))) (fun h2 => ?_) (fun h2 => ?_)
  ·skip
   have h2d := dT h2
   refine wsr ?_
   refine wv (.bool true) ?_
   refine wpList_nil (then_normal ?_)
   refine wp_ret ?_
   refine then_ret ?_
   refine ret1 (.bool true) rfl ?_ rfl ?_
   ·exact resT (by as_aux_lemma => kernel_rfl)
   exact ⟨rfl, H2⟩
  ·skip
   have h2d := dF h2
   refine wp_skip ?_
   refine then_normal ?_
   refine wsr ?_
   refine wv v ?_
   refine wfld (P6Field_any xs v (by omega) hxb _ (SlIn.ext hin H2)) ?_
   intro Fd w3 hd_ E3
   have hF_ := hd_.wf
   have H3 := H2.trans E3
   refine wnew (Fld.cells Fld.zero) Try.zeroValue29 zero_impl_Field ?_
   intro g1 w4 B1 E4 hg_
   have lo_g1 := Nat.le_trans (H3).size hg_
   refine wput Fd.cells row_impl_Field B1 (by exact Fld.size_cells _) (by exact Fld.size_cells _) (by exact Fld.one_cells _) ?_
   intro w5 B1_ X1
   clear B1; have B1 := B1_; clear B1_
   refine wpList_nil (then_normal ?_)
   refine wsr ?_
   refine wv v2 ?_
   have H4 := X1.ext w lo_g1 (H3.trans E4)
   refine wset (P6Set_any ys v2 (by omega) hyb _ (SlIn.ext hin2 H4)) ?_
   intro x_ y_ w6 hxy_ hsz_ E5
   have H5 := H4.trans E5
   replace B1 := B1.ext E5
   refine wnew #[.int .u64 0, .int .u64 0] Try.zeroValue33 rfl ?_
   intro g2 w7 B2 E6 hg_
   have q_g1_g2 := Nat.ne_of_lt (Nat.lt_of_lt_of_le B1.lt hg_)
   have lo_g2 := Nat.le_trans (H5).size hg_
   refine wput #[.int .u64 x_, .int .u64 y_] row_impl_Cells B2 (by rfl) (by rfl) (by as_aux_lemma => kernel_rfl) ?_
   intro w8 B2_ X2
   clear B2; have B2 := B2_; clear B2_
   refine wpList_nil (then_normal ?_)
   refine wsr ?_
   refine wv v2 ?_
   have H6 := X2.ext w lo_g2 (H5.trans E6)
   refine wnum (P6Pick_r ys v2 40 (by omega) (by omega) hyb _ (SlIn.ext hin2 H6)) ?_
   intro p1 w9 hp1 E7
   refine wi64 (1 + p1) ?_
   refine wv (.int .i64 (1 + p1)) ?_
   refine wpList_nil (then_normal ?_)
   refine wsr ?_
   refine wv v ?_
   have H7 := H6.trans E7
   refine wnum (P6Pick_r xs v 12 (by omega) (by omega) hxb _ (SlIn.ext hin H7)) ?_
   intro p2 w10 hp2 E8
   have hP_ : PlOk Fd (1 + p1) (1 + p2) x_ y_ := ⟨hd_.ok, by omega, by omega, hxy_.1, hxy_.w2, by omega⟩
   refine wi64 (1 + p2) ?_
   refine wv (.int .i64 (1 + p2)) ?_
   refine wpList_nil (then_normal ?_)
   refine wsr ?_
   replace B1 := ((X2.blk (B1.ext E6) q_g1_g2).ext E7).ext E8
   refine wrow row_impl_Field B1 (by exact Fld.size_cells _) ?_
   refine wv (.int .i64 (1 + p1)) ?_
   refine wv (.int .i64 (1 + p2)) ?_
   replace B2 := (B2.ext E7).ext E8
   refine wrow row_impl_Cells B2 (by rfl) ?_
   refine wlsv (iGreedy_lv Fd hF_ (1 + p1) (1 + p2) x_ y_ hP_.hx hP_.hy _) ?_
   intro u1 w11 hu1 E9
   refine wv (.tuple #[u1, .int .i64 (grK Fd (1 + p1) (1 + p2) x_ y_)]) ?_
   refine wv u1 ?_
   refine wv (.int .i64 (grK Fd (1 + p1) (1 + p2) x_ y_)) ?_
   refine wv u1 ?_
   refine wv (.int .i64 (grK Fd (1 + p1) (1 + p2) x_ y_)) ?_
   refine wpList_nil (then_normal ?_)
   refine wp_forget (f := fun J1 => ⟨#[v, v2, undef, undef, .bool false, .pointer (some ⟨g1, 0, none⟩), .pointer (some ⟨g2, 0, none⟩), .int .i64 (1 + p1), .int .i64 (1 + p2), u1, .int .i64 (grK Fd (1 + p1) (1 + p2) x_ y_), undef, undef, undef, undef, undef, undef, undef, undef, undef, undef, undef, undef, undef, undef, undef, undef, undef, undef, undef, undef, undef, undef, undef, undef, undef, undef, undef, undef, undef, undef, undef, undef, undef, undef, v, J1 46, J1 47, v2, J1 49, J1 50, v, J1 52, v2, J1 54, v2, J1 56, J1 57, v, J1 59, J1 60, J1 61, J1 62, J1 63, J1 64, J1 65, J1 66, u1, J1 68, undef, undef, undef, undef, undef, undef, undef, undef, undef, undef, undef, undef, undef, undef, undef, undef, undef, undef, undef, undef, undef, undef, undef, undef, undef, undef, undef, undef, undef, undef, undef, undef, undef, undef, undef, undef, undef, undef, undef, undef, undef, undef, undef, undef, undef, undef, undef, undef, undef, undef, undef, undef, undef, undef, undef, undef, undef, undef, undef, undef, undef, undef, undef, undef, undef, undef, undef, undef, undef, undef, undef, undef, undef, undef, undef, undef, undef, undef, undef, undef, undef, undef, undef, undef, undef, undef, undef, undef, undef, undef, undef, undef, undef, undef, undef, undef, undef, undef, undef, undef, undef, undef, undef, undef, undef, undef, undef, undef, undef, undef, undef, undef, undef, undef, undef, undef, undef, undef, undef, undef, undef, undef, undef, undef, undef, undef, undef, undef, undef, undef, undef, undef, undef, undef, undef, undef, undef, undef, undef, undef, undef, undef, undef, undef, undef, undef, undef, undef, undef, undef, undef, undef, undef, undef, undef, undef, undef, undef, undef, undef, undef, undef, undef, undef, undef, undef, undef, undef, undef, undef, undef, undef, undef, undef, undef, undef, undef, undef, undef, undef, undef, undef, undef, undef, undef, undef, undef, undef, undef, undef, undef, undef, undef, undef, undef, undef, undef, undef, undef, undef, undef, undef, undef, undef, undef, undef, undef, undef, undef, undef, undef, undef, undef, undef, undef, undef, undef, undef, undef, undef, undef, undef, undef, undef, undef, undef, undef, undef, undef, undef, undef, undef, undef, undef, undef, undef, undef, undef, undef, undef, undef, undef, undef, undef, undef, undef, undef, undef, undef, undef, undef, undef, undef, undef, undef, undef, undef, undef, undef, undef, undef, undef, undef, undef, undef, undef, undef, undef, undef, undef, undef, undef, undef, undef, undef, undef, undef, undef, undef, undef, undef, undef, undef, undef, undef, undef, undef, undef, undef, undef, undef, undef, undef, undef, undef, undef, undef, undef, undef, undef, undef, undef, undef, undef, undef, undef, undef, undef, undef, undef, undef, undef, undef, undef, undef, undef, undef, undef], []⟩) (by as_aux_lemma => kernel_rfl) (fun J1 => ?_)
   refine wsr ?_
   replace B1 := B1.ext E9
   refine wrow row_impl_Field B1 (by exact Fld.size_cells _) ?_
   refine wv (.int .i64 (1 + p1)) ?_
   refine wv (.int .i64 (1 + p2)) ?_
   replace B2 := B2.ext E9
   refine wrow row_impl_Cells B2 (by rfl) ?_
   have H8 := (H7.trans E8).trans E9
   refine wcli (sGreedy_lv Fd hF_ (1 + p1) (1 + p2) x_ y_ hP_.hx hP_.hy _) ?_
   intro g3 cap1 cs1 w12 B3 S1 E10 hg_
   have q_g1_g3 := Nat.ne_of_lt (Nat.lt_of_lt_of_le B1.lt hg_)
   have q_g2_g3 := Nat.ne_of_lt (Nat.lt_of_lt_of_le B2.lt hg_)
   have lo_g3 := Nat.le_trans (H8).size hg_
   have yl1_ := grY_length (F := Fd) (w := (1 + p1)) (l := (1 + p2)) (tx := x_) (ty := y_)
   refine wv (.tuple #[.slice (some ⟨g3, 0, none⟩) ((grY Fd (1 + p1) (1 + p2) x_ y_).length) cap1, .int .i64 (grK Fd (1 + p1) (1 + p2) x_ y_)]) ?_
   refine wv (.slice (some ⟨g3, 0, none⟩) ((grY Fd (1 + p1) (1 + p2) x_ y_).length) cap1) ?_
   refine wv (.int .i64 (grK Fd (1 + p1) (1 + p2) x_ y_)) ?_
   refine wv (.slice (some ⟨g3, 0, none⟩) ((grY Fd (1 + p1) (1 + p2) x_ y_).length) cap1) ?_
   refine wv (.int .i64 (grK Fd (1 + p1) (1 + p2) x_ y_)) ?_
   refine wpList_nil (then_normal ?_)
   refine wsr ?_
   replace B1 := B1.ext E10
   refine wrow row_impl_Field B1 (by exact Fld.size_cells _) ?_
   refine wv (.int .i64 (1 + p1)) ?_
   refine wv (.int .i64 (1 + p2)) ?_
   replace B2 := B2.ext E10
   refine wrow row_impl_Cells B2 (by rfl) ?_
   refine wlsv (iFewest_lv Fd hF_ (1 + p1) (1 + p2) x_ y_ hP_.hx hP_.hy _) ?_
   intro u2 w13 hu2 E11
   refine wv (.tuple #[u2, .int .i64 (fwM Fd (1 + p1) (1 + p2) x_ y_), .int .i64 (fwK Fd (1 + p1) (1 + p2) 3000 x_ y_)]) ?_
   refine wv u2 ?_
   refine wv (.int .i64 (fwM Fd (1 + p1) (1 + p2) x_ y_)) ?_
   refine wv (.int .i64 (fwK Fd (1 + p1) (1 + p2) 3000 x_ y_)) ?_
   refine wv u2 ?_
   refine wv (.int .i64 (fwM Fd (1 + p1) (1 + p2) x_ y_)) ?_
   refine wv (.int .i64 (fwK Fd (1 + p1) (1 + p2) 3000 x_ y_)) ?_
   refine wpList_nil (then_normal ?_)
   refine wsr ?_
   replace B1 := B1.ext E11
   refine wrow row_impl_Field B1 (by exact Fld.size_cells _) ?_
   refine wv (.int .i64 (1 + p1)) ?_
   refine wv (.int .i64 (1 + p2)) ?_
   replace B2 := B2.ext E11
   refine wrow row_impl_Cells B2 (by rfl) ?_
   replace B3 := B3.ext E11
   have H9 := (H8.trans E10).trans E11
   refine wcli (sFewest_lv Fd hF_ (1 + p1) (1 + p2) x_ y_ hP_.hx hP_.hy _) ?_
   intro g4 cap2 cs2 w14 B4 S2 E12 hg_
   have q_g1_g4 := Nat.ne_of_lt (Nat.lt_of_lt_of_le B1.lt hg_)
   have q_g2_g4 := Nat.ne_of_lt (Nat.lt_of_lt_of_le B2.lt hg_)
   have q_g3_g4 := Nat.ne_of_lt (Nat.lt_of_lt_of_le B3.lt hg_)
   have lo_g4 := Nat.le_trans (H9).size hg_
   have yl2_ := fwY_length (F := Fd) (w := (1 + p1)) (l := (1 + p2)) (tx := x_) (ty := y_)
   refine wv (.tuple #[.slice (some ⟨g4, 0, none⟩) ((fwY Fd (1 + p1) (1 + p2) x_ y_).length) cap2, .int .i64 (fwM Fd (1 + p1) (1 + p2) x_ y_), .int .i64 (fwK Fd (1 + p1) (1 + p2) 3000 x_ y_)]) ?_
   refine wv (.slice (some ⟨g4, 0, none⟩) ((fwY Fd (1 + p1) (1 + p2) x_ y_).length) cap2) ?_
   refine wv (.int .i64 (fwM Fd (1 + p1) (1 + p2) x_ y_)) ?_
   refine wv (.int .i64 (fwK Fd (1 + p1) (1 + p2) 3000 x_ y_)) ?_
   refine wv (.slice (some ⟨g4, 0, none⟩) ((fwY Fd (1 + p1) (1 + p2) x_ y_).length) cap2) ?_
   refine wv (.int .i64 (fwM Fd (1 + p1) (1 + p2) x_ y_)) ?_
   refine wv (.int .i64 (fwK Fd (1 + p1) (1 + p2) 3000 x_ y_)) ?_
   refine wpList_nil (then_normal ?_)
   refine wp_forget (f := fun J2 => ⟨#[v, v2, undef, undef, .bool false, .pointer (some ⟨g1, 0, none⟩), .pointer (some ⟨g2, 0, none⟩), .int .i64 (1 + p1), .int .i64 (1 + p2), u1, .int .i64 (grK Fd (1 + p1) (1 + p2) x_ y_), .slice (some ⟨g3, 0, none⟩) ((grY Fd (1 + p1) (1 + p2) x_ y_).length) cap1, .int .i64 (grK Fd (1 + p1) (1 + p2) x_ y_), u2, .int .i64 (fwM Fd (1 + p1) (1 + p2) x_ y_), .int .i64 (fwK Fd (1 + p1) (1 + p2) 3000 x_ y_), .slice (some ⟨g4, 0, none⟩) ((fwY Fd (1 + p1) (1 + p2) x_ y_).length) cap2, .int .i64 (fwM Fd (1 + p1) (1 + p2) x_ y_), .int .i64 (fwK Fd (1 + p1) (1 + p2) 3000 x_ y_), undef, undef, undef, undef, undef, undef, undef, undef, undef, undef, undef, undef, undef, undef, undef, undef, undef, undef, undef, undef, undef, undef, undef, undef, undef, undef, v, J1 46, J1 47, v2, J1 49, J1 50, v, J1 52, v2, J1 54, v2, J1 56, J1 57, v, J1 59, J1 60, J1 61, J1 62, J1 63, J1 64, J1 65, J1 66, u1, J1 68, J2 69, J2 70, J2 71, J2 72, J2 73, J2 74, J2 75, J2 76, J2 77, J2 78, J2 79, J2 80, J2 81, J2 82, u2, J2 84, J2 85, J2 86, J2 87, J2 88, J2 89, J2 90, J2 91, J2 92, J2 93, J2 94, undef, undef, undef, undef, undef, undef, undef, undef, undef, undef, undef, undef, undef, undef, undef, undef, undef, undef, undef, undef, undef, undef, undef, undef, undef, undef, undef, undef, undef, undef, undef, undef, undef, undef, undef, undef, undef, undef, undef, undef, undef, undef, undef, undef, undef, undef, undef, undef, undef, undef, undef, undef, undef, undef, undef, undef, undef, undef, undef, undef, undef, undef, undef, undef, undef, undef, undef, undef, undef, undef, undef, undef, undef, undef, undef, undef, undef, undef, undef, undef, undef, undef, undef, undef, undef, undef, undef, undef, undef, undef, undef, undef, undef, undef, undef, undef, undef, undef, undef, undef, undef, undef, undef, undef, undef, undef, undef, undef, undef, undef, undef, undef, undef, undef, undef, undef, undef, undef, undef, undef, undef, undef, undef, undef, undef, undef, undef, undef, undef, undef, undef, undef, undef, undef, undef, undef, undef, undef, undef, undef, undef, undef, undef, undef, undef, undef, undef, undef, undef, undef, undef, undef, undef, undef, undef, undef, undef, undef, undef, undef, undef, undef, undef, undef, undef, undef, undef, undef, undef, undef, undef, undef, undef, undef, undef, undef, undef, undef, undef, undef, undef, undef, undef, undef, undef, undef, undef, undef, undef, undef, undef, undef, undef, undef, undef, undef, undef, undef, undef, undef, undef, undef, undef, undef, undef, undef, undef, undef, undef, undef, undef, undef, undef, undef, undef, undef, undef, undef, undef, undef, undef, undef, undef, undef, undef, undef, undef, undef, undef, undef, undef, undef, undef, undef, undef, undef, undef, undef, undef, undef, undef, undef, undef, undef, undef, undef, undef, undef, undef, undef, undef, undef, undef, undef, undef, undef, undef, undef, undef, undef, undef, undef, undef, undef, undef, undef, undef, undef, undef, undef, undef, undef, undef, undef, undef, undef, undef, undef, undef, undef, undef, undef, undef, undef, undef, undef, undef, undef, undef, undef, undef, undef], []⟩) (by as_aux_lemma => kernel_rfl) (fun J2 => ?_)
   refine wsr ?_
   replace B1 := B1.ext E12
   refine wrow row_impl_Field B1 (by exact Fld.size_cells _) ?_
   refine wv (.int .i64 (1 + p1)) ?_
   refine wv (.int .i64 (1 + p2)) ?_
   replace B2 := B2.ext E12
   refine wrow row_impl_Cells B2 (by rfl) ?_
   refine wlsv (iApart_lv Fd hF_ (1 + p1) (1 + p2) x_ y_ hP_ _) ?_
   intro u3 w15 hu3 E13
   refine wv (.tuple #[u3, .int .i64 0]) ?_
   refine wv u3 ?_
   refine wv (.int .i64 0) ?_
   refine wv u3 ?_
   refine wv (.int .i64 0) ?_
   refine wpList_nil (then_normal ?_)
   refine wsr ?_
   replace B1 := B1.ext E13
   refine wrow row_impl_Field B1 (by exact Fld.size_cells _) ?_
   refine wv (.int .i64 (1 + p1)) ?_
   refine wv (.int .i64 (1 + p2)) ?_
   replace B2 := B2.ext E13
   refine wrow row_impl_Cells B2 (by rfl) ?_
   replace B3 := (B3.ext E12).ext E13
   replace B4 := B4.ext E13
   have H10 := (H9.trans E12).trans E13
   refine wcli (sApart_lv Fd hF_ (1 + p1) (1 + p2) x_ y_ hP_ _) ?_
   intro g5 cap3 cs3 w16 B5 S3 E14 hg_
   have q_g1_g5 := Nat.ne_of_lt (Nat.lt_of_lt_of_le B1.lt hg_)
   have q_g2_g5 := Nat.ne_of_lt (Nat.lt_of_lt_of_le B2.lt hg_)
   have q_g3_g5 := Nat.ne_of_lt (Nat.lt_of_lt_of_le B3.lt hg_)
   have q_g4_g5 := Nat.ne_of_lt (Nat.lt_of_lt_of_le B4.lt hg_)
   have lo_g5 := Nat.le_trans (H10).size hg_
   have yl3_ := apX_length (F := Fd) (w := (1 + p1)) (l := (1 + p2)) (tx := x_) (ty := y_)
   refine wv (.tuple #[.slice (some ⟨g5, 0, none⟩) ((apX Fd (1 + p1) (1 + p2) x_ y_).length) cap3, .int .i64 0]) ?_
   refine wv (.slice (some ⟨g5, 0, none⟩) ((apX Fd (1 + p1) (1 + p2) x_ y_).length) cap3) ?_
   refine wv (.int .i64 0) ?_
   refine wv (.slice (some ⟨g5, 0, none⟩) ((apX Fd (1 + p1) (1 + p2) x_ y_).length) cap3) ?_
   refine wv (.int .i64 0) ?_
   refine wpList_nil (then_normal ?_)
   refine wsr ?_
   replace B1 := B1.ext E14
   refine wrow row_impl_Field B1 (by exact Fld.size_cells _) ?_
   refine wv (.int .i64 (1 + p1)) ?_
   refine wv (.int .i64 (1 + p2)) ?_
   refine wv (.slice (some ⟨g5, 0, none⟩) ((apX Fd (1 + p1) (1 + p2) x_ y_).length) cap3) ?_
   refine wcl (iCheckApart_is Fd hF_ (1 + p1) (1 + p2) x_ y_ hP_ ((apX Fd (1 + p1) (1 + p2) x_ y_).length) g5 cap3 cs3 S3 (by omega) _ B5) ?_
   intro w17 E15
   refine wv (.tuple #[.bool true, .int .i64 0]) ?_
   refine wv (.bool true) ?_
   refine wv (.int .i64 0) ?_
   refine wv (.bool true) ?_
   refine wv (.int .i64 0) ?_
   refine wpList_nil (then_normal ?_)
   refine wp_seq ?_
   refine wsr ?_
   refine wv (.int .i64 (grK Fd (1 + p1) (1 + p2) x_ y_)) ?_
   refine wv (.int .i64 (grK Fd (1 + p1) (1 + p2) x_ y_)) ?_
   refine wvv (.bool ((grK Fd (1 + p1) (1 + p2) x_ y_) != (grK Fd (1 + p1) (1 + p2) x_ y_))) (.bool false) (by simp) ?_
   refine wv (.bool false) ?_
   refine wv u1 ?_
   refine wv (.slice (some ⟨g3, 0, none⟩) ((grY Fd (1 + p1) (1 + p2) x_ y_).length) cap1) ?_
   replace B3 := (B3.ext E14).ext E15
   refine wcl (SameNumbers_lv (grY Fd (1 + p1) (1 + p2) x_ y_) u1 ((grY Fd (1 + p1) (1 + p2) x_ y_).length) g3 cap1 cs1 S1 (by omega) _ (LstV.ext hu1 (((((E10.trans E11).trans E12).trans E13).trans E14).trans E15)) B3) ?_
   intro w18 E16
   refine wv (.bool false) ?_
   refine wv (.bool false) ?_
   refine wv (.bool false) ?_
   refine wv (.int .i64 (fwK Fd (1 + p1) (1 + p2) 3000 x_ y_)) ?_
   refine wv (.int .i64 (fwK Fd (1 + p1) (1 + p2) 3000 x_ y_)) ?_
   refine wvv (.bool ((fwK Fd (1 + p1) (1 + p2) 3000 x_ y_) != (fwK Fd (1 + p1) (1 + p2) 3000 x_ y_))) (.bool false) (by simp) ?_
   refine wv (.bool false) ?_
   refine wv (.bool false) ?_
   refine wv u2 ?_
   refine wpl_frame (a' := ⟨#[v, v2, undef, undef, .bool false, .pointer (some ⟨g1, 0, none⟩), .pointer (some ⟨g2, 0, none⟩), .int .i64 (1 + p1), .int .i64 (1 + p2), u1, .int .i64 (grK Fd (1 + p1) (1 + p2) x_ y_), .slice (some ⟨g3, 0, none⟩) ((grY Fd (1 + p1) (1 + p2) x_ y_).length) cap1, .int .i64 (grK Fd (1 + p1) (1 + p2) x_ y_), u2, .int .i64 (fwM Fd (1 + p1) (1 + p2) x_ y_), .int .i64 (fwK Fd (1 + p1) (1 + p2) 3000 x_ y_), .slice (some ⟨g4, 0, none⟩) ((fwY Fd (1 + p1) (1 + p2) x_ y_).length) cap2, .int .i64 (fwM Fd (1 + p1) (1 + p2) x_ y_), .int .i64 (fwK Fd (1 + p1) (1 + p2) 3000 x_ y_), u3, .int .i64 0, .slice (some ⟨g5, 0, none⟩) ((apX Fd (1 + p1) (1 + p2) x_ y_).length) cap3, .int .i64 0, .bool true, .int .i64 0, undef, undef, undef, undef, undef, undef, undef, undef, undef, undef, undef, undef, undef, undef, undef, undef, undef, undef, undef, undef, v, J1 46, J1 47, v2, J1 49, J1 50, v, J1 52, v2, J1 54, v2, J1 56, J1 57, v, J1 59, J1 60, J1 61, J1 62, J1 63, J1 64, J1 65, J1 66, u1, J1 68, J2 69, J2 70, J2 71, J2 72, J2 73, J2 74, J2 75, J2 76, J2 77, J2 78, J2 79, J2 80, J2 81, J2 82, u2, J2 84, J2 85, J2 86, J2 87, J2 88, J2 89, J2 90, J2 91, J2 92, J2 93, J2 94, .tuple #[u3, .int .i64 0], .agg Fd.cells, .int .i64 (1 + p1), .int .i64 (1 + p2), .agg #[.int .u64 x_, .int .u64 y_], .tuple #[u3, .int .i64 0], u3, .int .i64 0, .tuple #[.slice (some ⟨g5, 0, none⟩) ((apX Fd (1 + p1) (1 + p2) x_ y_).length) cap3, .int .i64 0], .agg Fd.cells, .int .i64 (1 + p1), .int .i64 (1 + p2), .agg #[.int .u64 x_, .int .u64 y_], .tuple #[.slice (some ⟨g5, 0, none⟩) ((apX Fd (1 + p1) (1 + p2) x_ y_).length) cap3, .int .i64 0], .slice (some ⟨g5, 0, none⟩) ((apX Fd (1 + p1) (1 + p2) x_ y_).length) cap3, .int .i64 0, .tuple #[.bool true, .int .i64 0], .agg Fd.cells, .int .i64 (1 + p1), .int .i64 (1 + p2), .slice (some ⟨g5, 0, none⟩) ((apX Fd (1 + p1) (1 + p2) x_ y_).length) cap3, .tuple #[.bool true, .int .i64 0], .bool true, .int .i64 0, .int .i64 (grK Fd (1 + p1) (1 + p2) x_ y_), .int .i64 (grK Fd (1 + p1) (1 + p2) x_ y_), .bool false, .bool false, u1, .slice (some ⟨g3, 0, none⟩) ((grY Fd (1 + p1) (1 + p2) x_ y_).length) cap1, .bool true, .bool false, .bool false, .bool false, .int .i64 (fwK Fd (1 + p1) (1 + p2) 3000 x_ y_), .int .i64 (fwK Fd (1 + p1) (1 + p2) 3000 x_ y_), .bool false, .bool false, .bool false, u2, undef, undef, undef, undef, undef, undef, undef, undef, undef, undef, undef, undef, undef, undef, undef, undef, undef, undef, undef, undef, undef, undef, undef, undef, undef, undef, undef, undef, undef, undef, undef, undef, undef, undef, undef, undef, undef, undef, undef, undef, undef, undef, undef, undef, undef, undef, undef, undef, undef, undef, undef, undef, undef, undef, undef, undef, undef, undef, undef, undef, undef, undef, undef, undef, undef, undef, undef, undef, undef, undef, undef, undef, undef, undef, undef, undef, undef, undef, undef, undef, undef, undef, undef, undef, undef, undef, undef, undef, undef, undef, undef, undef, undef, undef, undef, undef, undef, undef, undef, undef, undef, undef, undef, undef, undef, undef, undef, undef, undef, undef, undef, undef, undef, undef, undef, undef, undef, undef, undef, undef, undef, undef, undef, undef, undef, undef, undef, undef, undef, undef, undef, undef, undef, undef, undef, undef, undef, undef, undef, undef, undef, undef, undef, undef, undef, undef, undef, undef, undef, undef, undef, undef, undef, undef, undef, undef, undef, undef, undef, undef, undef, undef, undef, undef, undef, undef, undef, undef, undef, undef, undef, undef, undef, undef, undef, undef, undef, undef, undef, undef, undef, undef, undef, undef, undef, undef, undef, undef, undef, undef, undef, undef, undef, undef, undef, undef, undef, undef, undef, undef, undef, undef, undef, undef, undef, undef, undef, undef, undef, undef, undef, undef, undef, undef, undef, undef, undef, undef, undef, undef, undef, undef, undef, undef, undef, undef, undef, undef, undef, undef, undef, undef, undef, undef, undef, undef, undef, undef, undef, undef, undef, undef, undef, undef, undef, undef, undef, undef, undef, undef, undef, undef], []⟩) (by as_aux_lemma => kernel_rfl) ?_
   refine wv (.slice (some ⟨g4, 0, none⟩) ((fwY Fd (1 + p1) (1 + p2) x_ y_).length) cap2) ?_
   replace B4 := ((B4.ext E14).ext E15).ext E16
   refine wcl (SameNumbers_lv (fwY Fd (1 + p1) (1 + p2) x_ y_) u2 ((fwY Fd (1 + p1) (1 + p2) x_ y_).length) g4 cap2 cs2 S2 (by omega) _ (LstV.ext hu2 ((((E12.trans E13).trans E14).trans E15).trans E16)) B4) ?_
   intro w19 E17
   refine wv (.bool false) ?_
   refine wv (.bool false) ?_
   refine wv (.bool false) ?_
   refine wv (.int .i64 (fwM Fd (1 + p1) (1 + p2) x_ y_)) ?_
   refine wv (.int .i64 (fwM Fd (1 + p1) (1 + p2) x_ y_)) ?_
   refine wvv (.bool ((fwM Fd (1 + p1) (1 + p2) x_ y_) != (fwM Fd (1 + p1) (1 + p2) x_ y_))) (.bool false) (by simp) ?_
   refine wv (.bool false) ?_
   refine wv (.bool false) ?_
   refine wv (.int .i64 0) ?_
   refine wv (.int .i64 0) ?_
   refine wvv (.bool (0 != 0)) (.bool false) (by simp) ?_
   refine wv (.bool false) ?_
   refine wv (.bool false) ?_
   refine wv (.int .i64 0) ?_
   refine wvv (.bool (0 != 0)) (.bool false) (by simp) ?_
   refine wv (.bool false) ?_
   refine wv (.bool false) ?_
   refine wv u3 ?_
   refine wv (.slice (some ⟨g5, 0, none⟩) ((apX Fd (1 + p1) (1 + p2) x_ y_).length) cap3) ?_
   replace B5 := ((B5.ext E15).ext E16).ext E17
   refine wcl (SameNumbers_lv (apX Fd (1 + p1) (1 + p2) x_ y_) u3 ((apX Fd (1 + p1) (1 + p2) x_ y_).length) g5 cap3 cs3 S3 (by omega) _ (LstV.ext hu3 (((E14.trans E15).trans E16).trans E17)) B5) ?_
   intro w20 E18
   refine wv (.bool false) ?_
   refine wv (.bool false) ?_
   refine wv (.bool false) ?_
   refine wv (.int .i64 0) ?_
   refine wvv (.bool (0 != 0)) (.bool false) (by simp) ?_
   refine wv (.bool false) ?_
   refine wv (.bool false) ?_
   refine wv (.bool true) ?_
   refine wv (.bool false) ?_
   refine wv (.bool false) ?_
   refine wpList_nil (then_normal ?_)
   refine wp_forget (f := fun J3 => ⟨#[v, v2, undef, undef, .bool false, .pointer (some ⟨g1, 0, none⟩), .pointer (some ⟨g2, 0, none⟩), .int .i64 (1 + p1), .int .i64 (1 + p2), u1, .int .i64 (grK Fd (1 + p1) (1 + p2) x_ y_), .slice (some ⟨g3, 0, none⟩) ((grY Fd (1 + p1) (1 + p2) x_ y_).length) cap1, J3 12, u2, J3 14, .int .i64 (fwK Fd (1 + p1) (1 + p2) 3000 x_ y_), .slice (some ⟨g4, 0, none⟩) ((fwY Fd (1 + p1) (1 + p2) x_ y_).length) cap2, J3 17, J3 18, u3, J3 20, .slice (some ⟨g5, 0, none⟩) ((apX Fd (1 + p1) (1 + p2) x_ y_).length) cap3, J3 22, J3 23, J3 24, undef, undef, undef, undef, undef, undef, undef, undef, undef, undef, undef, undef, undef, undef, undef, undef, undef, undef, undef, undef, v, J1 46, J1 47, v2, J1 49, J1 50, v, J1 52, v2, J1 54, v2, J1 56, J1 57, v, J1 59, J1 60, J1 61, J1 62, J1 63, J1 64, J1 65, J1 66, u1, J1 68, J2 69, J2 70, J2 71, J2 72, J2 73, J2 74, J2 75, J2 76, J2 77, J2 78, J2 79, J2 80, J2 81, J2 82, u2, J2 84, J2 85, J2 86, J2 87, J2 88, J2 89, J2 90, J2 91, J2 92, J2 93, J2 94, J3 95, J3 96, J3 97, J3 98, J3 99, J3 100, u3, J3 102, J3 103, J3 104, J3 105, J3 106, J3 107, J3 108, J3 109, J3 110, J3 111, J3 112, J3 113, J3 114, J3 115, J3 116, J3 117, J3 118, J3 119, J3 120, J3 121, J3 122, u1, J3 124, J3 125, J3 126, J3 127, J3 128, J3 129, J3 130, J3 131, J3 132, J3 133, u2, J3 135, J3 136, J3 137, J3 138, J3 139, J3 140, J3 141, J3 142, J3 143, J3 144, J3 145, J3 146, J3 147, J3 148, J3 149, J3 150, J3 151, J3 152, J3 153, u3, J3 155, J3 156, J3 157, J3 158, J3 159, J3 160, J3 161, J3 162, J3 163, J3 164, J3 165, .bool false, undef, undef, undef, undef, undef, undef, undef, undef, undef, undef, undef, undef, undef, undef, undef, undef, undef, undef, undef, undef, undef, undef, undef, undef, undef, undef, undef, undef, undef, undef, undef, undef, undef, undef, undef, undef, undef, undef, undef, undef, undef, undef, undef, undef, undef, undef, undef, undef, undef, undef, undef, undef, undef, undef, undef, undef, undef, undef, undef, undef, undef, undef, undef, undef, undef, undef, undef, undef, undef, undef, undef, undef, undef, undef, undef, undef, undef, undef, undef, undef, undef, undef, undef, undef, undef, undef, undef, undef, undef, undef, undef, undef, undef, undef, undef, undef, undef, undef, undef, undef, undef, undef, undef, undef, undef, undef, undef, undef, undef, undef, undef, undef, undef, undef, undef, undef, undef, undef, undef, undef, undef, undef, undef, undef, undef, undef, undef, undef, undef, undef, undef, undef, undef, undef, undef, undef, undef, undef, undef, undef, undef, undef, undef, undef, undef, undef, undef, undef, undef, undef, undef, undef, undef, undef, undef, undef, undef, undef, undef, undef, undef, undef, undef, undef, undef, undef, undef, undef, undef, undef, undef, undef, undef, undef, undef, undef, undef, undef, undef, undef, undef, undef, undef, undef, undef, undef, undef, undef, undef, undef, undef, undef, undef, undef, undef, undef, undef, undef, undef, undef, undef, undef, undef, undef, undef, undef, undef, undef, undef, undef, undef, undef, undef, undef, undef, undef, undef, undef, undef, undef], []⟩) (by as_aux_lemma => kernel_rfl) (fun J3 => ?_)
   refine wcf ?_
   refine wp_skip ?_
   refine then_normal ?_
   refine wsr ?_
   refine wv (.int .i64 0) ?_
   refine wpList_nil (then_normal ?_)
   refine wp_seq ?_
   refine wsr ?_
   refine wv (.int .i64 0) ?_
   refine wpList_nil (then_normal ?_)
   refine wp_block ?_
   replace B1 := (((B1.ext E15).ext E16).ext E17).ext E18
   replace B2 := ((((B2.ext E14).ext E15).ext E16).ext E17).ext E18
   replace B3 := ((B3.ext E16).ext E17).ext E18
   replace B4 := (B4.ext E17).ext E18
   replace B5 := B5.ext E18
   have H11 := ((((H10.trans E14).trans E15).trans E16).trans E17).trans E18
   refine wp_loop_k (fun m1 a wl1 => ∃ (i : Nat) (am : Int), m1 = 100 - i ∧ i ≤ 100 ∧ am = ((tgL Fd x_ y_ i).length : Int) ∧ Ext w wl1 ∧ Blk wl1 g1 29 Fd.cells ∧ Blk wl1 g2 33 #[.int .u64 x_, .int .u64 y_] ∧ Blk wl1 g3 2 cs1 ∧ Blk wl1 g4 2 cs2 ∧ Blk wl1 g5 2 cs3 ∧ (∃ J4 : Nat → Value, a = ⟨#[v, v2, undef, undef, .bool false, .pointer (some ⟨g1, 0, none⟩), .pointer (some ⟨g2, 0, none⟩), .int .i64 (1 + p1), .int .i64 (1 + p2), u1, .int .i64 (grK Fd (1 + p1) (1 + p2) x_ y_), .slice (some ⟨g3, 0, none⟩) ((grY Fd (1 + p1) (1 + p2) x_ y_).length) cap1, J3 12, u2, J3 14, .int .i64 (fwK Fd (1 + p1) (1 + p2) 3000 x_ y_), .slice (some ⟨g4, 0, none⟩) ((fwY Fd (1 + p1) (1 + p2) x_ y_).length) cap2, J3 17, J3 18, u3, J3 20, .slice (some ⟨g5, 0, none⟩) ((apX Fd (1 + p1) (1 + p2) x_ y_).length) cap3, J3 22, J3 23, J3 24, .int .i64 am, .int .i64 (i : Int), undef, undef, undef, undef, undef, undef, undef, undef, undef, undef, undef, undef, undef, undef, undef, undef, undef, undef, v, J1 46, J1 47, v2, J1 49, J1 50, v, J1 52, v2, J1 54, v2, J1 56, J1 57, v, J1 59, J1 60, J1 61, J1 62, J1 63, J1 64, J1 65, J1 66, u1, J1 68, J2 69, J2 70, J2 71, J2 72, J2 73, J2 74, J2 75, J2 76, J2 77, J2 78, J2 79, J2 80, J2 81, J2 82, u2, J2 84, J2 85, J2 86, J2 87, J2 88, J2 89, J2 90, J2 91, J2 92, J2 93, J2 94, J3 95, J3 96, J3 97, J3 98, J3 99, J3 100, u3, J3 102, J3 103, J3 104, J3 105, J3 106, J3 107, J3 108, J3 109, J3 110, J3 111, J3 112, J3 113, J3 114, J3 115, J3 116, J3 117, J3 118, J3 119, J3 120, J3 121, J3 122, u1, J3 124, J3 125, J3 126, J3 127, J3 128, J3 129, J3 130, J3 131, J3 132, J3 133, u2, J3 135, J3 136, J3 137, J3 138, J3 139, J3 140, J3 141, J3 142, J3 143, J3 144, J3 145, J3 146, J3 147, J3 148, J3 149, J3 150, J3 151, J3 152, J3 153, u3, J3 155, J3 156, J3 157, J3 158, J3 159, J3 160, J3 161, J3 162, J3 163, J3 164, J3 165, J4 166, J4 167, J4 168, J4 169, J4 170, J4 171, J4 172, J4 173, J4 174, J4 175, J4 176, J4 177, J4 178, J4 179, J4 180, undef, undef, undef, undef, undef, undef, undef, undef, undef, undef, undef, undef, undef, undef, undef, undef, undef, undef, undef, undef, undef, undef, undef, undef, undef, undef, undef, undef, undef, undef, undef, undef, undef, undef, undef, undef, undef, undef, undef, undef, undef, undef, undef, undef, undef, undef, undef, undef, undef, undef, undef, undef, undef, undef, undef, undef, undef, undef, undef, undef, undef, undef, undef, undef, undef, undef, undef, undef, undef, undef, undef, undef, undef, undef, undef, undef, undef, undef, undef, undef, undef, undef, undef, undef, undef, undef, undef, undef, undef, undef, undef, undef, undef, undef, undef, undef, undef, undef, undef, undef, undef, undef, undef, undef, undef, undef, undef, undef, undef, undef, undef, undef, undef, undef, undef, undef, undef, undef, undef, undef, undef, undef, undef, undef, undef, undef, undef, undef, undef, undef, undef, undef, undef, undef, undef, undef, undef, undef, undef, undef, undef, undef, undef, undef, undef, undef, undef, undef, undef, undef, undef, undef, undef, undef, undef, undef, undef, undef, undef, undef, undef, undef, undef, undef, undef, undef, undef, undef, undef, undef, undef, undef, undef, undef, undef, undef, undef, undef, undef, undef, undef, undef, undef, undef, undef, undef, undef, undef, undef, undef, undef, undef, undef, undef, undef, undef, undef, undef, undef, undef, undef, undef, undef, undef, undef, undef], []⟩)) (100) ?_ ?_
   ·refine ⟨0, 0, rfl, ?_, ?_, H11, B1, B2, B3, B4, B5, exJ (by as_aux_lemma => kernel_rfl)⟩
    ·omega
    ·rw [tgL_0]; rfl
   intro m1 a wl1 hI
   obtain ⟨i, am, rfl, hi_, ham, HL1, B1, B2, B3, B4, B5, J4, rfl⟩ := hI
   have tl_ := tgL_length Fd x_ y_ i
   refine wp_seq ?_
   refine wsr ?_
   refine wv (.int .i64 (i : Int)) ?_
   refine wv (.bool (decide ((i : Int) < 100))) ?_
   refine wpList_nil (then_normal ?_)
   refine wsplit (decide ((i : Int) < 100)) (fun h3 => ?_) (fun h3 => ?_)
   ·skip
    have h3d := dT h3
    refine wp_skip ?_
    refine then_normal ?_
    refine wp_seq ?_
    refine wp_block ?_
    refine wsr ?_
    refine wrow row_impl_Cells B2 (by rfl) ?_
    refine wv (.int .i64 (i : Int)) ?_
    refine wcl (sHasCell_any x_ y_ (i : Int) _) ?_
    intro w21 E19
    refine wv (.bool (hasB x_ y_ (i : Int))) ?_
    have H12 := HL1.trans E19
    refine split_bool (hasB x_ y_ (i : Int)) (fun h4 => ?_) (fun h4 => ?_)
    ·skip
     refine wbl 174 true h4 ?_
     replace B1 := B1.ext E19
     refine wrow row_impl_Field B1 (by exact Fld.size_cells _) ?_
     refine wv (.int .i64 (i : Int)) ?_
     refine wcl (IsSoil_any Fd hF_ (i : Int) _) ?_
     intro w22 E20
     refine wv (.bool (isB Fd (i : Int) && (Fd.k ((i : Int)).toNat == 0))) ?_
     refine wpList_nil (then_normal ?_)
     have H13 := H12.trans E20
     refine wsplit (isB Fd (i : Int) && (Fd.k ((i : Int)).toNat == 0)) (fun h5 => ?_) (fun h5 => ?_)
     ·skip
      obtain ⟨h5a, h5b⟩ := andT h5
      have h5ad := isB_true.1 h5a
      have h5bd := eT h5b
      refine wp_region_lit ?_
      refine wv (.int .i64 am) ?_
      refine wi64 (am + 1) ?_
      refine wv (.int .i64 (am + 1)) ?_
      refine wpList_nil (block_normal (then_normal ?_))
      refine wp_region_lit ?_
      refine wv (.int .i64 (i : Int)) ?_
      refine wi64 ((i : Int) + 1) ?_
      refine wv (.int .i64 ((i : Int) + 1)) ?_
      refine wpList_nil (then_normal ?_)
      replace B1 := B1.ext E20
      replace B2 := (B2.ext E19).ext E20
      replace B3 := (B3.ext E19).ext E20
      replace B4 := (B4.ext E19).ext E20
      replace B5 := (B5.ext E19).ext E20
      refine ⟨_, ?_, i + 1, am + 1, rfl, ?_, ?_, H13, B1, B2, B3, B4, B5, exJ (by as_aux_lemma => kernel_rfl)⟩
      ·omega
      ·omega
      ·first | (rw [tgL_c (by assumption) (by assumption), List.length_append, List.length_singleton]; omega) | (rw [tgL_e (by assumption)]; exact ham) | (rw [tgL_d (by assumption)]; exact ham)
     ·skip
      refine wp_skip ?_
      refine block_normal (then_normal ?_)
      refine wp_region_lit ?_
      refine wv (.int .i64 (i : Int)) ?_
      refine wi64 ((i : Int) + 1) ?_
      refine wv (.int .i64 ((i : Int) + 1)) ?_
      refine wpList_nil (then_normal ?_)
      replace B1 := B1.ext E20
      replace B2 := (B2.ext E19).ext E20
      replace B3 := (B3.ext E19).ext E20
      replace B4 := (B4.ext E19).ext E20
      replace B5 := (B5.ext E19).ext E20
      refine ⟨_, ?_, i + 1, am, rfl, ?_, ?_, H13, B1, B2, B3, B4, B5, exJ (by as_aux_lemma => kernel_rfl)⟩
      ·omega
      ·omega
      ·first | (rw [tgL_c (by assumption) (by assumption), List.length_append, List.length_singleton]; omega) | (rw [tgL_e (by assumption)]; exact ham) | (rw [tgL_d (by assumption)]; exact ham)
    ·skip
     refine wbl 174 false h4 ?_
     refine wsk ?_
     refine wsk ?_
     refine wsk ?_
     refine wv (.bool false) ?_
     refine wpList_nil (then_normal ?_)
     refine wcf ?_
     refine wp_skip ?_
     refine block_normal (then_normal ?_)
     refine wp_region_lit ?_
     refine wv (.int .i64 (i : Int)) ?_
     refine wi64 ((i : Int) + 1) ?_
     refine wv (.int .i64 ((i : Int) + 1)) ?_
     refine wpList_nil (then_normal ?_)
     replace B1 := B1.ext E19
     replace B2 := B2.ext E19
     replace B3 := B3.ext E19
     replace B4 := B4.ext E19
     replace B5 := B5.ext E19
     refine ⟨_, ?_, i + 1, am, rfl, ?_, ?_, H12, B1, B2, B3, B4, B5, exJ (by as_aux_lemma => kernel_rfl)⟩
     ·omega
     ·omega
     ·first | (rw [tgL_c (by assumption) (by assumption), List.length_append, List.length_singleton]; omega) | (rw [tgL_e (by assumption)]; exact ham) | (rw [tgL_d (by assumption)]; exact ham)
   ·skip
    have h3d := dF h3
    refine wp_exit ?_
    refine then_exit ?_
    refine then_exit ?_
    refine block_exit ?_
    refine then_normal ?_
    refine seq_join (fun a wj1 => ¬ ((1 + p1) < 1 + p2 ∧ 0 < am) ∧ am = ((tgL Fd x_ y_ 100).length : Int) ∧ Ext w wj1 ∧ Blk wj1 g1 29 Fd.cells ∧ Blk wj1 g2 33 #[.int .u64 x_, .int .u64 y_] ∧ Blk wj1 g3 2 cs1 ∧ Blk wj1 g4 2 cs2 ∧ Blk wj1 g5 2 cs3 ∧ ∃ J5 : Nat → Value, a = ⟨#[v, v2, undef, undef, J5 4, .pointer (some ⟨g1, 0, none⟩), .pointer (some ⟨g2, 0, none⟩), .int .i64 (1 + p1), .int .i64 (1 + p2), u1, .int .i64 (grK Fd (1 + p1) (1 + p2) x_ y_), .slice (some ⟨g3, 0, none⟩) ((grY Fd (1 + p1) (1 + p2) x_ y_).length) cap1, J3 12, u2, J3 14, .int .i64 (fwK Fd (1 + p1) (1 + p2) 3000 x_ y_), .slice (some ⟨g4, 0, none⟩) ((fwY Fd (1 + p1) (1 + p2) x_ y_).length) cap2, J3 17, J3 18, u3, J3 20, .slice (some ⟨g5, 0, none⟩) ((apX Fd (1 + p1) (1 + p2) x_ y_).length) cap3, J3 22, J3 23, J3 24, .int .i64 am, J5 26, undef, undef, undef, undef, undef, undef, undef, undef, undef, undef, undef, undef, undef, undef, undef, undef, undef, undef, v, J1 46, J1 47, v2, J1 49, J1 50, v, J1 52, v2, J1 54, v2, J1 56, J1 57, v, J1 59, J1 60, J1 61, J1 62, J1 63, J1 64, J1 65, J1 66, u1, J1 68, J2 69, J2 70, J2 71, J2 72, J2 73, J2 74, J2 75, J2 76, J2 77, J2 78, J2 79, J2 80, J2 81, J2 82, u2, J2 84, J2 85, J2 86, J2 87, J2 88, J2 89, J2 90, J2 91, J2 92, J2 93, J2 94, J3 95, J3 96, J3 97, J3 98, J3 99, J3 100, u3, J3 102, J3 103, J3 104, J3 105, J3 106, J3 107, J3 108, J3 109, J3 110, J3 111, J3 112, J3 113, J3 114, J3 115, J3 116, J3 117, J3 118, J3 119, J3 120, J3 121, J3 122, u1, J3 124, J3 125, J3 126, J3 127, J3 128, J3 129, J3 130, J3 131, J3 132, J3 133, u2, J3 135, J3 136, J3 137, J3 138, J3 139, J3 140, J3 141, J3 142, J3 143, J3 144, J3 145, J3 146, J3 147, J3 148, J3 149, J3 150, J3 151, J3 152, J3 153, u3, J3 155, J3 156, J3 157, J3 158, J3 159, J3 160, J3 161, J3 162, J3 163, J3 164, J3 165, J4 166, J5 167, J5 168, J4 169, J4 170, J4 171, J4 172, J4 173, J4 174, J4 175, J4 176, J4 177, J4 178, J4 179, J4 180, J5 181, J5 182, J5 183, J5 184, J5 185, J5 186, J5 187, J5 188, J5 189, J5 190, J5 191, J5 192, J5 193, undef, undef, undef, undef, undef, undef, undef, undef, undef, undef, undef, undef, undef, undef, undef, undef, undef, undef, undef, undef, undef, undef, undef, undef, undef, undef, undef, undef, undef, undef, undef, undef, undef, undef, undef, undef, undef, undef, undef, undef, undef, undef, undef, undef, undef, undef, undef, undef, undef, undef, undef, undef, undef, undef, undef, undef, undef, undef, undef, undef, undef, undef, undef, undef, undef, undef, undef, undef, undef, undef, undef, undef, undef, undef, undef, undef, undef, undef, undef, undef, undef, undef, undef, undef, undef, undef, undef, undef, undef, undef, undef, undef, undef, undef, undef, undef, undef, undef, undef, undef, undef, undef, undef, undef, undef, undef, undef, undef, undef, undef, undef, undef, undef, undef, undef, undef, undef, undef, undef, undef, undef, undef, undef, undef, undef, undef, undef, undef, undef, undef, undef, undef, undef, undef, undef, undef, undef, undef, undef, undef, undef, undef, undef, undef, undef, undef, undef, undef, undef, undef, undef, undef, undef, undef, undef, undef, undef, undef, undef, undef, undef, undef, undef, undef, undef, undef, undef, undef, undef, undef, undef, undef, undef, undef, undef, undef, undef, undef, undef, undef, undef, undef, undef, undef, undef, undef, undef, undef, undef, undef, undef, undef, undef], []⟩) (fun HT1 => ?_) ?_
    ·refine wp_seq ?_
     have e100_ : i = 100 := by omega
     rw [e100_] at ham
     refine wsr ?_
     refine wv (.int .i64 (1 + p1)) ?_
     refine wv (.int .i64 (1 + p2)) ?_
     refine wv (.bool (decide ((1 + p1) < 1 + p2))) ?_
     refine wv (.bool (decide ((1 + p1) < 1 + p2))) ?_
     refine split_bool (decide ((1 + p1) < 1 + p2)) (fun h6 => ?_) (fun h6 => ?_)
     ·skip
      refine wbl 184 true h6 ?_
      have h6d := dT h6
      refine wv (.int .i64 am) ?_
      refine wv (.bool (decide (0 < am))) ?_
      refine wv (.bool (decide (0 < am))) ?_
      refine wpList_nil (then_normal ?_)
      refine wsplit (decide (0 < am)) (fun h7 => ?_) (fun h7 => ?_)
      ·skip
       have h7d := dT h7
       refine wsr ?_
       refine wv (.int .i64 (grK Fd (1 + p1) (1 + p2) x_ y_)) ?_
       refine wv (.bool ((grK Fd (1 + p1) (1 + p2) x_ y_) == 6)) ?_
       refine wv (.bool ((grK Fd (1 + p1) (1 + p2) x_ y_) == 6)) ?_
       refine split_bool ((grK Fd (1 + p1) (1 + p2) x_ y_) == 6) (fun h8 => ?_) (fun h8 => ?_)
       ·skip
        refine wbl 190 true h8 ?_
        have h8d := eT h8
        refine wv (.int .i64 (fwK Fd (1 + p1) (1 + p2) 3000 x_ y_)) ?_
        refine wv (.bool ((fwK Fd (1 + p1) (1 + p2) 3000 x_ y_) == 6)) ?_
        refine wv (.bool ((fwK Fd (1 + p1) (1 + p2) 3000 x_ y_) == 6)) ?_
        refine wv (.bool ((fwK Fd (1 + p1) (1 + p2) 3000 x_ y_) == 6)) ?_
        refine wpList_nil (then_normal ?_)
        refine wp_ret ?_
        refine then_ret ?_
        refine ret1 (.bool true) rfl ?_ rfl ?_
        ·refine (resT (v := .bool ((fwK Fd (1 + p1) (1 + p2) 3000 x_ y_) == 6)) (by as_aux_lemma => kernel_rfl)).trans ?_
         refine congrArg Value.bool ?_
         first | (exfalso; omega) | (rw [(hP_.far (by omega) (by omega)).2]; rfl)
        exact ⟨rfl, HL1⟩
       ·skip
        refine wbl 190 false h8 ?_
        have h8d := eF h8
        exfalso; have z_ := (hP_.far (by omega) (by omega)).1; omega
      ·skip
       have h7d := dF h7
       refine wp_skip ?_
       refine then_normal ?_
       exact HT1 _ _ ⟨(by omega), (by omega), HL1, B1, B2, B3, B4, B5, exJ (by as_aux_lemma => kernel_rfl)⟩
     ·skip
      refine wbl 184 false h6 ?_
      have h6d := dF h6
      refine wsk ?_
      refine wsk ?_
      refine wv (.bool false) ?_
      refine wpList_nil (then_normal ?_)
      refine wcf ?_
      refine wp_skip ?_
      refine then_normal ?_
      exact HT1 _ _ ⟨(by omega), (by omega), HL1, B1, B2, B3, B4, B5, exJ (by as_aux_lemma => kernel_rfl)⟩
    ·rintro a wj1 ⟨hnf_, ham_, HJ1, B1, B2, B3, B4, B5, J5, rfl⟩
     refine seq_join (fun a wj2 => grK Fd (1 + p1) (1 + p2) x_ y_ = 0 ∧ Ext w wj2 ∧ Blk wj2 g1 29 Fd.cells ∧ Blk wj2 g2 33 #[.int .u64 x_, .int .u64 y_] ∧ Blk wj2 g3 2 cs1 ∧ Blk wj2 g4 2 cs2 ∧ Blk wj2 g5 2 cs3 ∧ ∃ J6 : Nat → Value, a = ⟨#[v, v2, undef, undef, J6 4, .pointer (some ⟨g1, 0, none⟩), .pointer (some ⟨g2, 0, none⟩), .int .i64 (1 + p1), .int .i64 (1 + p2), u1, J6 10, .slice (some ⟨g3, 0, none⟩) ((grY Fd (1 + p1) (1 + p2) x_ y_).length) cap1, J3 12, u2, J3 14, .int .i64 (fwK Fd (1 + p1) (1 + p2) 3000 x_ y_), .slice (some ⟨g4, 0, none⟩) ((fwY Fd (1 + p1) (1 + p2) x_ y_).length) cap2, J3 17, J3 18, u3, J3 20, .slice (some ⟨g5, 0, none⟩) ((apX Fd (1 + p1) (1 + p2) x_ y_).length) cap3, J3 22, J3 23, J3 24, .int .i64 am, J5 26, undef, undef, undef, undef, undef, undef, undef, undef, undef, undef, undef, undef, undef, undef, undef, undef, undef, undef, v, J1 46, J1 47, v2, J1 49, J1 50, v, J1 52, v2, J1 54, v2, J1 56, J1 57, v, J1 59, J1 60, J1 61, J1 62, J1 63, J1 64, J1 65, J1 66, u1, J1 68, J2 69, J2 70, J2 71, J2 72, J2 73, J2 74, J2 75, J2 76, J2 77, J2 78, J2 79, J2 80, J2 81, J2 82, u2, J2 84, J2 85, J2 86, J2 87, J2 88, J2 89, J2 90, J2 91, J2 92, J2 93, J2 94, J3 95, J3 96, J3 97, J3 98, J3 99, J3 100, u3, J3 102, J3 103, J3 104, J3 105, J3 106, J3 107, J3 108, J3 109, J3 110, J3 111, J3 112, J3 113, J3 114, J3 115, J3 116, J3 117, J3 118, J3 119, J3 120, J3 121, J3 122, u1, J3 124, J3 125, J3 126, J3 127, J3 128, J3 129, J3 130, J3 131, J3 132, J3 133, u2, J3 135, J3 136, J3 137, J3 138, J3 139, J3 140, J3 141, J3 142, J3 143, J3 144, J3 145, J3 146, J3 147, J3 148, J3 149, J3 150, J3 151, J3 152, J3 153, u3, J3 155, J3 156, J3 157, J3 158, J3 159, J3 160, J3 161, J3 162, J3 163, J3 164, J3 165, J4 166, J5 167, J5 168, J4 169, J4 170, J4 171, J4 172, J4 173, J4 174, J4 175, J4 176, J4 177, J4 178, J4 179, J4 180, J5 181, J5 182, J5 183, J5 184, J5 185, J5 186, J5 187, J5 188, J5 189, J5 190, J5 191, J5 192, J5 193, J6 194, J6 195, J6 196, J6 197, J6 198, J6 199, J6 200, J6 201, J6 202, J6 203, undef, undef, undef, undef, undef, undef, undef, undef, undef, undef, undef, undef, undef, undef, undef, undef, undef, undef, undef, undef, undef, undef, undef, undef, undef, undef, undef, undef, undef, undef, undef, undef, undef, undef, undef, undef, undef, undef, undef, undef, undef, undef, undef, undef, undef, undef, undef, undef, undef, undef, undef, undef, undef, undef, undef, undef, undef, undef, undef, undef, undef, undef, undef, undef, undef, undef, undef, undef, undef, undef, undef, undef, undef, undef, undef, undef, undef, undef, undef, undef, undef, undef, undef, undef, undef, undef, undef, undef, undef, undef, undef, undef, undef, undef, undef, undef, undef, undef, undef, undef, undef, undef, undef, undef, undef, undef, undef, undef, undef, undef, undef, undef, undef, undef, undef, undef, undef, undef, undef, undef, undef, undef, undef, undef, undef, undef, undef, undef, undef, undef, undef, undef, undef, undef, undef, undef, undef, undef, undef, undef, undef, undef, undef, undef, undef, undef, undef, undef, undef, undef, undef, undef, undef, undef, undef, undef, undef, undef, undef, undef, undef, undef, undef, undef, undef, undef, undef, undef, undef, undef, undef, undef, undef, undef, undef, undef, undef, undef, undef, undef, undef, undef, undef], []⟩) (fun HT2 => ?_) ?_
     ·refine wp_seq ?_
      refine wsr ?_
      refine wv (.int .i64 (grK Fd (1 + p1) (1 + p2) x_ y_)) ?_
      refine wv (.bool ((grK Fd (1 + p1) (1 + p2) x_ y_) != 0)) ?_
      refine wv (.bool ((grK Fd (1 + p1) (1 + p2) x_ y_) != 0)) ?_
      refine split_bool ((grK Fd (1 + p1) (1 + p2) x_ y_) != 0) (fun h9 => ?_) (fun h9 => ?_)
      ·skip
       refine wbl 196 true h9 ?_
       have h9d := nT h9
       exfalso; have z_ := hP_.gr0 (fun q_ => by omega); omega
      ·skip
       refine wbl 196 false h9 ?_
       have h9d := nF h9
       refine wv (.int .i64 (fwK Fd (1 + p1) (1 + p2) 3000 x_ y_)) ?_
       refine wv (.bool ((fwK Fd (1 + p1) (1 + p2) 3000 x_ y_) != 0)) ?_
       refine wv (.bool ((fwK Fd (1 + p1) (1 + p2) 3000 x_ y_) != 0)) ?_
       refine split_bool ((fwK Fd (1 + p1) (1 + p2) 3000 x_ y_) != 0) (fun h10 => ?_) (fun h10 => ?_)
       ·skip
        refine wbl 199 true h10 ?_
        have h10d := nT h10
        refine wv (.int .i64 (fwK Fd (1 + p1) (1 + p2) 3000 x_ y_)) ?_
        refine wv (.bool ((fwK Fd (1 + p1) (1 + p2) 3000 x_ y_) != 7)) ?_
        refine wv (.bool ((fwK Fd (1 + p1) (1 + p2) 3000 x_ y_) != 7)) ?_
        refine wv (.bool ((fwK Fd (1 + p1) (1 + p2) 3000 x_ y_) != 7)) ?_
        refine wpList_nil (then_normal ?_)
        refine wsplit ((fwK Fd (1 + p1) (1 + p2) 3000 x_ y_) != 7) (fun h11 => ?_) (fun h11 => ?_)
        ·skip
         have h11d := nT h11
         exfalso; have z_ := hP_.fw7 (by omega) (by omega); omega
        ·skip
         have h11d := nF h11
         refine wp_skip ?_
         refine then_normal ?_
         exact HT2 _ _ ⟨(by omega), HJ1, B1, B2, B3, B4, B5, exJ (by as_aux_lemma => kernel_rfl)⟩
       ·skip
        refine wbl 199 false h10 ?_
        have h10d := nF h10
        refine wsk ?_
        refine wsk ?_
        refine wv (.bool false) ?_
        refine wv (.bool false) ?_
        refine wpList_nil (then_normal ?_)
        refine wcf ?_
        refine wp_skip ?_
        refine then_normal ?_
        exact HT2 _ _ ⟨(by omega), HJ1, B1, B2, B3, B4, B5, exJ (by as_aux_lemma => kernel_rfl)⟩
     ·rintro a wj2 ⟨hgk_, HJ2, B1, B2, B3, B4, B5, J6, rfl⟩
      refine wsr ?_
      refine wrow row_impl_Field B1 (by exact Fld.size_cells _) ?_
      refine wv (.int .i64 (1 + p1)) ?_
      refine wv (.int .i64 (1 + p2)) ?_
      refine wrow row_impl_Cells B2 (by rfl) ?_
      refine wv (.slice (some ⟨g3, 0, none⟩) ((grY Fd (1 + p1) (1 + p2) x_ y_).length) cap1) ?_
      have hg_ : grK Fd (1 + p1) (1 + p2) x_ y_ = 0 := by omega
      refine wcl (iCheckPlaces_is Fd hF_ (1 + p1) (1 + p2) x_ y_ hP_ (grY Fd (1 + p1) (1 + p2) x_ y_) ((grY Fd (1 + p1) (1 + p2) x_ y_).length) g3 cap1 cs1 S1 (by omega) true (hP_.y1 hg_) _ B3) ?_
      intro w23 E21
      have y2_ := hP_.y2 hg_
      refine wv (.tuple #[.bool true, .int .i64 0]) ?_
      refine wv (.bool true) ?_
      refine wv (.int .i64 0) ?_
      refine wv (.bool true) ?_
      refine wv (.int .i64 0) ?_
      refine wpList_nil (then_normal ?_)
      refine wp_seq ?_
      refine wsr ?_
      refine wv (.int .i64 0) ?_
      refine wvv (.bool (0 != 0)) (.bool false) (by simp) ?_
      refine wv (.bool false) ?_
      refine wv (.bool true) ?_
      refine wv (.bool false) ?_
      refine wv (.bool false) ?_
      refine wv (.bool false) ?_
      refine wv (.slice (some ⟨g3, 0, none⟩) ((grY Fd (1 + p1) (1 + p2) x_ y_).length) cap1) ?_
      refine wv (.int .i64 ((grY Fd (1 + p1) (1 + p2) x_ y_).length : Int)) ?_
      refine wv (.slice (some ⟨g5, 0, none⟩) ((apX Fd (1 + p1) (1 + p2) x_ y_).length) cap3) ?_
      refine wv (.int .i64 ((apX Fd (1 + p1) (1 + p2) x_ y_).length : Int)) ?_
      refine wv (.bool (decide (((grY Fd (1 + p1) (1 + p2) x_ y_).length : Int) < ((apX Fd (1 + p1) (1 + p2) x_ y_).length : Int)))) ?_
      refine wv (.bool (decide (((grY Fd (1 + p1) (1 + p2) x_ y_).length : Int) < ((apX Fd (1 + p1) (1 + p2) x_ y_).length : Int)))) ?_
      refine wpList_nil (then_normal ?_)
      have H14 := HJ2.trans E21
      refine wsplit (decide (((grY Fd (1 + p1) (1 + p2) x_ y_).length : Int) < ((apX Fd (1 + p1) (1 + p2) x_ y_).length : Int))) (fun h12 => ?_) (fun h12 => ?_)
      ·skip
       have h12d := dT h12
       exfalso; omega
      ·skip
       have h12d := dF h12
       refine wp_skip ?_
       refine then_normal ?_
       replace B1 := B1.ext E21
       replace B2 := B2.ext E21
       replace B3 := B3.ext E21
       replace B4 := B4.ext E21
       replace B5 := B5.ext E21
       refine seq_join (fun a wj3 => Ext w wj3 ∧ Blk wj3 g1 29 Fd.cells ∧ Blk wj3 g2 33 #[.int .u64 x_, .int .u64 y_] ∧ Blk wj3 g3 2 cs1 ∧ Blk wj3 g4 2 cs2 ∧ Blk wj3 g5 2 cs3 ∧ ∃ J7 : Nat → Value, a = ⟨#[v, v2, undef, undef, J7 4, .pointer (some ⟨g1, 0, none⟩), J7 6, .int .i64 (1 + p1), .int .i64 (1 + p2), u1, J6 10, J7 11, J3 12, u2, J3 14, J7 15, J7 16, J3 17, J3 18, u3, J3 20, J7 21, J3 22, J3 23, J3 24, J7 25, J5 26, J7 27, J7 28, J7 29, J7 30, J7 31, J7 32, undef, undef, undef, undef, undef, undef, undef, undef, undef, undef, undef, undef, v, J1 46, J1 47, v2, J1 49, J1 50, v, J1 52, v2, J1 54, v2, J1 56, J1 57, v, J1 59, J1 60, J1 61, J1 62, J1 63, J1 64, J1 65, J1 66, u1, J1 68, J2 69, J2 70, J2 71, J2 72, J2 73, J2 74, J2 75, J2 76, J2 77, J2 78, J2 79, J2 80, J2 81, J2 82, u2, J2 84, J2 85, J2 86, J2 87, J2 88, J2 89, J2 90, J2 91, J2 92, J2 93, J2 94, J3 95, J3 96, J3 97, J3 98, J3 99, J3 100, u3, J3 102, J3 103, J3 104, J3 105, J3 106, J3 107, J3 108, J3 109, J3 110, J3 111, J3 112, J3 113, J3 114, J3 115, J3 116, J3 117, J3 118, J3 119, J3 120, J3 121, J3 122, u1, J3 124, J3 125, J3 126, J3 127, J3 128, J3 129, J3 130, J3 131, J3 132, J3 133, u2, J3 135, J3 136, J3 137, J3 138, J3 139, J3 140, J3 141, J3 142, J3 143, J3 144, J3 145, J3 146, J3 147, J3 148, J3 149, J3 150, J3 151, J3 152, J3 153, u3, J3 155, J3 156, J3 157, J3 158, J3 159, J3 160, J3 161, J3 162, J3 163, J3 164, J3 165, J4 166, J5 167, J5 168, J4 169, J4 170, J4 171, J4 172, J4 173, J4 174, J4 175, J4 176, J4 177, J4 178, J4 179, J4 180, J5 181, J5 182, J5 183, J5 184, J5 185, J5 186, J5 187, J5 188, J5 189, J5 190, J5 191, J5 192, J5 193, J6 194, J6 195, J6 196, J6 197, J6 198, J6 199, J6 200, J6 201, J6 202, J6 203, J7 204, J7 205, J7 206, J7 207, J7 208, J7 209, J7 210, J7 211, J7 212, J7 213, J7 214, J7 215, J7 216, J7 217, J7 218, J7 219, J7 220, J7 221, J7 222, J7 223, J7 224, J7 225, J7 226, J7 227, J7 228, J7 229, J7 230, J7 231, J7 232, J7 233, J7 234, J7 235, J7 236, J7 237, J7 238, J7 239, J7 240, J7 241, J7 242, J7 243, J7 244, J7 245, J7 246, J7 247, J7 248, J7 249, J7 250, J7 251, J7 252, J7 253, J7 254, J7 255, J7 256, J7 257, J7 258, J7 259, J7 260, J7 261, J7 262, J7 263, J7 264, J7 265, J7 266, J7 267, J7 268, J7 269, J7 270, J7 271, J7 272, J7 273, J7 274, J7 275, J7 276, J7 277, J7 278, J7 279, J7 280, J7 281, J7 282, undef, undef, undef, undef, undef, undef, undef, undef, undef, undef, undef, undef, undef, undef, undef, undef, undef, undef, undef, undef, undef, undef, undef, undef, undef, undef, undef, undef, undef, undef, undef, undef, undef, undef, undef, undef, undef, undef, undef, undef, undef, undef, undef, undef, undef, undef, undef, undef, undef, undef, undef, undef, undef, undef, undef, undef, undef, undef, undef, undef, undef, undef, undef, undef, undef, undef, undef, undef, undef, undef, undef, undef, undef, undef, undef, undef, undef, undef, undef, undef, undef, undef, undef, undef, undef, undef, undef, undef, undef, undef, undef, undef, undef, undef, undef, undef, undef, undef, undef, undef, undef, undef, undef, undef], []⟩) (fun HT3 => ?_) ?_
       ·refine wp_seq ?_
        refine wsr ?_
        refine wv (.int .i64 (fwK Fd (1 + p1) (1 + p2) 3000 x_ y_)) ?_
        refine wv (.bool ((fwK Fd (1 + p1) (1 + p2) 3000 x_ y_) == 0)) ?_
        refine wpList_nil (then_normal ?_)
        refine wsplit ((fwK Fd (1 + p1) (1 + p2) 3000 x_ y_) == 0) (fun h13 => ?_) (fun h13 => ?_)
        ·skip
         have h13d := eT h13
         refine wsr ?_
         refine wrow row_impl_Field B1 (by exact Fld.size_cells _) ?_
         refine wv (.int .i64 (1 + p1)) ?_
         refine wv (.int .i64 (1 + p2)) ?_
         refine wrow row_impl_Cells B2 (by rfl) ?_
         refine wv (.slice (some ⟨g4, 0, none⟩) ((fwY Fd (1 + p1) (1 + p2) x_ y_).length) cap2) ?_
         have hf_ : fwK Fd (1 + p1) (1 + p2) 3000 x_ y_ = 0 := by omega
         have y3_ := hP_.y3 hg_ hf_
         refine wcl (iCheckPlaces_is Fd hF_ (1 + p1) (1 + p2) x_ y_ hP_ (fwY Fd (1 + p1) (1 + p2) x_ y_) ((fwY Fd (1 + p1) (1 + p2) x_ y_).length) g4 cap2 cs2 S2 (by omega) true y3_.1 _ B4) ?_
         intro w24 E22
         have y4_ := y3_.2.1
         have y5_ := y3_.2.2.1
         have y6_ := y3_.2.2.2.1
         refine wv (.tuple #[.bool true, .int .i64 0]) ?_
         refine wv (.bool true) ?_
         refine wv (.int .i64 0) ?_
         refine wv (.bool true) ?_
         refine wv (.int .i64 0) ?_
         refine wpList_nil (then_normal ?_)
         refine wp_forget (f := fun J8 => ⟨#[v, v2, undef, undef, J6 4, .pointer (some ⟨g1, 0, none⟩), .pointer (some ⟨g2, 0, none⟩), .int .i64 (1 + p1), .int .i64 (1 + p2), u1, J6 10, .slice (some ⟨g3, 0, none⟩) ((grY Fd (1 + p1) (1 + p2) x_ y_).length) cap1, J3 12, u2, J3 14, J8 15, .slice (some ⟨g4, 0, none⟩) ((fwY Fd (1 + p1) (1 + p2) x_ y_).length) cap2, J3 17, J3 18, u3, J3 20, .slice (some ⟨g5, 0, none⟩) ((apX Fd (1 + p1) (1 + p2) x_ y_).length) cap3, J3 22, J3 23, J3 24, .int .i64 am, J5 26, J8 27, J8 28, .bool true, .int .i64 0, undef, undef, undef, undef, undef, undef, undef, undef, undef, undef, undef, undef, undef, undef, v, J1 46, J1 47, v2, J1 49, J1 50, v, J1 52, v2, J1 54, v2, J1 56, J1 57, v, J1 59, J1 60, J1 61, J1 62, J1 63, J1 64, J1 65, J1 66, u1, J1 68, J2 69, J2 70, J2 71, J2 72, J2 73, J2 74, J2 75, J2 76, J2 77, J2 78, J2 79, J2 80, J2 81, J2 82, u2, J2 84, J2 85, J2 86, J2 87, J2 88, J2 89, J2 90, J2 91, J2 92, J2 93, J2 94, J3 95, J3 96, J3 97, J3 98, J3 99, J3 100, u3, J3 102, J3 103, J3 104, J3 105, J3 106, J3 107, J3 108, J3 109, J3 110, J3 111, J3 112, J3 113, J3 114, J3 115, J3 116, J3 117, J3 118, J3 119, J3 120, J3 121, J3 122, u1, J3 124, J3 125, J3 126, J3 127, J3 128, J3 129, J3 130, J3 131, J3 132, J3 133, u2, J3 135, J3 136, J3 137, J3 138, J3 139, J3 140, J3 141, J3 142, J3 143, J3 144, J3 145, J3 146, J3 147, J3 148, J3 149, J3 150, J3 151, J3 152, J3 153, u3, J3 155, J3 156, J3 157, J3 158, J3 159, J3 160, J3 161, J3 162, J3 163, J3 164, J3 165, J4 166, J5 167, J5 168, J4 169, J4 170, J4 171, J4 172, J4 173, J4 174, J4 175, J4 176, J4 177, J4 178, J4 179, J4 180, J5 181, J5 182, J5 183, J5 184, J5 185, J5 186, J5 187, J5 188, J5 189, J5 190, J5 191, J5 192, J5 193, J6 194, J6 195, J6 196, J6 197, J6 198, J6 199, J6 200, J6 201, J6 202, J6 203, J8 204, J8 205, J8 206, J8 207, J8 208, J8 209, J8 210, J8 211, J8 212, J8 213, J8 214, J8 215, J8 216, J8 217, J8 218, J8 219, J8 220, J8 221, J8 222, J8 223, J8 224, J8 225, J8 226, J8 227, J8 228, J8 229, J8 230, J8 231, J8 232, J8 233, J8 234, J8 235, J8 236, undef, undef, undef, undef, undef, undef, undef, undef, undef, undef, undef, undef, undef, undef, undef, undef, undef, undef, undef, undef, undef, undef, undef, undef, undef, undef, undef, undef, undef, undef, undef, undef, undef, undef, undef, undef, undef, undef, undef, undef, undef, undef, undef, undef, undef, undef, undef, undef, undef, undef, undef, undef, undef, undef, undef, undef, undef, undef, undef, undef, undef, undef, undef, undef, undef, undef, undef, undef, undef, undef, undef, undef, undef, undef, undef, undef, undef, undef, undef, undef, undef, undef, undef, undef, undef, undef, undef, undef, undef, undef, undef, undef, undef, undef, undef, undef, undef, undef, undef, undef, undef, undef, undef, undef, undef, undef, undef, undef, undef, undef, undef, undef, undef, undef, undef, undef, undef, undef, undef, undef, undef, undef, undef, undef, undef, undef, undef, undef, undef, undef, undef, undef, undef, undef, undef, undef, undef, undef, undef, undef, undef, undef, undef, undef, undef, undef, undef, undef, undef, undef], []⟩) (by as_aux_lemma => kernel_rfl) (fun J8 => ?_)
         refine wp_seq ?_
         refine wsr ?_
         refine wv (.int .i64 0) ?_
         refine wvv (.bool (0 != 0)) (.bool false) (by simp) ?_
         refine wv (.bool false) ?_
         refine wv (.bool true) ?_
         refine wv (.bool false) ?_
         refine wv (.bool false) ?_
         refine wv (.bool false) ?_
         refine wv (.slice (some ⟨g4, 0, none⟩) ((fwY Fd (1 + p1) (1 + p2) x_ y_).length) cap2) ?_
         refine wv (.int .i64 ((fwY Fd (1 + p1) (1 + p2) x_ y_).length : Int)) ?_
         refine wv (.slice (some ⟨g3, 0, none⟩) ((grY Fd (1 + p1) (1 + p2) x_ y_).length) cap1) ?_
         refine wv (.int .i64 ((grY Fd (1 + p1) (1 + p2) x_ y_).length : Int)) ?_
         refine wv (.bool (decide (((grY Fd (1 + p1) (1 + p2) x_ y_).length : Int) < ((fwY Fd (1 + p1) (1 + p2) x_ y_).length : Int)))) ?_
         refine wv (.bool (decide (((grY Fd (1 + p1) (1 + p2) x_ y_).length : Int) < ((fwY Fd (1 + p1) (1 + p2) x_ y_).length : Int)))) ?_
         refine wv (.bool (decide (((grY Fd (1 + p1) (1 + p2) x_ y_).length : Int) < ((fwY Fd (1 + p1) (1 + p2) x_ y_).length : Int)))) ?_
         have H15 := H14.trans E22
         refine split_bool (decide (((grY Fd (1 + p1) (1 + p2) x_ y_).length : Int) < ((fwY Fd (1 + p1) (1 + p2) x_ y_).length : Int))) (fun h14 => ?_) (fun h14 => ?_)
         ·skip
          refine wbl 250 true h14 ?_
          have h14d := dT h14
          exfalso; omega
         ·skip
          refine wbl 250 false h14 ?_
          have h14d := dF h14
          refine wv (.slice (some ⟨g4, 0, none⟩) ((fwY Fd (1 + p1) (1 + p2) x_ y_).length) cap2) ?_
          refine wv (.int .i64 ((fwY Fd (1 + p1) (1 + p2) x_ y_).length : Int)) ?_
          refine wv (.slice (some ⟨g5, 0, none⟩) ((apX Fd (1 + p1) (1 + p2) x_ y_).length) cap3) ?_
          refine wv (.int .i64 ((apX Fd (1 + p1) (1 + p2) x_ y_).length : Int)) ?_
          refine wv (.bool (decide (((fwY Fd (1 + p1) (1 + p2) x_ y_).length : Int) < ((apX Fd (1 + p1) (1 + p2) x_ y_).length : Int)))) ?_
          refine wv (.bool (decide (((fwY Fd (1 + p1) (1 + p2) x_ y_).length : Int) < ((apX Fd (1 + p1) (1 + p2) x_ y_).length : Int)))) ?_
          refine wv (.bool (decide (((fwY Fd (1 + p1) (1 + p2) x_ y_).length : Int) < ((apX Fd (1 + p1) (1 + p2) x_ y_).length : Int)))) ?_
          refine split_bool (decide (((fwY Fd (1 + p1) (1 + p2) x_ y_).length : Int) < ((apX Fd (1 + p1) (1 + p2) x_ y_).length : Int))) (fun h15 => ?_) (fun h15 => ?_)
          ·skip
           refine wbl 257 true h15 ?_
           have h15d := dT h15
           exfalso; omega
          ·skip
           refine wbl 257 false h15 ?_
           have h15d := dF h15
           refine wv (.slice (some ⟨g4, 0, none⟩) ((fwY Fd (1 + p1) (1 + p2) x_ y_).length) cap2) ?_
           refine wv (.int .i64 ((fwY Fd (1 + p1) (1 + p2) x_ y_).length : Int)) ?_
           refine wv (.bool (((fwY Fd (1 + p1) (1 + p2) x_ y_).length : Int) == 0)) ?_
           refine wv (.int .i64 am) ?_
           refine wv (.bool (am == 0)) ?_
           refine wvv (.bool ((((fwY Fd (1 + p1) (1 + p2) x_ y_).length : Int) == 0) != (am == 0))) (.bool false) (congrArg Value.bool (bneq_iff (by omega))) ?_
           refine wv (.bool false) ?_
           refine wpList_nil (then_normal ?_)
           refine wcf ?_
           refine wp_skip ?_
           refine then_normal ?_
           refine wsr ?_
           refine wv (.slice (some ⟨g4, 0, none⟩) ((fwY Fd (1 + p1) (1 + p2) x_ y_).length) cap2) ?_
           refine wv (.int .i64 ((fwY Fd (1 + p1) (1 + p2) x_ y_).length : Int)) ?_
           refine wv (.bool (decide (0 < ((fwY Fd (1 + p1) (1 + p2) x_ y_).length : Int)))) ?_
           refine wpList_nil (then_normal ?_)
           refine wp_forget (f := fun J9 => ⟨#[v, v2, undef, undef, J6 4, .pointer (some ⟨g1, 0, none⟩), .pointer (some ⟨g2, 0, none⟩), .int .i64 (1 + p1), .int .i64 (1 + p2), u1, J6 10, J9 11, J3 12, u2, J3 14, J8 15, .slice (some ⟨g4, 0, none⟩) ((fwY Fd (1 + p1) (1 + p2) x_ y_).length) cap2, J3 17, J3 18, u3, J3 20, J9 21, J3 22, J3 23, J3 24, J9 25, J5 26, J8 27, J8 28, J9 29, J9 30, undef, undef, undef, undef, undef, undef, undef, undef, undef, undef, undef, undef, undef, undef, v, J1 46, J1 47, v2, J1 49, J1 50, v, J1 52, v2, J1 54, v2, J1 56, J1 57, v, J1 59, J1 60, J1 61, J1 62, J1 63, J1 64, J1 65, J1 66, u1, J1 68, J2 69, J2 70, J2 71, J2 72, J2 73, J2 74, J2 75, J2 76, J2 77, J2 78, J2 79, J2 80, J2 81, J2 82, u2, J2 84, J2 85, J2 86, J2 87, J2 88, J2 89, J2 90, J2 91, J2 92, J2 93, J2 94, J3 95, J3 96, J3 97, J3 98, J3 99, J3 100, u3, J3 102, J3 103, J3 104, J3 105, J3 106, J3 107, J3 108, J3 109, J3 110, J3 111, J3 112, J3 113, J3 114, J3 115, J3 116, J3 117, J3 118, J3 119, J3 120, J3 121, J3 122, u1, J3 124, J3 125, J3 126, J3 127, J3 128, J3 129, J3 130, J3 131, J3 132, J3 133, u2, J3 135, J3 136, J3 137, J3 138, J3 139, J3 140, J3 141, J3 142, J3 143, J3 144, J3 145, J3 146, J3 147, J3 148, J3 149, J3 150, J3 151, J3 152, J3 153, u3, J3 155, J3 156, J3 157, J3 158, J3 159, J3 160, J3 161, J3 162, J3 163, J3 164, J3 165, J4 166, J5 167, J5 168, J4 169, J4 170, J4 171, J4 172, J4 173, J4 174, J4 175, J4 176, J4 177, J4 178, J4 179, J4 180, J5 181, J5 182, J5 183, J5 184, J5 185, J5 186, J5 187, J5 188, J5 189, J5 190, J5 191, J5 192, J5 193, J6 194, J6 195, J6 196, J6 197, J6 198, J6 199, J6 200, J6 201, J6 202, J6 203, J8 204, J8 205, J8 206, J8 207, J8 208, J8 209, J8 210, J8 211, J8 212, J8 213, J8 214, J8 215, J8 216, J8 217, J8 218, J8 219, J8 220, J8 221, J8 222, J8 223, J8 224, J8 225, J8 226, J8 227, J8 228, J8 229, J8 230, J8 231, J8 232, J8 233, J8 234, J8 235, J8 236, J9 237, J9 238, J9 239, J9 240, J9 241, J9 242, J9 243, J9 244, J9 245, J9 246, J9 247, J9 248, J9 249, J9 250, J9 251, J9 252, J9 253, J9 254, J9 255, J9 256, J9 257, J9 258, J9 259, J9 260, J9 261, J9 262, J9 263, J9 264, J9 265, J9 266, .bool (decide (0 < ((fwY Fd (1 + p1) (1 + p2) x_ y_).length : Int))), undef, undef, undef, undef, undef, undef, undef, undef, undef, undef, undef, undef, undef, undef, undef, undef, undef, undef, undef, undef, undef, undef, undef, undef, undef, undef, undef, undef, undef, undef, undef, undef, undef, undef, undef, undef, undef, undef, undef, undef, undef, undef, undef, undef, undef, undef, undef, undef, undef, undef, undef, undef, undef, undef, undef, undef, undef, undef, undef, undef, undef, undef, undef, undef, undef, undef, undef, undef, undef, undef, undef, undef, undef, undef, undef, undef, undef, undef, undef, undef, undef, undef, undef, undef, undef, undef, undef, undef, undef, undef, undef, undef, undef, undef, undef, undef, undef, undef, undef, undef, undef, undef, undef, undef, undef, undef, undef, undef, undef, undef, undef, undef, undef, undef, undef, undef, undef, undef, undef], []⟩) (by as_aux_lemma => kernel_rfl) (fun J9 => ?_)
           refine wsplit (decide (0 < ((fwY Fd (1 + p1) (1 + p2) x_ y_).length : Int))) (fun h16 => ?_) (fun h16 => ?_)
           ·skip
            have h16d := dT h16
            refine wp_seq ?_
            replace B1 := B1.ext E22
            replace B2 := B2.ext E22
            replace B4 := B4.ext E22
            refine region_go 12 [269, 270, 271, 272, 273, 274, 275, 268, 276, 277, 31, 32] [[], [], [], [], [], [4], [0, 1, 2, 3, 5], [6], [7], [7], [8], [9]]
             (fun i_ => ([.val (.agg Fd.cells), .val (.int .i64 (1 + p1)), .val (.int .i64 (1 + p2)), .val (.agg #[.int .u64 x_, .int .u64 y_]), .val (.slice (some ⟨g4, 0, none⟩) ((fwY Fd (1 + p1) (1 + p2) x_ y_).length) cap2), .val (.slice (some (tlA g4 cap2 (1))) (((fwY Fd (1 + p1) (1 + p2) x_ y_).length) - (1)) (cap2 - (1))), .val (.tuple #[.bool false, .int .i64 0]), .val (.tuple #[.bool false, .int .i64 0]), .val (.bool false), .val (.int .i64 0), .val (.bool false), .val (.int .i64 0)] : List Fct).getD i_ .any)
             (by as_aux_lemma => kernel_rfl) (by as_aux_lemma => kernel_rfl) (by decide) (by simp) rfl (all_succ (all_succ (all_succ (all_succ (all_succ (all_succ (all_succ (all_succ (all_succ (all_succ (all_succ (all_succ all_zero ?_) ?_) ?_) ?_) ?_) ?_) ?_) ?_) ?_) ?_) ?_) ?_) ?_
            ·refine step0 rfl rfl rfl (fun wr hw => ?_)
             with_reducible refine OpRun.row (x := (.tmp 5)) row_impl_Field (B1.ext hw) ?_ ?_ ?_ ?_
             ·exact Fld.size_cells _
             ·rfl
             ·as_aux_lemma => kernel_rfl
             ·exact ⟨Ext.refl _, rfl⟩
            ·refine step0 rfl rfl rfl (fun wr hw => ?_)
             exact OpRun.val (.int .i64 (1 + p1)) (.int .i64 (1 + p1)) (by as_aux_lemma => kernel_rfl) rfl ⟨Ext.refl _, rfl⟩
            ·refine step0 rfl rfl rfl (fun wr hw => ?_)
             exact OpRun.val (.int .i64 (1 + p2)) (.int .i64 (1 + p2)) (by as_aux_lemma => kernel_rfl) rfl ⟨Ext.refl _, rfl⟩
            ·refine step0 rfl rfl rfl (fun wr hw => ?_)
             with_reducible refine OpRun.row (x := (.tmp 6)) row_impl_Cells (B2.ext hw) ?_ ?_ ?_ ?_
             ·rfl
             ·rfl
             ·as_aux_lemma => kernel_rfl
             ·exact ⟨Ext.refl _, rfl⟩
            ·refine step0 rfl rfl rfl (fun wr hw => ?_)
             exact OpRun.val (.slice (some ⟨g4, 0, none⟩) ((fwY Fd (1 + p1) (1 + p2) x_ y_).length) cap2) (.slice (some ⟨g4, 0, none⟩) ((fwY Fd (1 + p1) (1 + p2) x_ y_).length) cap2) (by as_aux_lemma => kernel_rfl) rfl ⟨Ext.refl _, rfl⟩
            ·refine step1 rfl rfl rfl rfl (fun u0 wr hw h0 => ?_)
             cases h0
             exact OpRun.slcT (g := g4) (n := ((fwY Fd (1 + p1) (1 + p2) x_ y_).length)) (cap := cap2) (lo := 1) (k := .i64) slit__int64 rfl (by as_aux_lemma => kernel_rfl) (by as_aux_lemma => kernel_rfl) (by omega) (SlO.nc S2) ⟨Ext.refl _, rfl⟩
            ·refine step5 rfl rfl rfl rfl rfl rfl rfl rfl (fun u0 u1 u2 u3 u4 wr hw h0 h1 h2 h3 h4 => ?_)
             cases h0
             cases h1
             cases h2
             cases h3
             cases h4
             exact OpRun.call 18 #[.agg Fd.cells, .int .i64 (1 + p1), .int .i64 (1 + p2), .agg #[.int .u64 x_, .int .u64 y_], .slice (some (tlA g4 cap2 (1))) (((fwY Fd (1 + p1) (1 + p2) x_ y_).length) - (1)) (cap2 - (1))] (by as_aux_lemma => kernel_rfl) ((iCheckPlaces_tl Fd hF_ (1 + p1) (1 + p2) x_ y_ hP_ (fwY Fd (1 + p1) (1 + p2) x_ y_) ((fwY Fd (1 + p1) (1 + p2) x_ y_).length) g4 cap2 1 cs2 S2 (by omega) false ((hP_.y3 hg_ hf_).2.2.2.2 (by omega)) _ (B4.ext hw)).mono fun e w1 ⟨he, hb⟩ => ⟨_, he, hb, rfl⟩)
            ·refine step1 rfl rfl rfl rfl (fun u0 wr hw h0 => ?_)
             cases h0
             exact OpRun.val (.tuple #[.bool false, .int .i64 0]) (.tuple #[.bool false, .int .i64 0]) (by as_aux_lemma => kernel_rfl) rfl ⟨Ext.refl _, rfl⟩
            ·refine step1 rfl rfl rfl rfl (fun u0 wr hw h0 => ?_)
             cases h0
             exact OpRun.val (.bool false) (.bool false) (by as_aux_lemma => kernel_rfl) rfl ⟨Ext.refl _, rfl⟩
            ·refine step1 rfl rfl rfl rfl (fun u0 wr hw h0 => ?_)
             cases h0
             exact OpRun.val (.int .i64 0) (.int .i64 0) (by as_aux_lemma => kernel_rfl) rfl ⟨Ext.refl _, rfl⟩
            ·refine step1 rfl rfl rfl rfl (fun u0 wr hw h0 => ?_)
             cases h0
             exact OpRun.val (.bool false) (.bool false) (by as_aux_lemma => kernel_rfl) rfl ⟨Ext.refl _, rfl⟩
            ·refine step1 rfl rfl rfl rfl (fun u0 wr hw h0 => ?_)
             cases h0
             exact OpRun.val (.int .i64 0) (.int .i64 0) (by as_aux_lemma => kernel_rfl) rfl ⟨Ext.refl _, rfl⟩
            refine end12 (fun u0 u1 u2 u3 u4 u5 u6 u7 u8 u9 u10 u11 w25 E23 f0 f1 f2 f3 f4 f5 f6 f7 f8 f9 f10 f11 => ?_)
            cases f0
            cases f1
            cases f2
            cases f3
            cases f4
            cases f5
            cases f6
            cases f7
            cases f8
            cases f9
            cases f10
            cases f11
            refine wpList_nil (then_normal ?_)
            refine wsr ?_
            refine wv (.int .i64 0) ?_
            refine wvv (.bool (0 != 0)) (.bool false) (by simp) ?_
            refine wv (.bool false) ?_
            refine wv (.bool false) ?_
            refine wv (.bool false) ?_
            refine wpList_nil (then_normal ?_)
            refine wcf ?_
            refine wp_skip ?_
            refine then_normal ?_
            replace B1 := B1.ext E23
            replace B2 := B2.ext E23
            replace B3 := (B3.ext E22).ext E23
            replace B4 := B4.ext E23
            replace B5 := (B5.ext E22).ext E23
            have H16 := H15.trans E23
            exact HT3 _ _ ⟨H16, B1, B2, B3, B4, B5, exJ (by as_aux_lemma => kernel_rfl)⟩
           ·skip
            have h16d := dF h16
            refine wp_skip ?_
            refine then_normal ?_
            replace B1 := B1.ext E22
            replace B2 := B2.ext E22
            replace B3 := B3.ext E22
            replace B4 := B4.ext E22
            replace B5 := B5.ext E22
            exact HT3 _ _ ⟨H15, B1, B2, B3, B4, B5, exJ (by as_aux_lemma => kernel_rfl)⟩
        ·skip
         have h13d := eF h13
         refine wp_skip ?_
         refine then_normal ?_
         exact HT3 _ _ ⟨H14, B1, B2, B3, B4, B5, exJ (by as_aux_lemma => kernel_rfl)⟩
       ·rintro a wj3 ⟨HJ3, B1, B2, B3, B4, B5, J7, rfl⟩
        refine wsr ?_
        refine wv v2 ?_
        refine wrow row_impl_Field B1 (by exact Fld.size_cells _) ?_
        refine wcel (P6Cell_any ys v2 (by omega) hyb Fd hF_ hd_.ok _ (SlIn.ext hin2 HJ3)) ?_
        intro c_ w26 hc_ E24
        have hcr_ := isB_true.1 hc_
        refine wv (.int .i64 c_) ?_
        refine wpList_nil (then_normal ?_)
        refine wsr ?_
        replace B1 := B1.ext E24
        refine wrow row_impl_Field B1 (by exact Fld.size_cells _) ?_
        refine wv (.int .i64 c_) ?_
        refine wv (.int .i64 (1 + p1)) ?_
        refine wv (.int .i64 (1 + p2)) ?_
        have H17 := HJ3.trans E24
        refine split_bool (Fd.k c_.toNat == 3) (fun h17 => ?_) (fun h17 => ?_)
        ·skip
         have h17d := eT h17
         refine wcl (iCoverOf_4 Fd hF_ (1 + p1) (1 + p2) x_ y_ hP_ c_ hc_ h17 _) ?_
         intro w27 E25
         refine wv (.tuple #[.agg #[.int .u64 ((cvoS Fd c_ (1 + p1) (1 + p2)).1), .int .u64 ((cvoS Fd c_ (1 + p1) (1 + p2)).2)], .int .i64 4]) ?_
         refine wv (.agg #[.int .u64 ((cvoS Fd c_ (1 + p1) (1 + p2)).1), .int .u64 ((cvoS Fd c_ (1 + p1) (1 + p2)).2)]) ?_
         refine wv (.int .i64 4) ?_
         have H18 := H17.trans E25
         replace B1 := B1.ext E25
         replace B2 := (B2.ext E24).ext E25
         replace B3 := (B3.ext E24).ext E25
         replace B4 := (B4.ext E24).ext E25
         replace B5 := (B5.ext E24).ext E25
         refine wnew #[.int .u64 0, .int .u64 0] Try.zeroValue33 rfl ?_
         intro g6 w28 B6 E26 hg_
         have q_g1_g6 := Nat.ne_of_lt (Nat.lt_of_lt_of_le B1.lt hg_)
         have q_g2_g6 := Nat.ne_of_lt (Nat.lt_of_lt_of_le B2.lt hg_)
         have q_g3_g6 := Nat.ne_of_lt (Nat.lt_of_lt_of_le B3.lt hg_)
         have q_g4_g6 := Nat.ne_of_lt (Nat.lt_of_lt_of_le B4.lt hg_)
         have q_g5_g6 := Nat.ne_of_lt (Nat.lt_of_lt_of_le B5.lt hg_)
         have lo_g6 := Nat.le_trans (H18).size hg_
         refine wput #[.int .u64 ((cvoS Fd c_ (1 + p1) (1 + p2)).1), .int .u64 ((cvoS Fd c_ (1 + p1) (1 + p2)).2)] row_impl_Cells B6 (by rfl) (by rfl) (by as_aux_lemma => kernel_rfl) ?_
         intro w29 B6_ X3
         clear B6; have B6 := B6_; clear B6_
         refine wv (.int .i64 4) ?_
         refine wpList_nil (then_normal ?_)
         refine wsr ?_
         replace B1 := X3.blk (B1.ext E26) q_g1_g6
         refine wrow row_impl_Field B1 (by exact Fld.size_cells _) ?_
         refine wv (.int .i64 c_) ?_
         refine wv (.int .i64 (1 + p1)) ?_
         refine wv (.int .i64 (1 + p2)) ?_
         refine wcl (sCoverOf_4 Fd hF_ (1 + p1) (1 + p2) x_ y_ hP_ c_ hc_ h17 _) ?_
         intro w30 E27
         refine wv (.tuple #[.agg #[.int .u64 ((cvoS Fd c_ (1 + p1) (1 + p2)).1), .int .u64 ((cvoS Fd c_ (1 + p1) (1 + p2)).2)], .int .i64 4]) ?_
         refine wv (.agg #[.int .u64 ((cvoS Fd c_ (1 + p1) (1 + p2)).1), .int .u64 ((cvoS Fd c_ (1 + p1) (1 + p2)).2)]) ?_
         refine wv (.int .i64 4) ?_
         have H19 := (X3.ext w lo_g6 (H18.trans E26)).trans E27
         replace B1 := B1.ext E27
         replace B2 := (X3.blk (B2.ext E26) q_g2_g6).ext E27
         replace B3 := (X3.blk (B3.ext E26) q_g3_g6).ext E27
         replace B4 := (X3.blk (B4.ext E26) q_g4_g6).ext E27
         replace B5 := (X3.blk (B5.ext E26) q_g5_g6).ext E27
         replace B6 := B6.ext E27
         refine wnew #[.int .u64 0, .int .u64 0] Try.zeroValue33 rfl ?_
         intro g7 w31 B7 E28 hg_
         have q_g1_g7 := Nat.ne_of_lt (Nat.lt_of_lt_of_le B1.lt hg_)
         have q_g2_g7 := Nat.ne_of_lt (Nat.lt_of_lt_of_le B2.lt hg_)
         have q_g3_g7 := Nat.ne_of_lt (Nat.lt_of_lt_of_le B3.lt hg_)
         have q_g4_g7 := Nat.ne_of_lt (Nat.lt_of_lt_of_le B4.lt hg_)
         have q_g5_g7 := Nat.ne_of_lt (Nat.lt_of_lt_of_le B5.lt hg_)
         have q_g6_g7 := Nat.ne_of_lt (Nat.lt_of_lt_of_le B6.lt hg_)
         have lo_g7 := Nat.le_trans (H19).size hg_
         refine wput #[.int .u64 ((cvoS Fd c_ (1 + p1) (1 + p2)).1), .int .u64 ((cvoS Fd c_ (1 + p1) (1 + p2)).2)] row_impl_Cells B7 (by rfl) (by rfl) (by as_aux_lemma => kernel_rfl) ?_
         intro w32 B7_ X4
         clear B7; have B7 := B7_; clear B7_
         refine wv (.int .i64 4) ?_
         refine wpList_nil (then_normal ?_)
         refine wsr ?_
         replace B1 := X4.blk (B1.ext E28) q_g1_g7
         refine wrow row_impl_Field B1 (by exact Fld.size_cells _) ?_
         refine wv (.int .i64 c_) ?_
         refine wv (.int .i64 (1 + p1)) ?_
         refine wv (.int .i64 (1 + p2)) ?_
         refine wcl (iCoverersOf_ok Fd hF_ (1 + p1) (1 + p2) x_ y_ hP_ c_ hc_ _) ?_
         intro w33 E29
         refine wv (.tuple #[.agg #[.int .u64 ((cvrS Fd c_ (1 + p1) (1 + p2)).1), .int .u64 ((cvrS Fd c_ (1 + p1) (1 + p2)).2)], .int .i64 0]) ?_
         refine wv (.agg #[.int .u64 ((cvrS Fd c_ (1 + p1) (1 + p2)).1), .int .u64 ((cvrS Fd c_ (1 + p1) (1 + p2)).2)]) ?_
         refine wv (.int .i64 0) ?_
         have H20 := (X4.ext w lo_g7 (H19.trans E28)).trans E29
         replace B1 := B1.ext E29
         replace B2 := (X4.blk (B2.ext E28) q_g2_g7).ext E29
         replace B3 := (X4.blk (B3.ext E28) q_g3_g7).ext E29
         replace B4 := (X4.blk (B4.ext E28) q_g4_g7).ext E29
         replace B5 := (X4.blk (B5.ext E28) q_g5_g7).ext E29
         replace B6 := (X4.blk (B6.ext E28) q_g6_g7).ext E29
         replace B7 := B7.ext E29
         refine wnew #[.int .u64 0, .int .u64 0] Try.zeroValue33 rfl ?_
         intro g8 w34 B8 E30 hg_
         have q_g1_g8 := Nat.ne_of_lt (Nat.lt_of_lt_of_le B1.lt hg_)
         have q_g2_g8 := Nat.ne_of_lt (Nat.lt_of_lt_of_le B2.lt hg_)
         have q_g3_g8 := Nat.ne_of_lt (Nat.lt_of_lt_of_le B3.lt hg_)
         have q_g4_g8 := Nat.ne_of_lt (Nat.lt_of_lt_of_le B4.lt hg_)
         have q_g5_g8 := Nat.ne_of_lt (Nat.lt_of_lt_of_le B5.lt hg_)
         have q_g6_g8 := Nat.ne_of_lt (Nat.lt_of_lt_of_le B6.lt hg_)
         have q_g7_g8 := Nat.ne_of_lt (Nat.lt_of_lt_of_le B7.lt hg_)
         have lo_g8 := Nat.le_trans (H20).size hg_
         refine wput #[.int .u64 ((cvrS Fd c_ (1 + p1) (1 + p2)).1), .int .u64 ((cvrS Fd c_ (1 + p1) (1 + p2)).2)] row_impl_Cells B8 (by rfl) (by rfl) (by as_aux_lemma => kernel_rfl) ?_
         intro w35 B8_ X5
         clear B8; have B8 := B8_; clear B8_
         refine wv (.int .i64 0) ?_
         refine wpList_nil (then_normal ?_)
         refine wp_forget (f := fun J10 => ⟨#[v, v2, undef, undef, J7 4, .pointer (some ⟨g1, 0, none⟩), J7 6, .int .i64 (1 + p1), .int .i64 (1 + p2), u1, J6 10, J7 11, J3 12, u2, J3 14, J7 15, J7 16, J3 17, J3 18, u3, J3 20, J7 21, J3 22, J3 23, J3 24, J7 25, J5 26, J7 27, J7 28, J7 29, J7 30, J7 31, J7 32, .int .i64 c_, .pointer (some ⟨g6, 0, none⟩), .int .i64 4, .pointer (some ⟨g7, 0, none⟩), .int .i64 4, .pointer (some ⟨g8, 0, none⟩), .int .i64 0, undef, undef, undef, undef, undef, v, J1 46, J1 47, v2, J1 49, J1 50, v, J1 52, v2, J1 54, v2, J1 56, J1 57, v, J1 59, J1 60, J1 61, J1 62, J1 63, J1 64, J1 65, J1 66, u1, J1 68, J2 69, J2 70, J2 71, J2 72, J2 73, J2 74, J2 75, J2 76, J2 77, J2 78, J2 79, J2 80, J2 81, J2 82, u2, J2 84, J2 85, J2 86, J2 87, J2 88, J2 89, J2 90, J2 91, J2 92, J2 93, J2 94, J3 95, J3 96, J3 97, J3 98, J3 99, J3 100, u3, J3 102, J3 103, J3 104, J3 105, J3 106, J3 107, J3 108, J3 109, J3 110, J3 111, J3 112, J3 113, J3 114, J3 115, J3 116, J3 117, J3 118, J3 119, J3 120, J3 121, J3 122, u1, J3 124, J3 125, J3 126, J3 127, J3 128, J3 129, J3 130, J3 131, J3 132, J3 133, u2, J3 135, J3 136, J3 137, J3 138, J3 139, J3 140, J3 141, J3 142, J3 143, J3 144, J3 145, J3 146, J3 147, J3 148, J3 149, J3 150, J3 151, J3 152, J3 153, u3, J3 155, J3 156, J3 157, J3 158, J3 159, J3 160, J3 161, J3 162, J3 163, J3 164, J3 165, J4 166, J5 167, J5 168, J4 169, J4 170, J4 171, J4 172, J4 173, J4 174, J4 175, J4 176, J4 177, J4 178, J4 179, J4 180, J5 181, J5 182, J5 183, J5 184, J5 185, J5 186, J5 187, J5 188, J5 189, J5 190, J5 191, J5 192, J5 193, J6 194, J6 195, J6 196, J6 197, J6 198, J6 199, J6 200, J6 201, J6 202, J6 203, J7 204, J7 205, J7 206, J7 207, J7 208, J7 209, J7 210, J7 211, J7 212, J7 213, J7 214, J7 215, J7 216, J7 217, J7 218, J7 219, J7 220, J7 221, J7 222, J7 223, J7 224, J7 225, J7 226, J7 227, J7 228, J7 229, J7 230, J7 231, J7 232, J7 233, J7 234, J7 235, J7 236, J7 237, J7 238, J7 239, J7 240, J7 241, J7 242, J7 243, J7 244, J7 245, J7 246, J7 247, J7 248, J7 249, J7 250, J7 251, J7 252, J7 253, J7 254, J7 255, J7 256, J7 257, J7 258, J7 259, J7 260, J7 261, J7 262, J7 263, J7 264, J7 265, J7 266, J7 267, J7 268, J7 269, J7 270, J7 271, J7 272, J7 273, J7 274, J7 275, J7 276, J7 277, J7 278, J7 279, J7 280, J7 281, J7 282, v2, J10 284, J10 285, J10 286, J10 287, J10 288, J10 289, J10 290, J10 291, J10 292, J10 293, J10 294, J10 295, J10 296, J10 297, J10 298, J10 299, J10 300, J10 301, J10 302, J10 303, J10 304, J10 305, J10 306, J10 307, J10 308, J10 309, undef, undef, undef, undef, undef, undef, undef, undef, undef, undef, undef, undef, undef, undef, undef, undef, undef, undef, undef, undef, undef, undef, undef, undef, undef, undef, undef, undef, undef, undef, undef, undef, undef, undef, undef, undef, undef, undef, undef, undef, undef, undef, undef, undef, undef, undef, undef, undef, undef, undef, undef, undef, undef, undef, undef, undef, undef, undef, undef, undef, undef, undef, undef, undef, undef, undef, undef, undef, undef, undef, undef, undef, undef, undef, undef, undef, undef], []⟩) (by as_aux_lemma => kernel_rfl) (fun J10 => ?_)
         refine wsr ?_
         replace B1 := X5.blk (B1.ext E30) q_g1_g8
         refine wrow row_impl_Field B1 (by exact Fld.size_cells _) ?_
         refine wv (.int .i64 c_) ?_
         refine wv (.int .i64 (1 + p1)) ?_
         refine wv (.int .i64 (1 + p2)) ?_
         refine wcl (sCoverersOf_ok Fd hF_ (1 + p1) (1 + p2) x_ y_ hP_ c_ hc_ _) ?_
         intro w36 E31
         refine wv (.tuple #[.agg #[.int .u64 ((cvrS Fd c_ (1 + p1) (1 + p2)).1), .int .u64 ((cvrS Fd c_ (1 + p1) (1 + p2)).2)], .int .i64 0]) ?_
         refine wv (.agg #[.int .u64 ((cvrS Fd c_ (1 + p1) (1 + p2)).1), .int .u64 ((cvrS Fd c_ (1 + p1) (1 + p2)).2)]) ?_
         refine wv (.int .i64 0) ?_
         have H21 := (X5.ext w lo_g8 (H20.trans E30)).trans E31
         replace B1 := B1.ext E31
         replace B2 := (X5.blk (B2.ext E30) q_g2_g8).ext E31
         replace B3 := (X5.blk (B3.ext E30) q_g3_g8).ext E31
         replace B4 := (X5.blk (B4.ext E30) q_g4_g8).ext E31
         replace B5 := (X5.blk (B5.ext E30) q_g5_g8).ext E31
         replace B6 := (X5.blk (B6.ext E30) q_g6_g8).ext E31
         replace B7 := (X5.blk (B7.ext E30) q_g7_g8).ext E31
         replace B8 := B8.ext E31
         refine wnew #[.int .u64 0, .int .u64 0] Try.zeroValue33 rfl ?_
         intro g9 w37 B9 E32 hg_
         have q_g1_g9 := Nat.ne_of_lt (Nat.lt_of_lt_of_le B1.lt hg_)
         have q_g2_g9 := Nat.ne_of_lt (Nat.lt_of_lt_of_le B2.lt hg_)
         have q_g3_g9 := Nat.ne_of_lt (Nat.lt_of_lt_of_le B3.lt hg_)
         have q_g4_g9 := Nat.ne_of_lt (Nat.lt_of_lt_of_le B4.lt hg_)
         have q_g5_g9 := Nat.ne_of_lt (Nat.lt_of_lt_of_le B5.lt hg_)
         have q_g6_g9 := Nat.ne_of_lt (Nat.lt_of_lt_of_le B6.lt hg_)
         have q_g7_g9 := Nat.ne_of_lt (Nat.lt_of_lt_of_le B7.lt hg_)
         have q_g8_g9 := Nat.ne_of_lt (Nat.lt_of_lt_of_le B8.lt hg_)
         have lo_g9 := Nat.le_trans (H21).size hg_
         refine wput #[.int .u64 ((cvrS Fd c_ (1 + p1) (1 + p2)).1), .int .u64 ((cvrS Fd c_ (1 + p1) (1 + p2)).2)] row_impl_Cells B9 (by rfl) (by rfl) (by as_aux_lemma => kernel_rfl) ?_
         intro w38 B9_ X6
         clear B9; have B9 := B9_; clear B9_
         refine wv (.int .i64 0) ?_
         refine wpList_nil (then_normal ?_)
         refine wp_seq ?_
         refine wsr ?_
         refine wv (.int .i64 4) ?_
         refine wv (.int .i64 4) ?_
         refine wvv (.bool (4 != 4)) (.bool false) (by simp) ?_
         refine wv (.bool false) ?_
         replace B6 := X6.blk (B6.ext E32) q_g6_g9
         refine wrow row_impl_Cells B6 (by rfl) ?_
         replace B7 := X6.blk (B7.ext E32) q_g7_g9
         refine wrow row_impl_Cells B7 (by rfl) ?_
         refine wneA duot_impl_Cells.eg (equalIn_duo duot_impl_Cells 9998 ((cvoS Fd c_ (1 + p1) (1 + p2)).1) ((cvoS Fd c_ (1 + p1) (1 + p2)).2) ((cvoS Fd c_ (1 + p1) (1 + p2)).1) ((cvoS Fd c_ (1 + p1) (1 + p2)).2)) ?_
         refine wbl 324 false (bnT (eq2_s ((cvoS Fd c_ (1 + p1) (1 + p2)).1) ((cvoS Fd c_ (1 + p1) (1 + p2)).2))) ?_
         refine wv (.bool false) ?_
         refine wv (.bool false) ?_
         refine wv (.int .i64 0) ?_
         refine wv (.int .i64 0) ?_
         refine wvv (.bool (0 != 0)) (.bool false) (by simp) ?_
         refine wv (.bool false) ?_
         refine wv (.bool false) ?_
         refine wv (.int .i64 0) ?_
         refine wvv (.bool (0 != 0)) (.bool false) (by simp) ?_
         refine wv (.bool false) ?_
         refine wv (.bool false) ?_
         replace B8 := X6.blk (B8.ext E32) q_g8_g9
         refine wrow row_impl_Cells B8 (by rfl) ?_
         refine wrow row_impl_Cells B9 (by rfl) ?_
         refine wneA duot_impl_Cells.eg (equalIn_duo duot_impl_Cells 9998 ((cvrS Fd c_ (1 + p1) (1 + p2)).1) ((cvrS Fd c_ (1 + p1) (1 + p2)).2) ((cvrS Fd c_ (1 + p1) (1 + p2)).1) ((cvrS Fd c_ (1 + p1) (1 + p2)).2)) ?_
         refine wbl 338 false (bnT (eq2_s ((cvrS Fd c_ (1 + p1) (1 + p2)).1) ((cvrS Fd c_ (1 + p1) (1 + p2)).2))) ?_
         refine wv (.bool false) ?_
         refine wv (.bool false) ?_
         refine wv (.int .i64 4) ?_
         refine wv (.bool false) ?_
         refine wv (.int .i64 c_) ?_
         refine wv (.pointer (some ⟨g1, 2, none⟩)) ?_
         refine wix g1 2 c_ .i64 arrt__100_uint8 ?_
         replace B1 := X6.blk (B1.ext E32) q_g1_g9
         refine wld g1 (2 + (c_).toNat) scal_uint8 (B1.get (Fld.getk _ _ (by omega))) ?_
         refine wv (.bool ((Fd.k ((c_).toNat)) != 3)) ?_
         refine wbl 347 false (bneF h17) ?_
         refine wv (.bool false) ?_
         refine wv (.bool false) ?_
         refine wpList_nil (then_normal ?_)
         refine wp_forget (f := fun J11 => ⟨#[v, v2, undef, undef, J7 4, .pointer (some ⟨g1, 0, none⟩), J7 6, .int .i64 (1 + p1), .int .i64 (1 + p2), u1, J6 10, J7 11, J3 12, u2, J3 14, J7 15, J7 16, J3 17, J3 18, u3, J3 20, J7 21, J3 22, J3 23, J3 24, J7 25, J5 26, J7 27, J7 28, J7 29, J7 30, J7 31, J7 32, .int .i64 c_, J11 34, J11 35, J11 36, J11 37, J11 38, J11 39, .pointer (some ⟨g9, 0, none⟩), J11 41, undef, undef, undef, v, J1 46, J1 47, v2, J1 49, J1 50, v, J1 52, v2, J1 54, v2, J1 56, J1 57, v, J1 59, J1 60, J1 61, J1 62, J1 63, J1 64, J1 65, J1 66, u1, J1 68, J2 69, J2 70, J2 71, J2 72, J2 73, J2 74, J2 75, J2 76, J2 77, J2 78, J2 79, J2 80, J2 81, J2 82, u2, J2 84, J2 85, J2 86, J2 87, J2 88, J2 89, J2 90, J2 91, J2 92, J2 93, J2 94, J3 95, J3 96, J3 97, J3 98, J3 99, J3 100, u3, J3 102, J3 103, J3 104, J3 105, J3 106, J3 107, J3 108, J3 109, J3 110, J3 111, J3 112, J3 113, J3 114, J3 115, J3 116, J3 117, J3 118, J3 119, J3 120, J3 121, J3 122, u1, J3 124, J3 125, J3 126, J3 127, J3 128, J3 129, J3 130, J3 131, J3 132, J3 133, u2, J3 135, J3 136, J3 137, J3 138, J3 139, J3 140, J3 141, J3 142, J3 143, J3 144, J3 145, J3 146, J3 147, J3 148, J3 149, J3 150, J3 151, J3 152, J3 153, u3, J3 155, J3 156, J3 157, J3 158, J3 159, J3 160, J3 161, J3 162, J3 163, J3 164, J3 165, J4 166, J5 167, J5 168, J4 169, J4 170, J4 171, J4 172, J4 173, J4 174, J4 175, J4 176, J4 177, J4 178, J4 179, J4 180, J5 181, J5 182, J5 183, J5 184, J5 185, J5 186, J5 187, J5 188, J5 189, J5 190, J5 191, J5 192, J5 193, J6 194, J6 195, J6 196, J6 197, J6 198, J6 199, J6 200, J6 201, J6 202, J6 203, J7 204, J7 205, J7 206, J7 207, J7 208, J7 209, J7 210, J7 211, J7 212, J7 213, J7 214, J7 215, J7 216, J7 217, J7 218, J7 219, J7 220, J7 221, J7 222, J7 223, J7 224, J7 225, J7 226, J7 227, J7 228, J7 229, J7 230, J7 231, J7 232, J7 233, J7 234, J7 235, J7 236, J7 237, J7 238, J7 239, J7 240, J7 241, J7 242, J7 243, J7 244, J7 245, J7 246, J7 247, J7 248, J7 249, J7 250, J7 251, J7 252, J7 253, J7 254, J7 255, J7 256, J7 257, J7 258, J7 259, J7 260, J7 261, J7 262, J7 263, J7 264, J7 265, J7 266, J7 267, J7 268, J7 269, J7 270, J7 271, J7 272, J7 273, J7 274, J7 275, J7 276, J7 277, J7 278, J7 279, J7 280, J7 281, J7 282, v2, J11 284, J11 285, J11 286, J11 287, J11 288, J11 289, J11 290, J11 291, J11 292, J11 293, J11 294, J11 295, J11 296, J11 297, J11 298, J11 299, J11 300, J11 301, J11 302, J11 303, J11 304, J11 305, J11 306, J11 307, J11 308, J11 309, J11 310, J11 311, J11 312, J11 313, J11 314, J11 315, J11 316, J11 317, J11 318, J11 319, J11 320, J11 321, J11 322, J11 323, J11 324, J11 325, J11 326, J11 327, J11 328, J11 329, J11 330, J11 331, J11 332, J11 333, J11 334, J11 335, J11 336, J11 337, J11 338, J11 339, J11 340, J11 341, J11 342, J11 343, J11 344, J11 345, J11 346, J11 347, J11 348, .bool false, undef, undef, undef, undef, undef, undef, undef, undef, undef, undef, undef, undef, undef, undef, undef, undef, undef, undef, undef, undef, undef, undef, undef, undef, undef, undef, undef, undef, undef, undef, undef, undef, undef, undef, undef, undef, undef], []⟩) (by as_aux_lemma => kernel_rfl) (fun J11 => ?_)
         refine wcf ?_
         refine wp_skip ?_
         refine then_normal ?_
         refine wp_seq ?_
         refine wsr ?_
         refine wv (.int .i64 0) ?_
         refine wpList_nil (then_normal ?_)
         refine wp_block ?_
         replace B2 := X6.blk (B2.ext E32) q_g2_g9
         replace B3 := X6.blk (B3.ext E32) q_g3_g9
         replace B4 := X6.blk (B4.ext E32) q_g4_g9
         replace B5 := X6.blk (B5.ext E32) q_g5_g9
         have H22 := X6.ext w lo_g9 (H21.trans E32)
         refine wp_loop_k (fun m2 a wl2 => ∃ (q : Nat), m2 = 100 - q ∧ q ≤ 100 ∧ Ext w wl2 ∧ Blk wl2 g1 29 Fd.cells ∧ Blk wl2 g2 33 #[.int .u64 x_, .int .u64 y_] ∧ Blk wl2 g3 2 cs1 ∧ Blk wl2 g4 2 cs2 ∧ Blk wl2 g5 2 cs3 ∧ Blk wl2 g6 33 #[.int .u64 ((cvoS Fd c_ (1 + p1) (1 + p2)).1), .int .u64 ((cvoS Fd c_ (1 + p1) (1 + p2)).2)] ∧ Blk wl2 g7 33 #[.int .u64 ((cvoS Fd c_ (1 + p1) (1 + p2)).1), .int .u64 ((cvoS Fd c_ (1 + p1) (1 + p2)).2)] ∧ Blk wl2 g8 33 #[.int .u64 ((cvrS Fd c_ (1 + p1) (1 + p2)).1), .int .u64 ((cvrS Fd c_ (1 + p1) (1 + p2)).2)] ∧ Blk wl2 g9 33 #[.int .u64 ((cvrS Fd c_ (1 + p1) (1 + p2)).1), .int .u64 ((cvrS Fd c_ (1 + p1) (1 + p2)).2)] ∧ (∃ J12 : Nat → Value, a = ⟨#[v, v2, undef, undef, J12 4, .pointer (some ⟨g1, 0, none⟩), J7 6, .int .i64 (1 + p1), .int .i64 (1 + p2), u1, J6 10, J7 11, J3 12, u2, J3 14, J7 15, J7 16, J3 17, J3 18, u3, J3 20, J7 21, J3 22, J3 23, J3 24, J7 25, J5 26, J7 27, J7 28, J7 29, J7 30, J7 31, J7 32, .int .i64 c_, J11 34, J11 35, J11 36, J11 37, J11 38, J11 39, .pointer (some ⟨g9, 0, none⟩), J11 41, .int .i64 (q : Int), J12 43, J12 44, v, J1 46, J1 47, v2, J1 49, J1 50, v, J1 52, v2, J1 54, v2, J1 56, J1 57, v, J1 59, J1 60, J1 61, J1 62, J1 63, J1 64, J1 65, J1 66, u1, J1 68, J2 69, J2 70, J2 71, J2 72, J2 73, J2 74, J2 75, J2 76, J2 77, J2 78, J2 79, J2 80, J2 81, J2 82, u2, J2 84, J2 85, J2 86, J2 87, J2 88, J2 89, J2 90, J2 91, J2 92, J2 93, J2 94, J3 95, J3 96, J3 97, J3 98, J3 99, J3 100, u3, J3 102, J3 103, J3 104, J3 105, J3 106, J3 107, J3 108, J3 109, J3 110, J3 111, J3 112, J3 113, J3 114, J3 115, J3 116, J3 117, J3 118, J3 119, J3 120, J3 121, J3 122, u1, J3 124, J3 125, J3 126, J3 127, J3 128, J3 129, J3 130, J3 131, J3 132, J3 133, u2, J3 135, J3 136, J3 137, J3 138, J3 139, J3 140, J3 141, J3 142, J3 143, J3 144, J3 145, J3 146, J3 147, J3 148, J3 149, J3 150, J3 151, J3 152, J3 153, u3, J3 155, J3 156, J3 157, J3 158, J3 159, J3 160, J3 161, J3 162, J3 163, J3 164, J3 165, J4 166, J5 167, J5 168, J4 169, J4 170, J4 171, J4 172, J4 173, J4 174, J4 175, J4 176, J4 177, J4 178, J4 179, J4 180, J5 181, J5 182, J5 183, J5 184, J5 185, J5 186, J5 187, J5 188, J5 189, J5 190, J5 191, J5 192, J5 193, J6 194, J6 195, J6 196, J6 197, J6 198, J6 199, J6 200, J6 201, J6 202, J6 203, J7 204, J7 205, J7 206, J7 207, J7 208, J7 209, J7 210, J7 211, J7 212, J7 213, J7 214, J7 215, J7 216, J7 217, J7 218, J7 219, J7 220, J7 221, J7 222, J7 223, J7 224, J7 225, J7 226, J7 227, J7 228, J7 229, J7 230, J7 231, J7 232, J7 233, J7 234, J7 235, J7 236, J7 237, J7 238, J7 239, J7 240, J7 241, J7 242, J7 243, J7 244, J7 245, J7 246, J7 247, J7 248, J7 249, J7 250, J7 251, J7 252, J7 253, J7 254, J7 255, J7 256, J7 257, J7 258, J7 259, J7 260, J7 261, J7 262, J7 263, J7 264, J7 265, J7 266, J7 267, J7 268, J7 269, J7 270, J7 271, J7 272, J7 273, J7 274, J7 275, J7 276, J7 277, J7 278, J7 279, J7 280, J7 281, J7 282, v2, J12 284, J12 285, J12 286, J12 287, J12 288, J12 289, J12 290, J12 291, J12 292, J12 293, J12 294, J12 295, J12 296, J12 297, J12 298, J12 299, J12 300, J12 301, J12 302, J12 303, J12 304, J12 305, J12 306, J12 307, J12 308, J12 309, J12 310, J12 311, J12 312, J12 313, J12 314, J12 315, J12 316, J12 317, J12 318, J12 319, J12 320, J12 321, J12 322, J12 323, J12 324, J12 325, J12 326, J12 327, J12 328, J12 329, J12 330, J12 331, J12 332, J12 333, J12 334, J12 335, J12 336, J12 337, J12 338, J12 339, J12 340, J12 341, J12 342, J12 343, J12 344, J12 345, J12 346, J12 347, J12 348, J12 349, J12 350, J12 351, J12 352, J12 353, J12 354, J12 355, J12 356, J12 357, J12 358, J12 359, J12 360, J12 361, J12 362, J12 363, J12 364, J12 365, J12 366, J12 367, J12 368, J12 369, J12 370, J12 371, J12 372, J12 373, J12 374, J12 375, J12 376, J12 377, J12 378, J12 379, J12 380, J12 381, J12 382, J12 383, J12 384, J12 385, J12 386], []⟩)) (100) ?_ ?_
         ·refine ⟨0, rfl, ?_, H22, B1, B2, B3, B4, B5, B6, B7, B8, B9, exJ (by as_aux_lemma => kernel_rfl)⟩
          ·omega
         intro m2 a wl2 hI
         obtain ⟨q, rfl, hi_, HL2, B1, B2, B3, B4, B5, B6, B7, B8, B9, J12, rfl⟩ := hI
         refine wp_seq ?_
         refine wsr ?_
         refine wv (.int .i64 (q : Int)) ?_
         refine wv (.bool (decide ((q : Int) < 100))) ?_
         refine wpList_nil (then_normal ?_)
         refine wsplit (decide ((q : Int) < 100)) (fun h18 => ?_) (fun h18 => ?_)
         ·skip
          have h18d := dT h18
          refine wp_skip ?_
          refine then_normal ?_
          refine wp_seq ?_
          refine wp_block ?_
          refine wp_seq ?_
          refine wsr ?_
          refine wrow row_impl_Field B1 (by exact Fld.size_cells _) ?_
          refine wv (.int .i64 (q : Int)) ?_
          refine wcl (IsCell_any Fd hF_ (q : Int) _) ?_
          intro w39 E33
          refine wv (.bool (!(isB Fd (q : Int)))) ?_
          refine wv (.bool (!(isB Fd (q : Int)))) ?_
          have H23 := HL2.trans E33
          refine split_bool (isB Fd (q : Int)) (fun h19 => ?_) (fun h19 => ?_)
          ·skip
           refine wbl 358 false (bnT h19) ?_
           have h19d := isB_true.1 h19
           refine wv (.int .i64 (q : Int)) ?_
           refine wv (.pointer (some ⟨g1, 2, none⟩)) ?_
           refine wixn g1 2 q .i64 arrt__100_uint8 ?_
           replace B1 := B1.ext E33
           refine wld g1 (2 + q) scal_uint8 (B1.get (Fld.getk _ _ (by omega))) ?_
           refine wv (.bool ((Fd.k q) == 3)) ?_
           refine wv (.bool ((Fd.k q) == 3)) ?_
           refine wpList_nil (then_normal ?_)
           refine wsplit ((Fd.k q) == 3) (fun h20 => ?_) (fun h20 => ?_)
           ·skip
            have h20d := eT h20
            refine wp_seq ?_
            refine wsr ?_
            replace B9 := B9.ext E33
            refine wrow row_impl_Cells B9 (by rfl) ?_
            refine wv (.int .i64 (q : Int)) ?_
            refine wcl (sHasCell_any ((cvrS Fd c_ (1 + p1) (1 + p2)).1) ((cvrS Fd c_ (1 + p1) (1 + p2)).2) (q : Int) _) ?_
            intro w40 E34
            refine wpList_nil (then_normal ?_)
            have H24 := H23.trans E34
            refine wsplit (hasB ((cvrS Fd c_ (1 + p1) (1 + p2)).1) ((cvrS Fd c_ (1 + p1) (1 + p2)).2) (q : Int)) (fun h21 => ?_) (fun h21 => ?_)
            ·skip
             exfalso; rw [hP_.cvr_3 hc_ (by omega) (by assumption)] at h21; exact absurd h21 (by decide)
            ·skip
             refine wp_skip ?_
             refine then_normal ?_
             refine wp_exit ?_
             refine then_exit ?_
             refine block_exit ?_
             refine then_normal ?_
             refine wp_region_lit ?_
             refine wv (.int .i64 (q : Int)) ?_
             refine wi64 ((q : Int) + 1) ?_
             refine wv (.int .i64 ((q : Int) + 1)) ?_
             refine wpList_nil (then_normal ?_)
             replace B1 := B1.ext E34
             replace B2 := (B2.ext E33).ext E34
             replace B3 := (B3.ext E33).ext E34
             replace B4 := (B4.ext E33).ext E34
             replace B5 := (B5.ext E33).ext E34
             replace B6 := (B6.ext E33).ext E34
             replace B7 := (B7.ext E33).ext E34
             replace B8 := (B8.ext E33).ext E34
             replace B9 := B9.ext E34
             refine ⟨_, ?_, q + 1, rfl, ?_, H24, B1, B2, B3, B4, B5, B6, B7, B8, B9, exJ (by as_aux_lemma => kernel_rfl)⟩
             ·omega
             ·omega
           ·skip
            have h20d := eF h20
            refine wp_skip ?_
            refine then_normal ?_
            refine wsr ?_
            refine wrow row_impl_Field B1 (by exact Fld.size_cells _) ?_
            refine wv (.int .i64 (q : Int)) ?_
            refine wv (.int .i64 (1 + p1)) ?_
            refine wv (.int .i64 (1 + p2)) ?_
            refine split_bool (Fd.k q == 3) (fun h22 => ?_) (fun h22 => ?_)
            ·skip
             have h22d := eT h22
             refine wcl (iCoverOf_4 Fd hF_ (1 + p1) (1 + p2) x_ y_ hP_ (q : Int) h19 h22 _) ?_
             intro w41 E35
             refine wv (.tuple #[.agg #[.int .u64 ((cvoS Fd (q : Int) (1 + p1) (1 + p2)).1), .int .u64 ((cvoS Fd (q : Int) (1 + p1) (1 + p2)).2)], .int .i64 4]) ?_
             refine wv (.agg #[.int .u64 ((cvoS Fd (q : Int) (1 + p1) (1 + p2)).1), .int .u64 ((cvoS Fd (q : Int) (1 + p1) (1 + p2)).2)]) ?_
             refine wv (.int .i64 4) ?_
             have H25 := H23.trans E35
             replace B1 := B1.ext E35
             replace B2 := (B2.ext E33).ext E35
             replace B3 := (B3.ext E33).ext E35
             replace B4 := (B4.ext E33).ext E35
             replace B5 := (B5.ext E33).ext E35
             replace B6 := (B6.ext E33).ext E35
             replace B7 := (B7.ext E33).ext E35
             replace B8 := (B8.ext E33).ext E35
             replace B9 := (B9.ext E33).ext E35
             refine wnew #[.int .u64 0, .int .u64 0] Try.zeroValue33 rfl ?_
             intro g10 w42 B10 E36 hg_
             have q_g1_g10 := Nat.ne_of_lt (Nat.lt_of_lt_of_le B1.lt hg_)
             have q_g2_g10 := Nat.ne_of_lt (Nat.lt_of_lt_of_le B2.lt hg_)
             have q_g3_g10 := Nat.ne_of_lt (Nat.lt_of_lt_of_le B3.lt hg_)
             have q_g4_g10 := Nat.ne_of_lt (Nat.lt_of_lt_of_le B4.lt hg_)
             have q_g5_g10 := Nat.ne_of_lt (Nat.lt_of_lt_of_le B5.lt hg_)
             have q_g6_g10 := Nat.ne_of_lt (Nat.lt_of_lt_of_le B6.lt hg_)
             have q_g7_g10 := Nat.ne_of_lt (Nat.lt_of_lt_of_le B7.lt hg_)
             have q_g8_g10 := Nat.ne_of_lt (Nat.lt_of_lt_of_le B8.lt hg_)
             have q_g9_g10 := Nat.ne_of_lt (Nat.lt_of_lt_of_le B9.lt hg_)
             have lo_g10 := Nat.le_trans (H25).size hg_
             refine wput #[.int .u64 ((cvoS Fd (q : Int) (1 + p1) (1 + p2)).1), .int .u64 ((cvoS Fd (q : Int) (1 + p1) (1 + p2)).2)] row_impl_Cells B10 (by rfl) (by rfl) (by as_aux_lemma => kernel_rfl) ?_
             intro w43 B10_ X7
             clear B10; have B10 := B10_; clear B10_
             refine wv (.int .i64 4) ?_
             refine wpList_nil (then_normal ?_)
             refine wp_seq ?_
             refine wp_frame (a' := ⟨#[v, v2, undef, undef, J12 4, .pointer (some ⟨g1, 0, none⟩), J7 6, .int .i64 (1 + p1), .int .i64 (1 + p2), u1, J6 10, J7 11, J3 12, u2, J3 14, J7 15, J7 16, J3 17, J3 18, u3, J3 20, J7 21, J3 22, J3 23, J3 24, J7 25, J5 26, J7 27, J7 28, J7 29, J7 30, J7 31, J7 32, .int .i64 c_, J11 34, J11 35, J11 36, J11 37, J11 38, J11 39, .pointer (some ⟨g9, 0, none⟩), J11 41, .int .i64 (q : Int), .pointer (some ⟨g10, 0, none⟩), .int .i64 4, v, J1 46, J1 47, v2, J1 49, J1 50, v, J1 52, v2, J1 54, v2, J1 56, J1 57, v, J1 59, J1 60, J1 61, J1 62, J1 63, J1 64, J1 65, J1 66, u1, J1 68, J2 69, J2 70, J2 71, J2 72, J2 73, J2 74, J2 75, J2 76, J2 77, J2 78, J2 79, J2 80, J2 81, J2 82, u2, J2 84, J2 85, J2 86, J2 87, J2 88, J2 89, J2 90, J2 91, J2 92, J2 93, J2 94, J3 95, J3 96, J3 97, J3 98, J3 99, J3 100, u3, J3 102, J3 103, J3 104, J3 105, J3 106, J3 107, J3 108, J3 109, J3 110, J3 111, J3 112, J3 113, J3 114, J3 115, J3 116, J3 117, J3 118, J3 119, J3 120, J3 121, J3 122, u1, J3 124, J3 125, J3 126, J3 127, J3 128, J3 129, J3 130, J3 131, J3 132, J3 133, u2, J3 135, J3 136, J3 137, J3 138, J3 139, J3 140, J3 141, J3 142, J3 143, J3 144, J3 145, J3 146, J3 147, J3 148, J3 149, J3 150, J3 151, J3 152, J3 153, u3, J3 155, J3 156, J3 157, J3 158, J3 159, J3 160, J3 161, J3 162, J3 163, J3 164, J3 165, J4 166, J5 167, J5 168, J4 169, J4 170, J4 171, J4 172, J4 173, J4 174, J4 175, J4 176, J4 177, J4 178, J4 179, J4 180, J5 181, J5 182, J5 183, J5 184, J5 185, J5 186, J5 187, J5 188, J5 189, J5 190, J5 191, J5 192, J5 193, J6 194, J6 195, J6 196, J6 197, J6 198, J6 199, J6 200, J6 201, J6 202, J6 203, J7 204, J7 205, J7 206, J7 207, J7 208, J7 209, J7 210, J7 211, J7 212, J7 213, J7 214, J7 215, J7 216, J7 217, J7 218, J7 219, J7 220, J7 221, J7 222, J7 223, J7 224, J7 225, J7 226, J7 227, J7 228, J7 229, J7 230, J7 231, J7 232, J7 233, J7 234, J7 235, J7 236, J7 237, J7 238, J7 239, J7 240, J7 241, J7 242, J7 243, J7 244, J7 245, J7 246, J7 247, J7 248, J7 249, J7 250, J7 251, J7 252, J7 253, J7 254, J7 255, J7 256, J7 257, J7 258, J7 259, J7 260, J7 261, J7 262, J7 263, J7 264, J7 265, J7 266, J7 267, J7 268, J7 269, J7 270, J7 271, J7 272, J7 273, J7 274, J7 275, J7 276, J7 277, J7 278, J7 279, J7 280, J7 281, J7 282, v2, J12 284, J12 285, J12 286, J12 287, J12 288, J12 289, J12 290, J12 291, J12 292, J12 293, J12 294, J12 295, J12 296, J12 297, J12 298, J12 299, J12 300, J12 301, J12 302, J12 303, J12 304, J12 305, J12 306, J12 307, J12 308, J12 309, J12 310, J12 311, J12 312, J12 313, J12 314, J12 315, J12 316, J12 317, J12 318, J12 319, J12 320, J12 321, J12 322, J12 323, J12 324, J12 325, J12 326, J12 327, J12 328, J12 329, J12 330, J12 331, J12 332, J12 333, J12 334, J12 335, J12 336, J12 337, J12 338, J12 339, J12 340, J12 341, J12 342, J12 343, J12 344, J12 345, J12 346, J12 347, J12 348, J12 349, .int .i64 (q : Int), .bool (decide ((q : Int) < 100)), J12 352, J12 353, .agg Fd.cells, .int .i64 (q : Int), .bool (isB Fd (q : Int)), .bool (!(isB Fd (q : Int))), .bool false, .int .i64 (q : Int), .pointer (some ⟨g1, 2, none⟩), .pointer (some ⟨g1, 2 + q, none⟩), .int .u8 (Fd.k q), .bool ((Fd.k q) == 3), .bool ((Fd.k q) == 3), J12 365, J12 366, J12 367, .tuple #[.agg #[.int .u64 ((cvoS Fd (q : Int) (1 + p1) (1 + p2)).1), .int .u64 ((cvoS Fd (q : Int) (1 + p1) (1 + p2)).2)], .int .i64 4], .agg Fd.cells, .int .i64 (q : Int), .int .i64 (1 + p1), .int .i64 (1 + p2), .tuple #[.agg #[.int .u64 ((cvoS Fd (q : Int) (1 + p1) (1 + p2)).1), .int .u64 ((cvoS Fd (q : Int) (1 + p1) (1 + p2)).2)], .int .i64 4], .agg #[.int .u64 ((cvoS Fd (q : Int) (1 + p1) (1 + p2)).1), .int .u64 ((cvoS Fd (q : Int) (1 + p1) (1 + p2)).2)], .int .i64 4, J12 376, J12 377, J12 378, J12 379, J12 380, J12 381, J12 382, J12 383, J12 384, J12 385, J12 386], []⟩) (by as_aux_lemma => kernel_rfl) ?_
             replace B9 := X7.blk (B9.ext E36) q_g9_g10
             refine region_go 11 [376, 377, 378, 379, 380, 381, 382, 383, 384, 385, 386] [[], [0], [1], [2], [2], [2, 3, 4], [2], [2], [2, 6, 7], [2, 5, 8], [2, 9]]
              (fun i_ => ([.val (.int .i64 4), .val (.bool true), .val (.bool true), .val undef, .val undef, .val undef, .val undef, .val undef, .val undef, .val undef, .val (.bool true)] : List Fct).getD i_ .any)
              (by as_aux_lemma => kernel_rfl) (by as_aux_lemma => kernel_rfl) (by decide) (by simp) rfl (all_succ (all_succ (all_succ (all_succ (all_succ (all_succ (all_succ (all_succ (all_succ (all_succ (all_succ all_zero ?_) ?_) ?_) ?_) ?_) ?_) ?_) ?_) ?_) ?_) ?_) ?_
             ·refine step0 rfl rfl rfl (fun wr hw => ?_)
              exact OpRun.val (.int .i64 4) (.int .i64 4) (by as_aux_lemma => kernel_rfl) rfl ⟨Ext.refl _, rfl⟩
             ·refine step1 rfl rfl rfl rfl (fun u0 wr hw h0 => ?_)
              cases h0
              exact OpRun.val (.bool true) (.bool true) (by as_aux_lemma => kernel_rfl) rfl ⟨Ext.refl _, rfl⟩
             ·refine step1 rfl rfl rfl rfl (fun u0 wr hw h0 => ?_)
              cases h0
              exact OpRun.val (.bool true) (.bool true) (by as_aux_lemma => kernel_rfl) rfl ⟨Ext.refl _, rfl⟩
             ·refine skip_ rfl rfl rfl (fun u wr h => by cases h; rfl) (fun _ => rfl)
             ·refine skip_ rfl rfl rfl (fun u wr h => by cases h; rfl) (fun _ => rfl)
             ·refine skip_ rfl rfl rfl (fun u wr h => by cases h; rfl) (fun _ => rfl)
             ·refine skip_ rfl rfl rfl (fun u wr h => by cases h; rfl) (fun _ => rfl)
             ·refine skip_ rfl rfl rfl (fun u wr h => by cases h; rfl) (fun _ => rfl)
             ·refine skip_ rfl rfl rfl (fun u wr h => by cases h; rfl) (fun _ => rfl)
             ·refine skip_ rfl rfl rfl (fun u wr h => by cases h; rfl) (fun _ => rfl)
             ·refine step2 rfl rfl rfl rfl rfl (fun u0 u1 wr hw h0 h1 => ?_)
              cases h0
              cases h1
              exact OpRun.val (.bool true) (.bool true) (by as_aux_lemma => kernel_rfl) rfl ⟨Ext.refl _, rfl⟩
             refine end11 (fun u0 u1 u2 u3 u4 u5 u6 u7 u8 u9 u10 w44 E37 f0 f1 f2 f3 f4 f5 f6 f7 f8 f9 f10 => ?_)
             cases f0
             cases f1
             cases f2
             cases f3
             cases f4
             cases f5
             cases f6
             cases f7
             cases f8
             cases f9
             cases f10
             refine wpList_nil (then_normal ?_)
             refine wct ?_
             refine wsr ?_
             refine wv (.bool false) ?_
             refine wpList_nil (then_normal ?_)
             refine wp_ret ?_
             refine block_ret (then_ret (then_ret (block_ret (then_ret ?_))))
             have H26 := (X7.ext w lo_g10 (H25.trans E36)).trans E37
             refine ret1 (.bool true) rfl ?_ rfl ?_
             ·refine (resT (v := .bool false) (by as_aux_lemma => kernel_rfl)).trans ?_
              refine congrArg Value.bool ?_
              first | (exfalso; omega) | (rw [(hP_.far (by omega) (by omega)).2]; rfl)
             exact ⟨rfl, H26⟩
            ·skip
             have h22d := eF h22
             refine wcl (iCoverOf_0 Fd hF_ (1 + p1) (1 + p2) x_ y_ hP_ (q : Int) h19 h22 _) ?_
             intro w45 E38
             refine wv (.tuple #[.agg #[.int .u64 ((cvoS Fd (q : Int) (1 + p1) (1 + p2)).1), .int .u64 ((cvoS Fd (q : Int) (1 + p1) (1 + p2)).2)], .int .i64 0]) ?_
             refine wv (.agg #[.int .u64 ((cvoS Fd (q : Int) (1 + p1) (1 + p2)).1), .int .u64 ((cvoS Fd (q : Int) (1 + p1) (1 + p2)).2)]) ?_
             refine wv (.int .i64 0) ?_
             have H27 := H23.trans E38
             replace B1 := B1.ext E38
             replace B2 := (B2.ext E33).ext E38
             replace B3 := (B3.ext E33).ext E38
             replace B4 := (B4.ext E33).ext E38
             replace B5 := (B5.ext E33).ext E38
             replace B6 := (B6.ext E33).ext E38
             replace B7 := (B7.ext E33).ext E38
             replace B8 := (B8.ext E33).ext E38
             replace B9 := (B9.ext E33).ext E38
             refine wnew #[.int .u64 0, .int .u64 0] Try.zeroValue33 rfl ?_
             intro g11 w46 B11 E39 hg_
             have q_g1_g11 := Nat.ne_of_lt (Nat.lt_of_lt_of_le B1.lt hg_)
             have q_g2_g11 := Nat.ne_of_lt (Nat.lt_of_lt_of_le B2.lt hg_)
             have q_g3_g11 := Nat.ne_of_lt (Nat.lt_of_lt_of_le B3.lt hg_)
             have q_g4_g11 := Nat.ne_of_lt (Nat.lt_of_lt_of_le B4.lt hg_)
             have q_g5_g11 := Nat.ne_of_lt (Nat.lt_of_lt_of_le B5.lt hg_)
             have q_g6_g11 := Nat.ne_of_lt (Nat.lt_of_lt_of_le B6.lt hg_)
             have q_g7_g11 := Nat.ne_of_lt (Nat.lt_of_lt_of_le B7.lt hg_)
             have q_g8_g11 := Nat.ne_of_lt (Nat.lt_of_lt_of_le B8.lt hg_)
             have q_g9_g11 := Nat.ne_of_lt (Nat.lt_of_lt_of_le B9.lt hg_)
             have lo_g11 := Nat.le_trans (H27).size hg_
             refine wput #[.int .u64 ((cvoS Fd (q : Int) (1 + p1) (1 + p2)).1), .int .u64 ((cvoS Fd (q : Int) (1 + p1) (1 + p2)).2)] row_impl_Cells B11 (by rfl) (by rfl) (by as_aux_lemma => kernel_rfl) ?_
             intro w47 B11_ X8
             clear B11; have B11 := B11_; clear B11_
             refine wv (.int .i64 0) ?_
             refine wpList_nil (then_normal ?_)
             refine wp_seq ?_
             refine wp_frame (a' := ⟨#[v, v2, undef, undef, J12 4, .pointer (some ⟨g1, 0, none⟩), J7 6, .int .i64 (1 + p1), .int .i64 (1 + p2), u1, J6 10, J7 11, J3 12, u2, J3 14, J7 15, J7 16, J3 17, J3 18, u3, J3 20, J7 21, J3 22, J3 23, J3 24, J7 25, J5 26, J7 27, J7 28, J7 29, J7 30, J7 31, J7 32, .int .i64 c_, J11 34, J11 35, J11 36, J11 37, J11 38, J11 39, .pointer (some ⟨g9, 0, none⟩), J11 41, .int .i64 (q : Int), .pointer (some ⟨g11, 0, none⟩), .int .i64 0, v, J1 46, J1 47, v2, J1 49, J1 50, v, J1 52, v2, J1 54, v2, J1 56, J1 57, v, J1 59, J1 60, J1 61, J1 62, J1 63, J1 64, J1 65, J1 66, u1, J1 68, J2 69, J2 70, J2 71, J2 72, J2 73, J2 74, J2 75, J2 76, J2 77, J2 78, J2 79, J2 80, J2 81, J2 82, u2, J2 84, J2 85, J2 86, J2 87, J2 88, J2 89, J2 90, J2 91, J2 92, J2 93, J2 94, J3 95, J3 96, J3 97, J3 98, J3 99, J3 100, u3, J3 102, J3 103, J3 104, J3 105, J3 106, J3 107, J3 108, J3 109, J3 110, J3 111, J3 112, J3 113, J3 114, J3 115, J3 116, J3 117, J3 118, J3 119, J3 120, J3 121, J3 122, u1, J3 124, J3 125, J3 126, J3 127, J3 128, J3 129, J3 130, J3 131, J3 132, J3 133, u2, J3 135, J3 136, J3 137, J3 138, J3 139, J3 140, J3 141, J3 142, J3 143, J3 144, J3 145, J3 146, J3 147, J3 148, J3 149, J3 150, J3 151, J3 152, J3 153, u3, J3 155, J3 156, J3 157, J3 158, J3 159, J3 160, J3 161, J3 162, J3 163, J3 164, J3 165, J4 166, J5 167, J5 168, J4 169, J4 170, J4 171, J4 172, J4 173, J4 174, J4 175, J4 176, J4 177, J4 178, J4 179, J4 180, J5 181, J5 182, J5 183, J5 184, J5 185, J5 186, J5 187, J5 188, J5 189, J5 190, J5 191, J5 192, J5 193, J6 194, J6 195, J6 196, J6 197, J6 198, J6 199, J6 200, J6 201, J6 202, J6 203, J7 204, J7 205, J7 206, J7 207, J7 208, J7 209, J7 210, J7 211, J7 212, J7 213, J7 214, J7 215, J7 216, J7 217, J7 218, J7 219, J7 220, J7 221, J7 222, J7 223, J7 224, J7 225, J7 226, J7 227, J7 228, J7 229, J7 230, J7 231, J7 232, J7 233, J7 234, J7 235, J7 236, J7 237, J7 238, J7 239, J7 240, J7 241, J7 242, J7 243, J7 244, J7 245, J7 246, J7 247, J7 248, J7 249, J7 250, J7 251, J7 252, J7 253, J7 254, J7 255, J7 256, J7 257, J7 258, J7 259, J7 260, J7 261, J7 262, J7 263, J7 264, J7 265, J7 266, J7 267, J7 268, J7 269, J7 270, J7 271, J7 272, J7 273, J7 274, J7 275, J7 276, J7 277, J7 278, J7 279, J7 280, J7 281, J7 282, v2, J12 284, J12 285, J12 286, J12 287, J12 288, J12 289, J12 290, J12 291, J12 292, J12 293, J12 294, J12 295, J12 296, J12 297, J12 298, J12 299, J12 300, J12 301, J12 302, J12 303, J12 304, J12 305, J12 306, J12 307, J12 308, J12 309, J12 310, J12 311, J12 312, J12 313, J12 314, J12 315, J12 316, J12 317, J12 318, J12 319, J12 320, J12 321, J12 322, J12 323, J12 324, J12 325, J12 326, J12 327, J12 328, J12 329, J12 330, J12 331, J12 332, J12 333, J12 334, J12 335, J12 336, J12 337, J12 338, J12 339, J12 340, J12 341, J12 342, J12 343, J12 344, J12 345, J12 346, J12 347, J12 348, J12 349, .int .i64 (q : Int), .bool (decide ((q : Int) < 100)), J12 352, J12 353, .agg Fd.cells, .int .i64 (q : Int), .bool (isB Fd (q : Int)), .bool (!(isB Fd (q : Int))), .bool false, .int .i64 (q : Int), .pointer (some ⟨g1, 2, none⟩), .pointer (some ⟨g1, 2 + q, none⟩), .int .u8 (Fd.k q), .bool ((Fd.k q) == 3), .bool ((Fd.k q) == 3), J12 365, J12 366, J12 367, .tuple #[.agg #[.int .u64 ((cvoS Fd (q : Int) (1 + p1) (1 + p2)).1), .int .u64 ((cvoS Fd (q : Int) (1 + p1) (1 + p2)).2)], .int .i64 0], .agg Fd.cells, .int .i64 (q : Int), .int .i64 (1 + p1), .int .i64 (1 + p2), .tuple #[.agg #[.int .u64 ((cvoS Fd (q : Int) (1 + p1) (1 + p2)).1), .int .u64 ((cvoS Fd (q : Int) (1 + p1) (1 + p2)).2)], .int .i64 0], .agg #[.int .u64 ((cvoS Fd (q : Int) (1 + p1) (1 + p2)).1), .int .u64 ((cvoS Fd (q : Int) (1 + p1) (1 + p2)).2)], .int .i64 0, J12 376, J12 377, J12 378, J12 379, J12 380, J12 381, J12 382, J12 383, J12 384, J12 385, J12 386], []⟩) (by as_aux_lemma => kernel_rfl) ?_
             replace B9 := X8.blk (B9.ext E39) q_g9_g11
             have H28 := X8.ext w lo_g11 (H27.trans E39)
             refine split_bool (hasB ((cvrS Fd c_ (1 + p1) (1 + p2)).1) ((cvrS Fd c_ (1 + p1) (1 + p2)).2) (q : Int)) (fun h23 => ?_) (fun h23 => ?_)
             ·skip
              refine region_go 11 [376, 377, 378, 379, 380, 381, 382, 383, 384, 385, 386] [[], [0], [1], [2], [2], [2, 3, 4], [2], [2], [2, 6, 7], [2, 5, 8], [2, 9]]
               (fun i_ => ([.val (.int .i64 0), .val (.bool false), .val (.bool false), .val (.agg #[.int .u64 ((cvrS Fd c_ (1 + p1) (1 + p2)).1), .int .u64 ((cvrS Fd c_ (1 + p1) (1 + p2)).2)]), .val (.int .i64 (q : Int)), .val (.bool true), .val (.agg #[.int .u64 ((cvoS Fd (q : Int) (1 + p1) (1 + p2)).1), .int .u64 ((cvoS Fd (q : Int) (1 + p1) (1 + p2)).2)]), .val (.int .i64 c_), .val (.bool true), .val (.bool false), .val (.bool false)] : List Fct).getD i_ .any)
               (by as_aux_lemma => kernel_rfl) (by as_aux_lemma => kernel_rfl) (by decide) (by simp) rfl (all_succ (all_succ (all_succ (all_succ (all_succ (all_succ (all_succ (all_succ (all_succ (all_succ (all_succ all_zero ?_) ?_) ?_) ?_) ?_) ?_) ?_) ?_) ?_) ?_) ?_) ?_
              ·refine step0 rfl rfl rfl (fun wr hw => ?_)
               exact OpRun.val (.int .i64 0) (.int .i64 0) (by as_aux_lemma => kernel_rfl) rfl ⟨Ext.refl _, rfl⟩
              ·refine step1 rfl rfl rfl rfl (fun u0 wr hw h0 => ?_)
               cases h0
               exact OpRun.val (.bool (0 != 0)) (.bool false) (by as_aux_lemma => kernel_rfl) (by simp) ⟨Ext.refl _, rfl⟩
              ·refine step1 rfl rfl rfl rfl (fun u0 wr hw h0 => ?_)
               cases h0
               exact OpRun.val (.bool false) (.bool false) (by as_aux_lemma => kernel_rfl) rfl ⟨Ext.refl _, rfl⟩
              ·refine gstep1 rfl rfl rfl rfl (fun u wr h => by cases h; rfl) (fun u0 wr hw h0 => ?_)
               cases h0
               with_reducible refine OpRun.row (x := (.tmp 40)) row_impl_Cells (B9.ext hw) ?_ ?_ ?_ ?_
               ·rfl
               ·rfl
               ·as_aux_lemma => kernel_rfl
               ·exact ⟨Ext.refl _, rfl⟩
              ·refine gstep1 rfl rfl rfl rfl (fun u wr h => by cases h; rfl) (fun u0 wr hw h0 => ?_)
               cases h0
               exact OpRun.val (.int .i64 (q : Int)) (.int .i64 (q : Int)) (by as_aux_lemma => kernel_rfl) rfl ⟨Ext.refl _, rfl⟩
              ·refine gstep3 rfl rfl rfl rfl rfl rfl (fun u wr h => by cases h; rfl) (fun u0 u1 u2 wr hw h0 h1 h2 => ?_)
               cases h0
               cases h1
               cases h2
               exact OpRun.call 16 #[.agg #[.int .u64 ((cvrS Fd c_ (1 + p1) (1 + p2)).1), .int .u64 ((cvrS Fd c_ (1 + p1) (1 + p2)).2)], .int .i64 (q : Int)] (by as_aux_lemma => kernel_rfl) ((sHasCell_any ((cvrS Fd c_ (1 + p1) (1 + p2)).1) ((cvrS Fd c_ (1 + p1) (1 + p2)).2) (q : Int) _).mono fun e w1 ⟨he, hb⟩ => ⟨_, he, hb, congrArg Value.bool h23⟩)
              ·refine gstep1 rfl rfl rfl rfl (fun u wr h => by cases h; rfl) (fun u0 wr hw h0 => ?_)
               cases h0
               with_reducible refine OpRun.row (x := (.tmp 43)) row_impl_Cells (B11.ext hw) ?_ ?_ ?_ ?_
               ·rfl
               ·rfl
               ·as_aux_lemma => kernel_rfl
               ·exact ⟨Ext.refl _, rfl⟩
              ·refine gstep1 rfl rfl rfl rfl (fun u wr h => by cases h; rfl) (fun u0 wr hw h0 => ?_)
               cases h0
               exact OpRun.val (.int .i64 c_) (.int .i64 c_) (by as_aux_lemma => kernel_rfl) rfl ⟨Ext.refl _, rfl⟩
              ·refine gstep3 rfl rfl rfl rfl rfl rfl (fun u wr h => by cases h; rfl) (fun u0 u1 u2 wr hw h0 h1 h2 => ?_)
               cases h0
               cases h1
               cases h2
               exact OpRun.call 16 #[.agg #[.int .u64 ((cvoS Fd (q : Int) (1 + p1) (1 + p2)).1), .int .u64 ((cvoS Fd (q : Int) (1 + p1) (1 + p2)).2)], .int .i64 c_] (by as_aux_lemma => kernel_rfl) ((HasCell_sym hP_ hc_ (d := q) (by omega) h19 h22 _).mono fun e w1 ⟨he, hb⟩ => ⟨_, he, hb, congrArg Value.bool h23⟩)
              ·refine gstep3 rfl rfl rfl rfl rfl rfl (fun u wr h => by cases h; rfl) (fun u0 u1 u2 wr hw h0 h1 h2 => ?_)
               cases h0
               cases h1
               cases h2
               exact OpRun.val (.bool false) (.bool false) (by as_aux_lemma => kernel_rfl) rfl ⟨Ext.refl _, rfl⟩
              ·refine step2 rfl rfl rfl rfl rfl (fun u0 u1 wr hw h0 h1 => ?_)
               cases h0
               cases h1
               exact OpRun.val (.bool false) (.bool false) (by as_aux_lemma => kernel_rfl) rfl ⟨Ext.refl _, rfl⟩
              refine end11 (fun u0 u1 u2 u3 u4 u5 u6 u7 u8 u9 u10 w48 E40 f0 f1 f2 f3 f4 f5 f6 f7 f8 f9 f10 => ?_)
              cases f0
              cases f1
              cases f2
              cases f3
              cases f4
              cases f5
              cases f6
              cases f7
              cases f8
              cases f9
              cases f10
              refine wpList_nil (then_normal ?_)
              refine wcf ?_
              refine wp_skip ?_
              refine block_normal (then_normal ?_)
              refine wp_region_lit ?_
              refine wv (.int .i64 (q : Int)) ?_
              refine wi64 ((q : Int) + 1) ?_
              refine wv (.int .i64 ((q : Int) + 1)) ?_
              refine wpList_nil (then_normal ?_)
              replace B1 := (X8.blk (B1.ext E39) q_g1_g11).ext E40
              replace B2 := (X8.blk (B2.ext E39) q_g2_g11).ext E40
              replace B3 := (X8.blk (B3.ext E39) q_g3_g11).ext E40
              replace B4 := (X8.blk (B4.ext E39) q_g4_g11).ext E40
              replace B5 := (X8.blk (B5.ext E39) q_g5_g11).ext E40
              replace B6 := (X8.blk (B6.ext E39) q_g6_g11).ext E40
              replace B7 := (X8.blk (B7.ext E39) q_g7_g11).ext E40
              replace B8 := (X8.blk (B8.ext E39) q_g8_g11).ext E40
              replace B9 := B9.ext E40
              have H29 := H28.trans E40
              refine ⟨_, ?_, q + 1, rfl, ?_, H29, B1, B2, B3, B4, B5, B6, B7, B8, B9, exJ (by as_aux_lemma => kernel_rfl)⟩
              ·omega
              ·omega
             ·skip
              refine region_go 11 [376, 377, 378, 379, 380, 381, 382, 383, 384, 385, 386] [[], [0], [1], [2], [2], [2, 3, 4], [2], [2], [2, 6, 7], [2, 5, 8], [2, 9]]
               (fun i_ => ([.val (.int .i64 0), .val (.bool false), .val (.bool false), .val (.agg #[.int .u64 ((cvrS Fd c_ (1 + p1) (1 + p2)).1), .int .u64 ((cvrS Fd c_ (1 + p1) (1 + p2)).2)]), .val (.int .i64 (q : Int)), .val (.bool false), .val (.agg #[.int .u64 ((cvoS Fd (q : Int) (1 + p1) (1 + p2)).1), .int .u64 ((cvoS Fd (q : Int) (1 + p1) (1 + p2)).2)]), .val (.int .i64 c_), .val (.bool false), .val (.bool false), .val (.bool false)] : List Fct).getD i_ .any)
               (by as_aux_lemma => kernel_rfl) (by as_aux_lemma => kernel_rfl) (by decide) (by simp) rfl (all_succ (all_succ (all_succ (all_succ (all_succ (all_succ (all_succ (all_succ (all_succ (all_succ (all_succ all_zero ?_) ?_) ?_) ?_) ?_) ?_) ?_) ?_) ?_) ?_) ?_) ?_
              ·refine step0 rfl rfl rfl (fun wr hw => ?_)
               exact OpRun.val (.int .i64 0) (.int .i64 0) (by as_aux_lemma => kernel_rfl) rfl ⟨Ext.refl _, rfl⟩
              ·refine step1 rfl rfl rfl rfl (fun u0 wr hw h0 => ?_)
               cases h0
               exact OpRun.val (.bool (0 != 0)) (.bool false) (by as_aux_lemma => kernel_rfl) (by simp) ⟨Ext.refl _, rfl⟩
              ·refine step1 rfl rfl rfl rfl (fun u0 wr hw h0 => ?_)
               cases h0
               exact OpRun.val (.bool false) (.bool false) (by as_aux_lemma => kernel_rfl) rfl ⟨Ext.refl _, rfl⟩
              ·refine gstep1 rfl rfl rfl rfl (fun u wr h => by cases h; rfl) (fun u0 wr hw h0 => ?_)
               cases h0
               with_reducible refine OpRun.row (x := (.tmp 40)) row_impl_Cells (B9.ext hw) ?_ ?_ ?_ ?_
               ·rfl
               ·rfl
               ·as_aux_lemma => kernel_rfl
               ·exact ⟨Ext.refl _, rfl⟩
              ·refine gstep1 rfl rfl rfl rfl (fun u wr h => by cases h; rfl) (fun u0 wr hw h0 => ?_)
               cases h0
               exact OpRun.val (.int .i64 (q : Int)) (.int .i64 (q : Int)) (by as_aux_lemma => kernel_rfl) rfl ⟨Ext.refl _, rfl⟩
              ·refine gstep3 rfl rfl rfl rfl rfl rfl (fun u wr h => by cases h; rfl) (fun u0 u1 u2 wr hw h0 h1 h2 => ?_)
               cases h0
               cases h1
               cases h2
               exact OpRun.call 16 #[.agg #[.int .u64 ((cvrS Fd c_ (1 + p1) (1 + p2)).1), .int .u64 ((cvrS Fd c_ (1 + p1) (1 + p2)).2)], .int .i64 (q : Int)] (by as_aux_lemma => kernel_rfl) ((sHasCell_any ((cvrS Fd c_ (1 + p1) (1 + p2)).1) ((cvrS Fd c_ (1 + p1) (1 + p2)).2) (q : Int) _).mono fun e w1 ⟨he, hb⟩ => ⟨_, he, hb, congrArg Value.bool h23⟩)
              ·refine gstep1 rfl rfl rfl rfl (fun u wr h => by cases h; rfl) (fun u0 wr hw h0 => ?_)
               cases h0
               with_reducible refine OpRun.row (x := (.tmp 43)) row_impl_Cells (B11.ext hw) ?_ ?_ ?_ ?_
               ·rfl
               ·rfl
               ·as_aux_lemma => kernel_rfl
               ·exact ⟨Ext.refl _, rfl⟩
              ·refine gstep1 rfl rfl rfl rfl (fun u wr h => by cases h; rfl) (fun u0 wr hw h0 => ?_)
               cases h0
               exact OpRun.val (.int .i64 c_) (.int .i64 c_) (by as_aux_lemma => kernel_rfl) rfl ⟨Ext.refl _, rfl⟩
              ·refine gstep3 rfl rfl rfl rfl rfl rfl (fun u wr h => by cases h; rfl) (fun u0 u1 u2 wr hw h0 h1 h2 => ?_)
               cases h0
               cases h1
               cases h2
               exact OpRun.call 16 #[.agg #[.int .u64 ((cvoS Fd (q : Int) (1 + p1) (1 + p2)).1), .int .u64 ((cvoS Fd (q : Int) (1 + p1) (1 + p2)).2)], .int .i64 c_] (by as_aux_lemma => kernel_rfl) ((HasCell_sym hP_ hc_ (d := q) (by omega) h19 h22 _).mono fun e w1 ⟨he, hb⟩ => ⟨_, he, hb, congrArg Value.bool h23⟩)
              ·refine gstep3 rfl rfl rfl rfl rfl rfl (fun u wr h => by cases h; rfl) (fun u0 u1 u2 wr hw h0 h1 h2 => ?_)
               cases h0
               cases h1
               cases h2
               exact OpRun.val (.bool false) (.bool false) (by as_aux_lemma => kernel_rfl) rfl ⟨Ext.refl _, rfl⟩
              ·refine step2 rfl rfl rfl rfl rfl (fun u0 u1 wr hw h0 h1 => ?_)
               cases h0
               cases h1
               exact OpRun.val (.bool false) (.bool false) (by as_aux_lemma => kernel_rfl) rfl ⟨Ext.refl _, rfl⟩
              refine end11 (fun u0 u1 u2 u3 u4 u5 u6 u7 u8 u9 u10 w49 E41 f0 f1 f2 f3 f4 f5 f6 f7 f8 f9 f10 => ?_)
              cases f0
              cases f1
              cases f2
              cases f3
              cases f4
              cases f5
              cases f6
              cases f7
              cases f8
              cases f9
              cases f10
              refine wpList_nil (then_normal ?_)
              refine wcf ?_
              refine wp_skip ?_
              refine block_normal (then_normal ?_)
              refine wp_region_lit ?_
              refine wv (.int .i64 (q : Int)) ?_
              refine wi64 ((q : Int) + 1) ?_
              refine wv (.int .i64 ((q : Int) + 1)) ?_
              refine wpList_nil (then_normal ?_)
              replace B1 := (X8.blk (B1.ext E39) q_g1_g11).ext E41
              replace B2 := (X8.blk (B2.ext E39) q_g2_g11).ext E41
              replace B3 := (X8.blk (B3.ext E39) q_g3_g11).ext E41
              replace B4 := (X8.blk (B4.ext E39) q_g4_g11).ext E41
              replace B5 := (X8.blk (B5.ext E39) q_g5_g11).ext E41
              replace B6 := (X8.blk (B6.ext E39) q_g6_g11).ext E41
              replace B7 := (X8.blk (B7.ext E39) q_g7_g11).ext E41
              replace B8 := (X8.blk (B8.ext E39) q_g8_g11).ext E41
              replace B9 := B9.ext E41
              have H30 := H28.trans E41
              refine ⟨_, ?_, q + 1, rfl, ?_, H30, B1, B2, B3, B4, B5, B6, B7, B8, B9, exJ (by as_aux_lemma => kernel_rfl)⟩
              ·omega
              ·omega
          ·skip
           refine wbl 358 true (bnF h19) ?_
           refine wsk ?_
           refine wsk ?_
           refine wsk ?_
           refine wsk ?_
           refine wsk ?_
           refine wv (.bool true) ?_
           refine wpList_nil (then_normal ?_)
           refine wct ?_
           refine wp_seq ?_
           refine wsr ?_
           replace B9 := B9.ext E33
           refine wrow row_impl_Cells B9 (by rfl) ?_
           refine wv (.int .i64 (q : Int)) ?_
           refine wcl (sHasCell_any ((cvrS Fd c_ (1 + p1) (1 + p2)).1) ((cvrS Fd c_ (1 + p1) (1 + p2)).2) (q : Int) _) ?_
           intro w50 E42
           refine wpList_nil (then_normal ?_)
           have H31 := H23.trans E42
           refine wsplit (hasB ((cvrS Fd c_ (1 + p1) (1 + p2)).1) ((cvrS Fd c_ (1 + p1) (1 + p2)).2) (q : Int)) (fun h24 => ?_) (fun h24 => ?_)
           ·skip
            exfalso; rw [hP_.cvr_1 hc_ (by omega) (by assumption)] at h24; exact absurd h24 (by decide)
           ·skip
            refine wp_skip ?_
            refine then_normal ?_
            refine wp_exit ?_
            refine then_exit ?_
            refine block_exit ?_
            refine then_normal ?_
            refine wp_region_lit ?_
            refine wv (.int .i64 (q : Int)) ?_
            refine wi64 ((q : Int) + 1) ?_
            refine wv (.int .i64 ((q : Int) + 1)) ?_
            refine wpList_nil (then_normal ?_)
            replace B1 := (B1.ext E33).ext E42
            replace B2 := (B2.ext E33).ext E42
            replace B3 := (B3.ext E33).ext E42
            replace B4 := (B4.ext E33).ext E42
            replace B5 := (B5.ext E33).ext E42
            replace B6 := (B6.ext E33).ext E42
            replace B7 := (B7.ext E33).ext E42
            replace B8 := (B8.ext E33).ext E42
            replace B9 := B9.ext E42
            refine ⟨_, ?_, q + 1, rfl, ?_, H31, B1, B2, B3, B4, B5, B6, B7, B8, B9, exJ (by as_aux_lemma => kernel_rfl)⟩
            ·omega
            ·omega
         ·skip
          have h18d := dF h18
          refine wp_exit ?_
          refine then_exit ?_
          refine then_exit ?_
          refine block_exit ?_
          refine then_normal ?_
          refine wsr ?_
          refine wv (.bool true) ?_
          refine wpList_nil (then_normal ?_)
          refine wp_ret ?_
          refine ret1 (.bool true) rfl ?_ rfl ?_
          ·exact resT (by as_aux_lemma => kernel_rfl)
          exact ⟨rfl, HL2⟩
        ·skip
         have h17d := eF h17
         refine wcl (iCoverOf_0 Fd hF_ (1 + p1) (1 + p2) x_ y_ hP_ c_ hc_ h17 _) ?_
         intro w51 E43
         refine wv (.tuple #[.agg #[.int .u64 ((cvoS Fd c_ (1 + p1) (1 + p2)).1), .int .u64 ((cvoS Fd c_ (1 + p1) (1 + p2)).2)], .int .i64 0]) ?_
         refine wv (.agg #[.int .u64 ((cvoS Fd c_ (1 + p1) (1 + p2)).1), .int .u64 ((cvoS Fd c_ (1 + p1) (1 + p2)).2)]) ?_
         refine wv (.int .i64 0) ?_
         have H32 := H17.trans E43
         replace B1 := B1.ext E43
         replace B2 := (B2.ext E24).ext E43
         replace B3 := (B3.ext E24).ext E43
         replace B4 := (B4.ext E24).ext E43
         replace B5 := (B5.ext E24).ext E43
         refine wnew #[.int .u64 0, .int .u64 0] Try.zeroValue33 rfl ?_
         intro g12 w52 B12 E44 hg_
         have q_g1_g12 := Nat.ne_of_lt (Nat.lt_of_lt_of_le B1.lt hg_)
         have q_g2_g12 := Nat.ne_of_lt (Nat.lt_of_lt_of_le B2.lt hg_)
         have q_g3_g12 := Nat.ne_of_lt (Nat.lt_of_lt_of_le B3.lt hg_)
         have q_g4_g12 := Nat.ne_of_lt (Nat.lt_of_lt_of_le B4.lt hg_)
         have q_g5_g12 := Nat.ne_of_lt (Nat.lt_of_lt_of_le B5.lt hg_)
         have lo_g12 := Nat.le_trans (H32).size hg_
         refine wput #[.int .u64 ((cvoS Fd c_ (1 + p1) (1 + p2)).1), .int .u64 ((cvoS Fd c_ (1 + p1) (1 + p2)).2)] row_impl_Cells B12 (by rfl) (by rfl) (by as_aux_lemma => kernel_rfl) ?_
         intro w53 B12_ X9
         clear B12; have B12 := B12_; clear B12_
         refine wv (.int .i64 0) ?_
         refine wpList_nil (then_normal ?_)
         refine wsr ?_
         replace B1 := X9.blk (B1.ext E44) q_g1_g12
         refine wrow row_impl_Field B1 (by exact Fld.size_cells _) ?_
         refine wv (.int .i64 c_) ?_
         refine wv (.int .i64 (1 + p1)) ?_
         refine wv (.int .i64 (1 + p2)) ?_
         refine wcl (sCoverOf_0 Fd hF_ (1 + p1) (1 + p2) x_ y_ hP_ c_ hc_ h17 _) ?_
         intro w54 E45
         refine wv (.tuple #[.agg #[.int .u64 ((cvoS Fd c_ (1 + p1) (1 + p2)).1), .int .u64 ((cvoS Fd c_ (1 + p1) (1 + p2)).2)], .int .i64 0]) ?_
         refine wv (.agg #[.int .u64 ((cvoS Fd c_ (1 + p1) (1 + p2)).1), .int .u64 ((cvoS Fd c_ (1 + p1) (1 + p2)).2)]) ?_
         refine wv (.int .i64 0) ?_
         have H33 := (X9.ext w lo_g12 (H32.trans E44)).trans E45
         replace B1 := B1.ext E45
         replace B2 := (X9.blk (B2.ext E44) q_g2_g12).ext E45
         replace B3 := (X9.blk (B3.ext E44) q_g3_g12).ext E45
         replace B4 := (X9.blk (B4.ext E44) q_g4_g12).ext E45
         replace B5 := (X9.blk (B5.ext E44) q_g5_g12).ext E45
         replace B12 := B12.ext E45
         refine wnew #[.int .u64 0, .int .u64 0] Try.zeroValue33 rfl ?_
         intro g13 w55 B13 E46 hg_
         have q_g1_g13 := Nat.ne_of_lt (Nat.lt_of_lt_of_le B1.lt hg_)
         have q_g2_g13 := Nat.ne_of_lt (Nat.lt_of_lt_of_le B2.lt hg_)
         have q_g3_g13 := Nat.ne_of_lt (Nat.lt_of_lt_of_le B3.lt hg_)
         have q_g4_g13 := Nat.ne_of_lt (Nat.lt_of_lt_of_le B4.lt hg_)
         have q_g5_g13 := Nat.ne_of_lt (Nat.lt_of_lt_of_le B5.lt hg_)
         have q_g12_g13 := Nat.ne_of_lt (Nat.lt_of_lt_of_le B12.lt hg_)
         have lo_g13 := Nat.le_trans (H33).size hg_
         refine wput #[.int .u64 ((cvoS Fd c_ (1 + p1) (1 + p2)).1), .int .u64 ((cvoS Fd c_ (1 + p1) (1 + p2)).2)] row_impl_Cells B13 (by rfl) (by rfl) (by as_aux_lemma => kernel_rfl) ?_
         intro w56 B13_ X10
         clear B13; have B13 := B13_; clear B13_
         refine wv (.int .i64 0) ?_
         refine wpList_nil (then_normal ?_)
         refine wsr ?_
         replace B1 := X10.blk (B1.ext E46) q_g1_g13
         refine wrow row_impl_Field B1 (by exact Fld.size_cells _) ?_
         refine wv (.int .i64 c_) ?_
         refine wv (.int .i64 (1 + p1)) ?_
         refine wv (.int .i64 (1 + p2)) ?_
         refine wcl (iCoverersOf_ok Fd hF_ (1 + p1) (1 + p2) x_ y_ hP_ c_ hc_ _) ?_
         intro w57 E47
         refine wv (.tuple #[.agg #[.int .u64 ((cvrS Fd c_ (1 + p1) (1 + p2)).1), .int .u64 ((cvrS Fd c_ (1 + p1) (1 + p2)).2)], .int .i64 0]) ?_
         refine wv (.agg #[.int .u64 ((cvrS Fd c_ (1 + p1) (1 + p2)).1), .int .u64 ((cvrS Fd c_ (1 + p1) (1 + p2)).2)]) ?_
         refine wv (.int .i64 0) ?_
         have H34 := (X10.ext w lo_g13 (H33.trans E46)).trans E47
         replace B1 := B1.ext E47
         replace B2 := (X10.blk (B2.ext E46) q_g2_g13).ext E47
         replace B3 := (X10.blk (B3.ext E46) q_g3_g13).ext E47
         replace B4 := (X10.blk (B4.ext E46) q_g4_g13).ext E47
         replace B5 := (X10.blk (B5.ext E46) q_g5_g13).ext E47
         replace B12 := (X10.blk (B12.ext E46) q_g12_g13).ext E47
         replace B13 := B13.ext E47
         refine wnew #[.int .u64 0, .int .u64 0] Try.zeroValue33 rfl ?_
         intro g14 w58 B14 E48 hg_
         have q_g1_g14 := Nat.ne_of_lt (Nat.lt_of_lt_of_le B1.lt hg_)
         have q_g2_g14 := Nat.ne_of_lt (Nat.lt_of_lt_of_le B2.lt hg_)
         have q_g3_g14 := Nat.ne_of_lt (Nat.lt_of_lt_of_le B3.lt hg_)
         have q_g4_g14 := Nat.ne_of_lt (Nat.lt_of_lt_of_le B4.lt hg_)
         have q_g5_g14 := Nat.ne_of_lt (Nat.lt_of_lt_of_le B5.lt hg_)
         have q_g12_g14 := Nat.ne_of_lt (Nat.lt_of_lt_of_le B12.lt hg_)
         have q_g13_g14 := Nat.ne_of_lt (Nat.lt_of_lt_of_le B13.lt hg_)
         have lo_g14 := Nat.le_trans (H34).size hg_
         refine wput #[.int .u64 ((cvrS Fd c_ (1 + p1) (1 + p2)).1), .int .u64 ((cvrS Fd c_ (1 + p1) (1 + p2)).2)] row_impl_Cells B14 (by rfl) (by rfl) (by as_aux_lemma => kernel_rfl) ?_
         intro w59 B14_ X11
         clear B14; have B14 := B14_; clear B14_
         refine wv (.int .i64 0) ?_
         refine wpList_nil (then_normal ?_)
         refine wp_forget (f := fun J13 => ⟨#[v, v2, undef, undef, J7 4, .pointer (some ⟨g1, 0, none⟩), J7 6, .int .i64 (1 + p1), .int .i64 (1 + p2), u1, J6 10, J7 11, J3 12, u2, J3 14, J7 15, J7 16, J3 17, J3 18, u3, J3 20, J7 21, J3 22, J3 23, J3 24, J7 25, J5 26, J7 27, J7 28, J7 29, J7 30, J7 31, J7 32, .int .i64 c_, .pointer (some ⟨g12, 0, none⟩), .int .i64 0, .pointer (some ⟨g13, 0, none⟩), .int .i64 0, .pointer (some ⟨g14, 0, none⟩), .int .i64 0, undef, undef, undef, undef, undef, v, J1 46, J1 47, v2, J1 49, J1 50, v, J1 52, v2, J1 54, v2, J1 56, J1 57, v, J1 59, J1 60, J1 61, J1 62, J1 63, J1 64, J1 65, J1 66, u1, J1 68, J2 69, J2 70, J2 71, J2 72, J2 73, J2 74, J2 75, J2 76, J2 77, J2 78, J2 79, J2 80, J2 81, J2 82, u2, J2 84, J2 85, J2 86, J2 87, J2 88, J2 89, J2 90, J2 91, J2 92, J2 93, J2 94, J3 95, J3 96, J3 97, J3 98, J3 99, J3 100, u3, J3 102, J3 103, J3 104, J3 105, J3 106, J3 107, J3 108, J3 109, J3 110, J3 111, J3 112, J3 113, J3 114, J3 115, J3 116, J3 117, J3 118, J3 119, J3 120, J3 121, J3 122, u1, J3 124, J3 125, J3 126, J3 127, J3 128, J3 129, J3 130, J3 131, J3 132, J3 133, u2, J3 135, J3 136, J3 137, J3 138, J3 139, J3 140, J3 141, J3 142, J3 143, J3 144, J3 145, J3 146, J3 147, J3 148, J3 149, J3 150, J3 151, J3 152, J3 153, u3, J3 155, J3 156, J3 157, J3 158, J3 159, J3 160, J3 161, J3 162, J3 163, J3 164, J3 165, J4 166, J5 167, J5 168, J4 169, J4 170, J4 171, J4 172, J4 173, J4 174, J4 175, J4 176, J4 177, J4 178, J4 179, J4 180, J5 181, J5 182, J5 183, J5 184, J5 185, J5 186, J5 187, J5 188, J5 189, J5 190, J5 191, J5 192, J5 193, J6 194, J6 195, J6 196, J6 197, J6 198, J6 199, J6 200, J6 201, J6 202, J6 203, J7 204, J7 205, J7 206, J7 207, J7 208, J7 209, J7 210, J7 211, J7 212, J7 213, J7 214, J7 215, J7 216, J7 217, J7 218, J7 219, J7 220, J7 221, J7 222, J7 223, J7 224, J7 225, J7 226, J7 227, J7 228, J7 229, J7 230, J7 231, J7 232, J7 233, J7 234, J7 235, J7 236, J7 237, J7 238, J7 239, J7 240, J7 241, J7 242, J7 243, J7 244, J7 245, J7 246, J7 247, J7 248, J7 249, J7 250, J7 251, J7 252, J7 253, J7 254, J7 255, J7 256, J7 257, J7 258, J7 259, J7 260, J7 261, J7 262, J7 263, J7 264, J7 265, J7 266, J7 267, J7 268, J7 269, J7 270, J7 271, J7 272, J7 273, J7 274, J7 275, J7 276, J7 277, J7 278, J7 279, J7 280, J7 281, J7 282, v2, J13 284, J13 285, J13 286, J13 287, J13 288, J13 289, J13 290, J13 291, J13 292, J13 293, J13 294, J13 295, J13 296, J13 297, J13 298, J13 299, J13 300, J13 301, J13 302, J13 303, J13 304, J13 305, J13 306, J13 307, J13 308, J13 309, undef, undef, undef, undef, undef, undef, undef, undef, undef, undef, undef, undef, undef, undef, undef, undef, undef, undef, undef, undef, undef, undef, undef, undef, undef, undef, undef, undef, undef, undef, undef, undef, undef, undef, undef, undef, undef, undef, undef, undef, undef, undef, undef, undef, undef, undef, undef, undef, undef, undef, undef, undef, undef, undef, undef, undef, undef, undef, undef, undef, undef, undef, undef, undef, undef, undef, undef, undef, undef, undef, undef, undef, undef, undef, undef, undef, undef], []⟩) (by as_aux_lemma => kernel_rfl) (fun J13 => ?_)
         refine wsr ?_
         replace B1 := X11.blk (B1.ext E48) q_g1_g14
         refine wrow row_impl_Field B1 (by exact Fld.size_cells _) ?_
         refine wv (.int .i64 c_) ?_
         refine wv (.int .i64 (1 + p1)) ?_
         refine wv (.int .i64 (1 + p2)) ?_
         refine wcl (sCoverersOf_ok Fd hF_ (1 + p1) (1 + p2) x_ y_ hP_ c_ hc_ _) ?_
         intro w60 E49
         refine wv (.tuple #[.agg #[.int .u64 ((cvrS Fd c_ (1 + p1) (1 + p2)).1), .int .u64 ((cvrS Fd c_ (1 + p1) (1 + p2)).2)], .int .i64 0]) ?_
         refine wv (.agg #[.int .u64 ((cvrS Fd c_ (1 + p1) (1 + p2)).1), .int .u64 ((cvrS Fd c_ (1 + p1) (1 + p2)).2)]) ?_
         refine wv (.int .i64 0) ?_
         have H35 := (X11.ext w lo_g14 (H34.trans E48)).trans E49
         replace B1 := B1.ext E49
         replace B2 := (X11.blk (B2.ext E48) q_g2_g14).ext E49
         replace B3 := (X11.blk (B3.ext E48) q_g3_g14).ext E49
         replace B4 := (X11.blk (B4.ext E48) q_g4_g14).ext E49
         replace B5 := (X11.blk (B5.ext E48) q_g5_g14).ext E49
         replace B12 := (X11.blk (B12.ext E48) q_g12_g14).ext E49
         replace B13 := (X11.blk (B13.ext E48) q_g13_g14).ext E49
         replace B14 := B14.ext E49
         refine wnew #[.int .u64 0, .int .u64 0] Try.zeroValue33 rfl ?_
         intro g15 w61 B15 E50 hg_
         have q_g1_g15 := Nat.ne_of_lt (Nat.lt_of_lt_of_le B1.lt hg_)
         have q_g2_g15 := Nat.ne_of_lt (Nat.lt_of_lt_of_le B2.lt hg_)
         have q_g3_g15 := Nat.ne_of_lt (Nat.lt_of_lt_of_le B3.lt hg_)
         have q_g4_g15 := Nat.ne_of_lt (Nat.lt_of_lt_of_le B4.lt hg_)
         have q_g5_g15 := Nat.ne_of_lt (Nat.lt_of_lt_of_le B5.lt hg_)
         have q_g12_g15 := Nat.ne_of_lt (Nat.lt_of_lt_of_le B12.lt hg_)
         have q_g13_g15 := Nat.ne_of_lt (Nat.lt_of_lt_of_le B13.lt hg_)
         have q_g14_g15 := Nat.ne_of_lt (Nat.lt_of_lt_of_le B14.lt hg_)
         have lo_g15 := Nat.le_trans (H35).size hg_
         refine wput #[.int .u64 ((cvrS Fd c_ (1 + p1) (1 + p2)).1), .int .u64 ((cvrS Fd c_ (1 + p1) (1 + p2)).2)] row_impl_Cells B15 (by rfl) (by rfl) (by as_aux_lemma => kernel_rfl) ?_
         intro w62 B15_ X12
         clear B15; have B15 := B15_; clear B15_
         refine wv (.int .i64 0) ?_
         refine wpList_nil (then_normal ?_)
         refine wp_seq ?_
         refine wsr ?_
         refine wv (.int .i64 0) ?_
         refine wv (.int .i64 0) ?_
         refine wvv (.bool (0 != 0)) (.bool false) (by simp) ?_
         refine wv (.bool false) ?_
         replace B12 := X12.blk (B12.ext E50) q_g12_g15
         refine wrow row_impl_Cells B12 (by rfl) ?_
         replace B13 := X12.blk (B13.ext E50) q_g13_g15
         refine wrow row_impl_Cells B13 (by rfl) ?_
         refine wneA duot_impl_Cells.eg (equalIn_duo duot_impl_Cells 9998 ((cvoS Fd c_ (1 + p1) (1 + p2)).1) ((cvoS Fd c_ (1 + p1) (1 + p2)).2) ((cvoS Fd c_ (1 + p1) (1 + p2)).1) ((cvoS Fd c_ (1 + p1) (1 + p2)).2)) ?_
         refine wbl 324 false (bnT (eq2_s ((cvoS Fd c_ (1 + p1) (1 + p2)).1) ((cvoS Fd c_ (1 + p1) (1 + p2)).2))) ?_
         refine wv (.bool false) ?_
         refine wv (.bool false) ?_
         refine wv (.int .i64 0) ?_
         refine wv (.int .i64 0) ?_
         refine wvv (.bool (0 != 0)) (.bool false) (by simp) ?_
         refine wv (.bool false) ?_
         refine wv (.bool false) ?_
         refine wv (.int .i64 0) ?_
         refine wvv (.bool (0 != 0)) (.bool false) (by simp) ?_
         refine wv (.bool false) ?_
         refine wv (.bool false) ?_
         replace B14 := X12.blk (B14.ext E50) q_g14_g15
         refine wrow row_impl_Cells B14 (by rfl) ?_
         refine wrow row_impl_Cells B15 (by rfl) ?_
         refine wneA duot_impl_Cells.eg (equalIn_duo duot_impl_Cells 9998 ((cvrS Fd c_ (1 + p1) (1 + p2)).1) ((cvrS Fd c_ (1 + p1) (1 + p2)).2) ((cvrS Fd c_ (1 + p1) (1 + p2)).1) ((cvrS Fd c_ (1 + p1) (1 + p2)).2)) ?_
         refine wbl 338 false (bnT (eq2_s ((cvrS Fd c_ (1 + p1) (1 + p2)).1) ((cvrS Fd c_ (1 + p1) (1 + p2)).2))) ?_
         refine wv (.bool false) ?_
         refine wv (.bool false) ?_
         refine wv (.int .i64 0) ?_
         refine wvv (.bool (0 == 0)) (.bool true) (by simp) ?_
         refine wv (.int .i64 c_) ?_
         refine wv (.pointer (some ⟨g1, 2, none⟩)) ?_
         refine wix g1 2 c_ .i64 arrt__100_uint8 ?_
         replace B1 := X12.blk (B1.ext E50) q_g1_g15
         refine wld g1 (2 + (c_).toNat) scal_uint8 (B1.get (Fld.getk _ _ (by omega))) ?_
         refine wv (.bool ((Fd.k ((c_).toNat)) != 3)) ?_
         refine wbl 347 true (bneT h17) ?_
         refine wv (.bool false) ?_
         refine wv (.bool false) ?_
         refine wpList_nil (then_normal ?_)
         refine wp_forget (f := fun J14 => ⟨#[v, v2, undef, undef, J7 4, .pointer (some ⟨g1, 0, none⟩), J7 6, .int .i64 (1 + p1), .int .i64 (1 + p2), u1, J6 10, J7 11, J3 12, u2, J3 14, J7 15, J7 16, J3 17, J3 18, u3, J3 20, J7 21, J3 22, J3 23, J3 24, J7 25, J5 26, J7 27, J7 28, J7 29, J7 30, J7 31, J7 32, .int .i64 c_, J14 34, J14 35, J14 36, J14 37, J14 38, J14 39, .pointer (some ⟨g15, 0, none⟩), J14 41, undef, undef, undef, v, J1 46, J1 47, v2, J1 49, J1 50, v, J1 52, v2, J1 54, v2, J1 56, J1 57, v, J1 59, J1 60, J1 61, J1 62, J1 63, J1 64, J1 65, J1 66, u1, J1 68, J2 69, J2 70, J2 71, J2 72, J2 73, J2 74, J2 75, J2 76, J2 77, J2 78, J2 79, J2 80, J2 81, J2 82, u2, J2 84, J2 85, J2 86, J2 87, J2 88, J2 89, J2 90, J2 91, J2 92, J2 93, J2 94, J3 95, J3 96, J3 97, J3 98, J3 99, J3 100, u3, J3 102, J3 103, J3 104, J3 105, J3 106, J3 107, J3 108, J3 109, J3 110, J3 111, J3 112, J3 113, J3 114, J3 115, J3 116, J3 117, J3 118, J3 119, J3 120, J3 121, J3 122, u1, J3 124, J3 125, J3 126, J3 127, J3 128, J3 129, J3 130, J3 131, J3 132, J3 133, u2, J3 135, J3 136, J3 137, J3 138, J3 139, J3 140, J3 141, J3 142, J3 143, J3 144, J3 145, J3 146, J3 147, J3 148, J3 149, J3 150, J3 151, J3 152, J3 153, u3, J3 155, J3 156, J3 157, J3 158, J3 159, J3 160, J3 161, J3 162, J3 163, J3 164, J3 165, J4 166, J5 167, J5 168, J4 169, J4 170, J4 171, J4 172, J4 173, J4 174, J4 175, J4 176, J4 177, J4 178, J4 179, J4 180, J5 181, J5 182, J5 183, J5 184, J5 185, J5 186, J5 187, J5 188, J5 189, J5 190, J5 191, J5 192, J5 193, J6 194, J6 195, J6 196, J6 197, J6 198, J6 199, J6 200, J6 201, J6 202, J6 203, J7 204, J7 205, J7 206, J7 207, J7 208, J7 209, J7 210, J7 211, J7 212, J7 213, J7 214, J7 215, J7 216, J7 217, J7 218, J7 219, J7 220, J7 221, J7 222, J7 223, J7 224, J7 225, J7 226, J7 227, J7 228, J7 229, J7 230, J7 231, J7 232, J7 233, J7 234, J7 235, J7 236, J7 237, J7 238, J7 239, J7 240, J7 241, J7 242, J7 243, J7 244, J7 245, J7 246, J7 247, J7 248, J7 249, J7 250, J7 251, J7 252, J7 253, J7 254, J7 255, J7 256, J7 257, J7 258, J7 259, J7 260, J7 261, J7 262, J7 263, J7 264, J7 265, J7 266, J7 267, J7 268, J7 269, J7 270, J7 271, J7 272, J7 273, J7 274, J7 275, J7 276, J7 277, J7 278, J7 279, J7 280, J7 281, J7 282, v2, J14 284, J14 285, J14 286, J14 287, J14 288, J14 289, J14 290, J14 291, J14 292, J14 293, J14 294, J14 295, J14 296, J14 297, J14 298, J14 299, J14 300, J14 301, J14 302, J14 303, J14 304, J14 305, J14 306, J14 307, J14 308, J14 309, J14 310, J14 311, J14 312, J14 313, J14 314, J14 315, J14 316, J14 317, J14 318, J14 319, J14 320, J14 321, J14 322, J14 323, J14 324, J14 325, J14 326, J14 327, J14 328, J14 329, J14 330, J14 331, J14 332, J14 333, J14 334, J14 335, J14 336, J14 337, J14 338, J14 339, J14 340, J14 341, J14 342, J14 343, J14 344, J14 345, J14 346, J14 347, J14 348, .bool false, undef, undef, undef, undef, undef, undef, undef, undef, undef, undef, undef, undef, undef, undef, undef, undef, undef, undef, undef, undef, undef, undef, undef, undef, undef, undef, undef, undef, undef, undef, undef, undef, undef, undef, undef, undef, undef], []⟩) (by as_aux_lemma => kernel_rfl) (fun J14 => ?_)
         refine wcf ?_
         refine wp_skip ?_
         refine then_normal ?_
         refine wp_seq ?_
         refine wsr ?_
         refine wv (.int .i64 0) ?_
         refine wpList_nil (then_normal ?_)
         refine wp_block ?_
         replace B2 := X12.blk (B2.ext E50) q_g2_g15
         replace B3 := X12.blk (B3.ext E50) q_g3_g15
         replace B4 := X12.blk (B4.ext E50) q_g4_g15
         replace B5 := X12.blk (B5.ext E50) q_g5_g15
         have H36 := X12.ext w lo_g15 (H35.trans E50)
         refine wp_loop_k (fun m3 a wl3 => ∃ (q : Nat), m3 = 100 - q ∧ q ≤ 100 ∧ Ext w wl3 ∧ Blk wl3 g1 29 Fd.cells ∧ Blk wl3 g2 33 #[.int .u64 x_, .int .u64 y_] ∧ Blk wl3 g3 2 cs1 ∧ Blk wl3 g4 2 cs2 ∧ Blk wl3 g5 2 cs3 ∧ Blk wl3 g12 33 #[.int .u64 ((cvoS Fd c_ (1 + p1) (1 + p2)).1), .int .u64 ((cvoS Fd c_ (1 + p1) (1 + p2)).2)] ∧ Blk wl3 g13 33 #[.int .u64 ((cvoS Fd c_ (1 + p1) (1 + p2)).1), .int .u64 ((cvoS Fd c_ (1 + p1) (1 + p2)).2)] ∧ Blk wl3 g14 33 #[.int .u64 ((cvrS Fd c_ (1 + p1) (1 + p2)).1), .int .u64 ((cvrS Fd c_ (1 + p1) (1 + p2)).2)] ∧ Blk wl3 g15 33 #[.int .u64 ((cvrS Fd c_ (1 + p1) (1 + p2)).1), .int .u64 ((cvrS Fd c_ (1 + p1) (1 + p2)).2)] ∧ (∃ J15 : Nat → Value, a = ⟨#[v, v2, undef, undef, J15 4, .pointer (some ⟨g1, 0, none⟩), J7 6, .int .i64 (1 + p1), .int .i64 (1 + p2), u1, J6 10, J7 11, J3 12, u2, J3 14, J7 15, J7 16, J3 17, J3 18, u3, J3 20, J7 21, J3 22, J3 23, J3 24, J7 25, J5 26, J7 27, J7 28, J7 29, J7 30, J7 31, J7 32, .int .i64 c_, J14 34, J14 35, J14 36, J14 37, J14 38, J14 39, .pointer (some ⟨g15, 0, none⟩), J14 41, .int .i64 (q : Int), J15 43, J15 44, v, J1 46, J1 47, v2, J1 49, J1 50, v, J1 52, v2, J1 54, v2, J1 56, J1 57, v, J1 59, J1 60, J1 61, J1 62, J1 63, J1 64, J1 65, J1 66, u1, J1 68, J2 69, J2 70, J2 71, J2 72, J2 73, J2 74, J2 75, J2 76, J2 77, J2 78, J2 79, J2 80, J2 81, J2 82, u2, J2 84, J2 85, J2 86, J2 87, J2 88, J2 89, J2 90, J2 91, J2 92, J2 93, J2 94, J3 95, J3 96, J3 97, J3 98, J3 99, J3 100, u3, J3 102, J3 103, J3 104, J3 105, J3 106, J3 107, J3 108, J3 109, J3 110, J3 111, J3 112, J3 113, J3 114, J3 115, J3 116, J3 117, J3 118, J3 119, J3 120, J3 121, J3 122, u1, J3 124, J3 125, J3 126, J3 127, J3 128, J3 129, J3 130, J3 131, J3 132, J3 133, u2, J3 135, J3 136, J3 137, J3 138, J3 139, J3 140, J3 141, J3 142, J3 143, J3 144, J3 145, J3 146, J3 147, J3 148, J3 149, J3 150, J3 151, J3 152, J3 153, u3, J3 155, J3 156, J3 157, J3 158, J3 159, J3 160, J3 161, J3 162, J3 163, J3 164, J3 165, J4 166, J5 167, J5 168, J4 169, J4 170, J4 171, J4 172, J4 173, J4 174, J4 175, J4 176, J4 177, J4 178, J4 179, J4 180, J5 181, J5 182, J5 183, J5 184, J5 185, J5 186, J5 187, J5 188, J5 189, J5 190, J5 191, J5 192, J5 193, J6 194, J6 195, J6 196, J6 197, J6 198, J6 199, J6 200, J6 201, J6 202, J6 203, J7 204, J7 205, J7 206, J7 207, J7 208, J7 209, J7 210, J7 211, J7 212, J7 213, J7 214, J7 215, J7 216, J7 217, J7 218, J7 219, J7 220, J7 221, J7 222, J7 223, J7 224, J7 225, J7 226, J7 227, J7 228, J7 229, J7 230, J7 231, J7 232, J7 233, J7 234, J7 235, J7 236, J7 237, J7 238, J7 239, J7 240, J7 241, J7 242, J7 243, J7 244, J7 245, J7 246, J7 247, J7 248, J7 249, J7 250, J7 251, J7 252, J7 253, J7 254, J7 255, J7 256, J7 257, J7 258, J7 259, J7 260, J7 261, J7 262, J7 263, J7 264, J7 265, J7 266, J7 267, J7 268, J7 269, J7 270, J7 271, J7 272, J7 273, J7 274, J7 275, J7 276, J7 277, J7 278, J7 279, J7 280, J7 281, J7 282, v2, J15 284, J15 285, J15 286, J15 287, J15 288, J15 289, J15 290, J15 291, J15 292, J15 293, J15 294, J15 295, J15 296, J15 297, J15 298, J15 299, J15 300, J15 301, J15 302, J15 303, J15 304, J15 305, J15 306, J15 307, J15 308, J15 309, J15 310, J15 311, J15 312, J15 313, J15 314, J15 315, J15 316, J15 317, J15 318, J15 319, J15 320, J15 321, J15 322, J15 323, J15 324, J15 325, J15 326, J15 327, J15 328, J15 329, J15 330, J15 331, J15 332, J15 333, J15 334, J15 335, J15 336, J15 337, J15 338, J15 339, J15 340, J15 341, J15 342, J15 343, J15 344, J15 345, J15 346, J15 347, J15 348, J15 349, J15 350, J15 351, J15 352, J15 353, J15 354, J15 355, J15 356, J15 357, J15 358, J15 359, J15 360, J15 361, J15 362, J15 363, J15 364, J15 365, J15 366, J15 367, J15 368, J15 369, J15 370, J15 371, J15 372, J15 373, J15 374, J15 375, J15 376, J15 377, J15 378, J15 379, J15 380, J15 381, J15 382, J15 383, J15 384, J15 385, J15 386], []⟩)) (100) ?_ ?_
         ·refine ⟨0, rfl, ?_, H36, B1, B2, B3, B4, B5, B12, B13, B14, B15, exJ (by as_aux_lemma => kernel_rfl)⟩
          ·omega
         intro m3 a wl3 hI
         obtain ⟨q, rfl, hi_, HL3, B1, B2, B3, B4, B5, B12, B13, B14, B15, J15, rfl⟩ := hI
         refine wp_seq ?_
         refine wsr ?_
         refine wv (.int .i64 (q : Int)) ?_
         refine wv (.bool (decide ((q : Int) < 100))) ?_
         refine wpList_nil (then_normal ?_)
         refine wsplit (decide ((q : Int) < 100)) (fun h25 => ?_) (fun h25 => ?_)
         ·skip
          have h25d := dT h25
          refine wp_skip ?_
          refine then_normal ?_
          refine wp_seq ?_
          refine wp_block ?_
          refine wp_seq ?_
          refine wsr ?_
          refine wrow row_impl_Field B1 (by exact Fld.size_cells _) ?_
          refine wv (.int .i64 (q : Int)) ?_
          refine wcl (IsCell_any Fd hF_ (q : Int) _) ?_
          intro w63 E51
          refine wv (.bool (!(isB Fd (q : Int)))) ?_
          refine wv (.bool (!(isB Fd (q : Int)))) ?_
          have H37 := HL3.trans E51
          refine split_bool (isB Fd (q : Int)) (fun h26 => ?_) (fun h26 => ?_)
          ·skip
           refine wbl 358 false (bnT h26) ?_
           have h26d := isB_true.1 h26
           refine wv (.int .i64 (q : Int)) ?_
           refine wv (.pointer (some ⟨g1, 2, none⟩)) ?_
           refine wixn g1 2 q .i64 arrt__100_uint8 ?_
           replace B1 := B1.ext E51
           refine wld g1 (2 + q) scal_uint8 (B1.get (Fld.getk _ _ (by omega))) ?_
           refine wv (.bool ((Fd.k q) == 3)) ?_
           refine wv (.bool ((Fd.k q) == 3)) ?_
           refine wpList_nil (then_normal ?_)
           refine wsplit ((Fd.k q) == 3) (fun h27 => ?_) (fun h27 => ?_)
           ·skip
            have h27d := eT h27
            refine wp_seq ?_
            refine wsr ?_
            replace B15 := B15.ext E51
            refine wrow row_impl_Cells B15 (by rfl) ?_
            refine wv (.int .i64 (q : Int)) ?_
            refine wcl (sHasCell_any ((cvrS Fd c_ (1 + p1) (1 + p2)).1) ((cvrS Fd c_ (1 + p1) (1 + p2)).2) (q : Int) _) ?_
            intro w64 E52
            refine wpList_nil (then_normal ?_)
            have H38 := H37.trans E52
            refine wsplit (hasB ((cvrS Fd c_ (1 + p1) (1 + p2)).1) ((cvrS Fd c_ (1 + p1) (1 + p2)).2) (q : Int)) (fun h28 => ?_) (fun h28 => ?_)
            ·skip
             exfalso; rw [hP_.cvr_3 hc_ (by omega) (by assumption)] at h28; exact absurd h28 (by decide)
            ·skip
             refine wp_skip ?_
             refine then_normal ?_
             refine wp_exit ?_
             refine then_exit ?_
             refine block_exit ?_
             refine then_normal ?_
             refine wp_region_lit ?_
             refine wv (.int .i64 (q : Int)) ?_
             refine wi64 ((q : Int) + 1) ?_
             refine wv (.int .i64 ((q : Int) + 1)) ?_
             refine wpList_nil (then_normal ?_)
             replace B1 := B1.ext E52
             replace B2 := (B2.ext E51).ext E52
             replace B3 := (B3.ext E51).ext E52
             replace B4 := (B4.ext E51).ext E52
             replace B5 := (B5.ext E51).ext E52
             replace B12 := (B12.ext E51).ext E52
             replace B13 := (B13.ext E51).ext E52
             replace B14 := (B14.ext E51).ext E52
             replace B15 := B15.ext E52
             refine ⟨_, ?_, q + 1, rfl, ?_, H38, B1, B2, B3, B4, B5, B12, B13, B14, B15, exJ (by as_aux_lemma => kernel_rfl)⟩
             ·omega
             ·omega
           ·skip
            have h27d := eF h27
            refine wp_skip ?_
            refine then_normal ?_
            refine wsr ?_
            refine wrow row_impl_Field B1 (by exact Fld.size_cells _) ?_
            refine wv (.int .i64 (q : Int)) ?_
            refine wv (.int .i64 (1 + p1)) ?_
            refine wv (.int .i64 (1 + p2)) ?_
            refine split_bool (Fd.k q == 3) (fun h29 => ?_) (fun h29 => ?_)
            ·skip
             have h29d := eT h29
             refine wcl (iCoverOf_4 Fd hF_ (1 + p1) (1 + p2) x_ y_ hP_ (q : Int) h26 h29 _) ?_
             intro w65 E53
             refine wv (.tuple #[.agg #[.int .u64 ((cvoS Fd (q : Int) (1 + p1) (1 + p2)).1), .int .u64 ((cvoS Fd (q : Int) (1 + p1) (1 + p2)).2)], .int .i64 4]) ?_
             refine wv (.agg #[.int .u64 ((cvoS Fd (q : Int) (1 + p1) (1 + p2)).1), .int .u64 ((cvoS Fd (q : Int) (1 + p1) (1 + p2)).2)]) ?_
             refine wv (.int .i64 4) ?_
             have H39 := H37.trans E53
             replace B1 := B1.ext E53
             replace B2 := (B2.ext E51).ext E53
             replace B3 := (B3.ext E51).ext E53
             replace B4 := (B4.ext E51).ext E53
             replace B5 := (B5.ext E51).ext E53
             replace B12 := (B12.ext E51).ext E53
             replace B13 := (B13.ext E51).ext E53
             replace B14 := (B14.ext E51).ext E53
             replace B15 := (B15.ext E51).ext E53
             refine wnew #[.int .u64 0, .int .u64 0] Try.zeroValue33 rfl ?_
             intro g16 w66 B16 E54 hg_
             have q_g1_g16 := Nat.ne_of_lt (Nat.lt_of_lt_of_le B1.lt hg_)
             have q_g2_g16 := Nat.ne_of_lt (Nat.lt_of_lt_of_le B2.lt hg_)
             have q_g3_g16 := Nat.ne_of_lt (Nat.lt_of_lt_of_le B3.lt hg_)
             have q_g4_g16 := Nat.ne_of_lt (Nat.lt_of_lt_of_le B4.lt hg_)
             have q_g5_g16 := Nat.ne_of_lt (Nat.lt_of_lt_of_le B5.lt hg_)
             have q_g12_g16 := Nat.ne_of_lt (Nat.lt_of_lt_of_le B12.lt hg_)
             have q_g13_g16 := Nat.ne_of_lt (Nat.lt_of_lt_of_le B13.lt hg_)
             have q_g14_g16 := Nat.ne_of_lt (Nat.lt_of_lt_of_le B14.lt hg_)
             have q_g15_g16 := Nat.ne_of_lt (Nat.lt_of_lt_of_le B15.lt hg_)
             have lo_g16 := Nat.le_trans (H39).size hg_
             refine wput #[.int .u64 ((cvoS Fd (q : Int) (1 + p1) (1 + p2)).1), .int .u64 ((cvoS Fd (q : Int) (1 + p1) (1 + p2)).2)] row_impl_Cells B16 (by rfl) (by rfl) (by as_aux_lemma => kernel_rfl) ?_
             intro w67 B16_ X13
             clear B16; have B16 := B16_; clear B16_
             refine wv (.int .i64 4) ?_
             refine wpList_nil (then_normal ?_)
             refine wp_seq ?_
             refine wp_frame (a' := ⟨#[v, v2, undef, undef, J15 4, .pointer (some ⟨g1, 0, none⟩), J7 6, .int .i64 (1 + p1), .int .i64 (1 + p2), u1, J6 10, J7 11, J3 12, u2, J3 14, J7 15, J7 16, J3 17, J3 18, u3, J3 20, J7 21, J3 22, J3 23, J3 24, J7 25, J5 26, J7 27, J7 28, J7 29, J7 30, J7 31, J7 32, .int .i64 c_, J14 34, J14 35, J14 36, J14 37, J14 38, J14 39, .pointer (some ⟨g15, 0, none⟩), J14 41, .int .i64 (q : Int), .pointer (some ⟨g16, 0, none⟩), .int .i64 4, v, J1 46, J1 47, v2, J1 49, J1 50, v, J1 52, v2, J1 54, v2, J1 56, J1 57, v, J1 59, J1 60, J1 61, J1 62, J1 63, J1 64, J1 65, J1 66, u1, J1 68, J2 69, J2 70, J2 71, J2 72, J2 73, J2 74, J2 75, J2 76, J2 77, J2 78, J2 79, J2 80, J2 81, J2 82, u2, J2 84, J2 85, J2 86, J2 87, J2 88, J2 89, J2 90, J2 91, J2 92, J2 93, J2 94, J3 95, J3 96, J3 97, J3 98, J3 99, J3 100, u3, J3 102, J3 103, J3 104, J3 105, J3 106, J3 107, J3 108, J3 109, J3 110, J3 111, J3 112, J3 113, J3 114, J3 115, J3 116, J3 117, J3 118, J3 119, J3 120, J3 121, J3 122, u1, J3 124, J3 125, J3 126, J3 127, J3 128, J3 129, J3 130, J3 131, J3 132, J3 133, u2, J3 135, J3 136, J3 137, J3 138, J3 139, J3 140, J3 141, J3 142, J3 143, J3 144, J3 145, J3 146, J3 147, J3 148, J3 149, J3 150, J3 151, J3 152, J3 153, u3, J3 155, J3 156, J3 157, J3 158, J3 159, J3 160, J3 161, J3 162, J3 163, J3 164, J3 165, J4 166, J5 167, J5 168, J4 169, J4 170, J4 171, J4 172, J4 173, J4 174, J4 175, J4 176, J4 177, J4 178, J4 179, J4 180, J5 181, J5 182, J5 183, J5 184, J5 185, J5 186, J5 187, J5 188, J5 189, J5 190, J5 191, J5 192, J5 193, J6 194, J6 195, J6 196, J6 197, J6 198, J6 199, J6 200, J6 201, J6 202, J6 203, J7 204, J7 205, J7 206, J7 207, J7 208, J7 209, J7 210, J7 211, J7 212, J7 213, J7 214, J7 215, J7 216, J7 217, J7 218, J7 219, J7 220, J7 221, J7 222, J7 223, J7 224, J7 225, J7 226, J7 227, J7 228, J7 229, J7 230, J7 231, J7 232, J7 233, J7 234, J7 235, J7 236, J7 237, J7 238, J7 239, J7 240, J7 241, J7 242, J7 243, J7 244, J7 245, J7 246, J7 247, J7 248, J7 249, J7 250, J7 251, J7 252, J7 253, J7 254, J7 255, J7 256, J7 257, J7 258, J7 259, J7 260, J7 261, J7 262, J7 263, J7 264, J7 265, J7 266, J7 267, J7 268, J7 269, J7 270, J7 271, J7 272, J7 273, J7 274, J7 275, J7 276, J7 277, J7 278, J7 279, J7 280, J7 281, J7 282, v2, J15 284, J15 285, J15 286, J15 287, J15 288, J15 289, J15 290, J15 291, J15 292, J15 293, J15 294, J15 295, J15 296, J15 297, J15 298, J15 299, J15 300, J15 301, J15 302, J15 303, J15 304, J15 305, J15 306, J15 307, J15 308, J15 309, J15 310, J15 311, J15 312, J15 313, J15 314, J15 315, J15 316, J15 317, J15 318, J15 319, J15 320, J15 321, J15 322, J15 323, J15 324, J15 325, J15 326, J15 327, J15 328, J15 329, J15 330, J15 331, J15 332, J15 333, J15 334, J15 335, J15 336, J15 337, J15 338, J15 339, J15 340, J15 341, J15 342, J15 343, J15 344, J15 345, J15 346, J15 347, J15 348, J15 349, .int .i64 (q : Int), .bool (decide ((q : Int) < 100)), J15 352, J15 353, .agg Fd.cells, .int .i64 (q : Int), .bool (isB Fd (q : Int)), .bool (!(isB Fd (q : Int))), .bool false, .int .i64 (q : Int), .pointer (some ⟨g1, 2, none⟩), .pointer (some ⟨g1, 2 + q, none⟩), .int .u8 (Fd.k q), .bool ((Fd.k q) == 3), .bool ((Fd.k q) == 3), J15 365, J15 366, J15 367, .tuple #[.agg #[.int .u64 ((cvoS Fd (q : Int) (1 + p1) (1 + p2)).1), .int .u64 ((cvoS Fd (q : Int) (1 + p1) (1 + p2)).2)], .int .i64 4], .agg Fd.cells, .int .i64 (q : Int), .int .i64 (1 + p1), .int .i64 (1 + p2), .tuple #[.agg #[.int .u64 ((cvoS Fd (q : Int) (1 + p1) (1 + p2)).1), .int .u64 ((cvoS Fd (q : Int) (1 + p1) (1 + p2)).2)], .int .i64 4], .agg #[.int .u64 ((cvoS Fd (q : Int) (1 + p1) (1 + p2)).1), .int .u64 ((cvoS Fd (q : Int) (1 + p1) (1 + p2)).2)], .int .i64 4, J15 376, J15 377, J15 378, J15 379, J15 380, J15 381, J15 382, J15 383, J15 384, J15 385, J15 386], []⟩) (by as_aux_lemma => kernel_rfl) ?_
             replace B15 := X13.blk (B15.ext E54) q_g15_g16
             refine region_go 11 [376, 377, 378, 379, 380, 381, 382, 383, 384, 385, 386] [[], [0], [1], [2], [2], [2, 3, 4], [2], [2], [2, 6, 7], [2, 5, 8], [2, 9]]
              (fun i_ => ([.val (.int .i64 4), .val (.bool true), .val (.bool true), .val undef, .val undef, .val undef, .val undef, .val undef, .val undef, .val undef, .val (.bool true)] : List Fct).getD i_ .any)
              (by as_aux_lemma => kernel_rfl) (by as_aux_lemma => kernel_rfl) (by decide) (by simp) rfl (all_succ (all_succ (all_succ (all_succ (all_succ (all_succ (all_succ (all_succ (all_succ (all_succ (all_succ all_zero ?_) ?_) ?_) ?_) ?_) ?_) ?_) ?_) ?_) ?_) ?_) ?_
             ·refine step0 rfl rfl rfl (fun wr hw => ?_)
              exact OpRun.val (.int .i64 4) (.int .i64 4) (by as_aux_lemma => kernel_rfl) rfl ⟨Ext.refl _, rfl⟩
             ·refine step1 rfl rfl rfl rfl (fun u0 wr hw h0 => ?_)
              cases h0
              exact OpRun.val (.bool true) (.bool true) (by as_aux_lemma => kernel_rfl) rfl ⟨Ext.refl _, rfl⟩
             ·refine step1 rfl rfl rfl rfl (fun u0 wr hw h0 => ?_)
              cases h0
              exact OpRun.val (.bool true) (.bool true) (by as_aux_lemma => kernel_rfl) rfl ⟨Ext.refl _, rfl⟩
             ·refine skip_ rfl rfl rfl (fun u wr h => by cases h; rfl) (fun _ => rfl)
             ·refine skip_ rfl rfl rfl (fun u wr h => by cases h; rfl) (fun _ => rfl)
             ·refine skip_ rfl rfl rfl (fun u wr h => by cases h; rfl) (fun _ => rfl)
             ·refine skip_ rfl rfl rfl (fun u wr h => by cases h; rfl) (fun _ => rfl)
             ·refine skip_ rfl rfl rfl (fun u wr h => by cases h; rfl) (fun _ => rfl)
             ·refine skip_ rfl rfl rfl (fun u wr h => by cases h; rfl) (fun _ => rfl)
             ·refine skip_ rfl rfl rfl (fun u wr h => by cases h; rfl) (fun _ => rfl)
             ·refine step2 rfl rfl rfl rfl rfl (fun u0 u1 wr hw h0 h1 => ?_)
              cases h0
              cases h1
              exact OpRun.val (.bool true) (.bool true) (by as_aux_lemma => kernel_rfl) rfl ⟨Ext.refl _, rfl⟩
             refine end11 (fun u0 u1 u2 u3 u4 u5 u6 u7 u8 u9 u10 w68 E55 f0 f1 f2 f3 f4 f5 f6 f7 f8 f9 f10 => ?_)
             cases f0
             cases f1
             cases f2
             cases f3
             cases f4
             cases f5
             cases f6
             cases f7
             cases f8
             cases f9
             cases f10
             refine wpList_nil (then_normal ?_)
             refine wct ?_
             refine wsr ?_
             refine wv (.bool false) ?_
             refine wpList_nil (then_normal ?_)
             refine wp_ret ?_
             refine block_ret (then_ret (then_ret (block_ret (then_ret ?_))))
             have H40 := (X13.ext w lo_g16 (H39.trans E54)).trans E55
             refine ret1 (.bool true) rfl ?_ rfl ?_
             ·refine (resT (v := .bool false) (by as_aux_lemma => kernel_rfl)).trans ?_
              refine congrArg Value.bool ?_
              first | (exfalso; omega) | (rw [(hP_.far (by omega) (by omega)).2]; rfl)
             exact ⟨rfl, H40⟩
            ·skip
             have h29d := eF h29
             refine wcl (iCoverOf_0 Fd hF_ (1 + p1) (1 + p2) x_ y_ hP_ (q : Int) h26 h29 _) ?_
             intro w69 E56
             refine wv (.tuple #[.agg #[.int .u64 ((cvoS Fd (q : Int) (1 + p1) (1 + p2)).1), .int .u64 ((cvoS Fd (q : Int) (1 + p1) (1 + p2)).2)], .int .i64 0]) ?_
             refine wv (.agg #[.int .u64 ((cvoS Fd (q : Int) (1 + p1) (1 + p2)).1), .int .u64 ((cvoS Fd (q : Int) (1 + p1) (1 + p2)).2)]) ?_
             refine wv (.int .i64 0) ?_
             have H41 := H37.trans E56
             replace B1 := B1.ext E56
             replace B2 := (B2.ext E51).ext E56
             replace B3 := (B3.ext E51).ext E56
             replace B4 := (B4.ext E51).ext E56
             replace B5 := (B5.ext E51).ext E56
             replace B12 := (B12.ext E51).ext E56
             replace B13 := (B13.ext E51).ext E56
             replace B14 := (B14.ext E51).ext E56
             replace B15 := (B15.ext E51).ext E56
             refine wnew #[.int .u64 0, .int .u64 0] Try.zeroValue33 rfl ?_
             intro g17 w70 B17 E57 hg_
             have q_g1_g17 := Nat.ne_of_lt (Nat.lt_of_lt_of_le B1.lt hg_)
             have q_g2_g17 := Nat.ne_of_lt (Nat.lt_of_lt_of_le B2.lt hg_)
             have q_g3_g17 := Nat.ne_of_lt (Nat.lt_of_lt_of_le B3.lt hg_)
             have q_g4_g17 := Nat.ne_of_lt (Nat.lt_of_lt_of_le B4.lt hg_)
             have q_g5_g17 := Nat.ne_of_lt (Nat.lt_of_lt_of_le B5.lt hg_)
             have q_g12_g17 := Nat.ne_of_lt (Nat.lt_of_lt_of_le B12.lt hg_)
             have q_g13_g17 := Nat.ne_of_lt (Nat.lt_of_lt_of_le B13.lt hg_)
             have q_g14_g17 := Nat.ne_of_lt (Nat.lt_of_lt_of_le B14.lt hg_)
             have q_g15_g17 := Nat.ne_of_lt (Nat.lt_of_lt_of_le B15.lt hg_)
             have lo_g17 := Nat.le_trans (H41).size hg_
             refine wput #[.int .u64 ((cvoS Fd (q : Int) (1 + p1) (1 + p2)).1), .int .u64 ((cvoS Fd (q : Int) (1 + p1) (1 + p2)).2)] row_impl_Cells B17 (by rfl) (by rfl) (by as_aux_lemma => kernel_rfl) ?_
             intro w71 B17_ X14
             clear B17; have B17 := B17_; clear B17_
             refine wv (.int .i64 0) ?_
             refine wpList_nil (then_normal ?_)
             refine wp_seq ?_
             refine wp_frame (a' := ⟨#[v, v2, undef, undef, J15 4, .pointer (some ⟨g1, 0, none⟩), J7 6, .int .i64 (1 + p1), .int .i64 (1 + p2), u1, J6 10, J7 11, J3 12, u2, J3 14, J7 15, J7 16, J3 17, J3 18, u3, J3 20, J7 21, J3 22, J3 23, J3 24, J7 25, J5 26, J7 27, J7 28, J7 29, J7 30, J7 31, J7 32, .int .i64 c_, J14 34, J14 35, J14 36, J14 37, J14 38, J14 39, .pointer (some ⟨g15, 0, none⟩), J14 41, .int .i64 (q : Int), .pointer (some ⟨g17, 0, none⟩), .int .i64 0, v, J1 46, J1 47, v2, J1 49, J1 50, v, J1 52, v2, J1 54, v2, J1 56, J1 57, v, J1 59, J1 60, J1 61, J1 62, J1 63, J1 64, J1 65, J1 66, u1, J1 68, J2 69, J2 70, J2 71, J2 72, J2 73, J2 74, J2 75, J2 76, J2 77, J2 78, J2 79, J2 80, J2 81, J2 82, u2, J2 84, J2 85, J2 86, J2 87, J2 88, J2 89, J2 90, J2 91, J2 92, J2 93, J2 94, J3 95, J3 96, J3 97, J3 98, J3 99, J3 100, u3, J3 102, J3 103, J3 104, J3 105, J3 106, J3 107, J3 108, J3 109, J3 110, J3 111, J3 112, J3 113, J3 114, J3 115, J3 116, J3 117, J3 118, J3 119, J3 120, J3 121, J3 122, u1, J3 124, J3 125, J3 126, J3 127, J3 128, J3 129, J3 130, J3 131, J3 132, J3 133, u2, J3 135, J3 136, J3 137, J3 138, J3 139, J3 140, J3 141, J3 142, J3 143, J3 144, J3 145, J3 146, J3 147, J3 148, J3 149, J3 150, J3 151, J3 152, J3 153, u3, J3 155, J3 156, J3 157, J3 158, J3 159, J3 160, J3 161, J3 162, J3 163, J3 164, J3 165, J4 166, J5 167, J5 168, J4 169, J4 170, J4 171, J4 172, J4 173, J4 174, J4 175, J4 176, J4 177, J4 178, J4 179, J4 180, J5 181, J5 182, J5 183, J5 184, J5 185, J5 186, J5 187, J5 188, J5 189, J5 190, J5 191, J5 192, J5 193, J6 194, J6 195, J6 196, J6 197, J6 198, J6 199, J6 200, J6 201, J6 202, J6 203, J7 204, J7 205, J7 206, J7 207, J7 208, J7 209, J7 210, J7 211, J7 212, J7 213, J7 214, J7 215, J7 216, J7 217, J7 218, J7 219, J7 220, J7 221, J7 222, J7 223, J7 224, J7 225, J7 226, J7 227, J7 228, J7 229, J7 230, J7 231, J7 232, J7 233, J7 234, J7 235, J7 236, J7 237, J7 238, J7 239, J7 240, J7 241, J7 242, J7 243, J7 244, J7 245, J7 246, J7 247, J7 248, J7 249, J7 250, J7 251, J7 252, J7 253, J7 254, J7 255, J7 256, J7 257, J7 258, J7 259, J7 260, J7 261, J7 262, J7 263, J7 264, J7 265, J7 266, J7 267, J7 268, J7 269, J7 270, J7 271, J7 272, J7 273, J7 274, J7 275, J7 276, J7 277, J7 278, J7 279, J7 280, J7 281, J7 282, v2, J15 284, J15 285, J15 286, J15 287, J15 288, J15 289, J15 290, J15 291, J15 292, J15 293, J15 294, J15 295, J15 296, J15 297, J15 298, J15 299, J15 300, J15 301, J15 302, J15 303, J15 304, J15 305, J15 306, J15 307, J15 308, J15 309, J15 310, J15 311, J15 312, J15 313, J15 314, J15 315, J15 316, J15 317, J15 318, J15 319, J15 320, J15 321, J15 322, J15 323, J15 324, J15 325, J15 326, J15 327, J15 328, J15 329, J15 330, J15 331, J15 332, J15 333, J15 334, J15 335, J15 336, J15 337, J15 338, J15 339, J15 340, J15 341, J15 342, J15 343, J15 344, J15 345, J15 346, J15 347, J15 348, J15 349, .int .i64 (q : Int), .bool (decide ((q : Int) < 100)), J15 352, J15 353, .agg Fd.cells, .int .i64 (q : Int), .bool (isB Fd (q : Int)), .bool (!(isB Fd (q : Int))), .bool false, .int .i64 (q : Int), .pointer (some ⟨g1, 2, none⟩), .pointer (some ⟨g1, 2 + q, none⟩), .int .u8 (Fd.k q), .bool ((Fd.k q) == 3), .bool ((Fd.k q) == 3), J15 365, J15 366, J15 367, .tuple #[.agg #[.int .u64 ((cvoS Fd (q : Int) (1 + p1) (1 + p2)).1), .int .u64 ((cvoS Fd (q : Int) (1 + p1) (1 + p2)).2)], .int .i64 0], .agg Fd.cells, .int .i64 (q : Int), .int .i64 (1 + p1), .int .i64 (1 + p2), .tuple #[.agg #[.int .u64 ((cvoS Fd (q : Int) (1 + p1) (1 + p2)).1), .int .u64 ((cvoS Fd (q : Int) (1 + p1) (1 + p2)).2)], .int .i64 0], .agg #[.int .u64 ((cvoS Fd (q : Int) (1 + p1) (1 + p2)).1), .int .u64 ((cvoS Fd (q : Int) (1 + p1) (1 + p2)).2)], .int .i64 0, J15 376, J15 377, J15 378, J15 379, J15 380, J15 381, J15 382, J15 383, J15 384, J15 385, J15 386], []⟩) (by as_aux_lemma => kernel_rfl) ?_
             replace B15 := X14.blk (B15.ext E57) q_g15_g17
             have H42 := X14.ext w lo_g17 (H41.trans E57)
             refine split_bool (hasB ((cvrS Fd c_ (1 + p1) (1 + p2)).1) ((cvrS Fd c_ (1 + p1) (1 + p2)).2) (q : Int)) (fun h30 => ?_) (fun h30 => ?_)
             ·skip
              refine region_go 11 [376, 377, 378, 379, 380, 381, 382, 383, 384, 385, 386] [[], [0], [1], [2], [2], [2, 3, 4], [2], [2], [2, 6, 7], [2, 5, 8], [2, 9]]
               (fun i_ => ([.val (.int .i64 0), .val (.bool false), .val (.bool false), .val (.agg #[.int .u64 ((cvrS Fd c_ (1 + p1) (1 + p2)).1), .int .u64 ((cvrS Fd c_ (1 + p1) (1 + p2)).2)]), .val (.int .i64 (q : Int)), .val (.bool true), .val (.agg #[.int .u64 ((cvoS Fd (q : Int) (1 + p1) (1 + p2)).1), .int .u64 ((cvoS Fd (q : Int) (1 + p1) (1 + p2)).2)]), .val (.int .i64 c_), .val (.bool true), .val (.bool false), .val (.bool false)] : List Fct).getD i_ .any)
               (by as_aux_lemma => kernel_rfl) (by as_aux_lemma => kernel_rfl) (by decide) (by simp) rfl (all_succ (all_succ (all_succ (all_succ (all_succ (all_succ (all_succ (all_succ (all_succ (all_succ (all_succ all_zero ?_) ?_) ?_) ?_) ?_) ?_) ?_) ?_) ?_) ?_) ?_) ?_
              ·refine step0 rfl rfl rfl (fun wr hw => ?_)
               exact OpRun.val (.int .i64 0) (.int .i64 0) (by as_aux_lemma => kernel_rfl) rfl ⟨Ext.refl _, rfl⟩
              ·refine step1 rfl rfl rfl rfl (fun u0 wr hw h0 => ?_)
               cases h0
               exact OpRun.val (.bool (0 != 0)) (.bool false) (by as_aux_lemma => kernel_rfl) (by simp) ⟨Ext.refl _, rfl⟩
              ·refine step1 rfl rfl rfl rfl (fun u0 wr hw h0 => ?_)
               cases h0
               exact OpRun.val (.bool false) (.bool false) (by as_aux_lemma => kernel_rfl) rfl ⟨Ext.refl _, rfl⟩
              ·refine gstep1 rfl rfl rfl rfl (fun u wr h => by cases h; rfl) (fun u0 wr hw h0 => ?_)
               cases h0
               with_reducible refine OpRun.row (x := (.tmp 40)) row_impl_Cells (B15.ext hw) ?_ ?_ ?_ ?_
               ·rfl
               ·rfl
               ·as_aux_lemma => kernel_rfl
               ·exact ⟨Ext.refl _, rfl⟩
              ·refine gstep1 rfl rfl rfl rfl (fun u wr h => by cases h; rfl) (fun u0 wr hw h0 => ?_)
               cases h0
               exact OpRun.val (.int .i64 (q : Int)) (.int .i64 (q : Int)) (by as_aux_lemma => kernel_rfl) rfl ⟨Ext.refl _, rfl⟩
              ·refine gstep3 rfl rfl rfl rfl rfl rfl (fun u wr h => by cases h; rfl) (fun u0 u1 u2 wr hw h0 h1 h2 => ?_)
               cases h0
               cases h1
               cases h2
               exact OpRun.call 16 #[.agg #[.int .u64 ((cvrS Fd c_ (1 + p1) (1 + p2)).1), .int .u64 ((cvrS Fd c_ (1 + p1) (1 + p2)).2)], .int .i64 (q : Int)] (by as_aux_lemma => kernel_rfl) ((sHasCell_any ((cvrS Fd c_ (1 + p1) (1 + p2)).1) ((cvrS Fd c_ (1 + p1) (1 + p2)).2) (q : Int) _).mono fun e w1 ⟨he, hb⟩ => ⟨_, he, hb, congrArg Value.bool h30⟩)
              ·refine gstep1 rfl rfl rfl rfl (fun u wr h => by cases h; rfl) (fun u0 wr hw h0 => ?_)
               cases h0
               with_reducible refine OpRun.row (x := (.tmp 43)) row_impl_Cells (B17.ext hw) ?_ ?_ ?_ ?_
               ·rfl
               ·rfl
               ·as_aux_lemma => kernel_rfl
               ·exact ⟨Ext.refl _, rfl⟩
              ·refine gstep1 rfl rfl rfl rfl (fun u wr h => by cases h; rfl) (fun u0 wr hw h0 => ?_)
               cases h0
               exact OpRun.val (.int .i64 c_) (.int .i64 c_) (by as_aux_lemma => kernel_rfl) rfl ⟨Ext.refl _, rfl⟩
              ·refine gstep3 rfl rfl rfl rfl rfl rfl (fun u wr h => by cases h; rfl) (fun u0 u1 u2 wr hw h0 h1 h2 => ?_)
               cases h0
               cases h1
               cases h2
               exact OpRun.call 16 #[.agg #[.int .u64 ((cvoS Fd (q : Int) (1 + p1) (1 + p2)).1), .int .u64 ((cvoS Fd (q : Int) (1 + p1) (1 + p2)).2)], .int .i64 c_] (by as_aux_lemma => kernel_rfl) ((HasCell_sym hP_ hc_ (d := q) (by omega) h26 h29 _).mono fun e w1 ⟨he, hb⟩ => ⟨_, he, hb, congrArg Value.bool h30⟩)
              ·refine gstep3 rfl rfl rfl rfl rfl rfl (fun u wr h => by cases h; rfl) (fun u0 u1 u2 wr hw h0 h1 h2 => ?_)
               cases h0
               cases h1
               cases h2
               exact OpRun.val (.bool false) (.bool false) (by as_aux_lemma => kernel_rfl) rfl ⟨Ext.refl _, rfl⟩
              ·refine step2 rfl rfl rfl rfl rfl (fun u0 u1 wr hw h0 h1 => ?_)
               cases h0
               cases h1
               exact OpRun.val (.bool false) (.bool false) (by as_aux_lemma => kernel_rfl) rfl ⟨Ext.refl _, rfl⟩
              refine end11 (fun u0 u1 u2 u3 u4 u5 u6 u7 u8 u9 u10 w72 E58 f0 f1 f2 f3 f4 f5 f6 f7 f8 f9 f10 => ?_)
              cases f0
              cases f1
              cases f2
              cases f3
              cases f4
              cases f5
              cases f6
              cases f7
              cases f8
              cases f9
              cases f10
              refine wpList_nil (then_normal ?_)
              refine wcf ?_
              refine wp_skip ?_
              refine block_normal (then_normal ?_)
              refine wp_region_lit ?_
              refine wv (.int .i64 (q : Int)) ?_
              refine wi64 ((q : Int) + 1) ?_
              refine wv (.int .i64 ((q : Int) + 1)) ?_
              refine wpList_nil (then_normal ?_)
              replace B1 := (X14.blk (B1.ext E57) q_g1_g17).ext E58
              replace B2 := (X14.blk (B2.ext E57) q_g2_g17).ext E58
              replace B3 := (X14.blk (B3.ext E57) q_g3_g17).ext E58
              replace B4 := (X14.blk (B4.ext E57) q_g4_g17).ext E58
              replace B5 := (X14.blk (B5.ext E57) q_g5_g17).ext E58
              replace B12 := (X14.blk (B12.ext E57) q_g12_g17).ext E58
              replace B13 := (X14.blk (B13.ext E57) q_g13_g17).ext E58
              replace B14 := (X14.blk (B14.ext E57) q_g14_g17).ext E58
              replace B15 := B15.ext E58
              have H43 := H42.trans E58
              refine ⟨_, ?_, q + 1, rfl, ?_, H43, B1, B2, B3, B4, B5, B12, B13, B14, B15, exJ (by as_aux_lemma => kernel_rfl)⟩
              ·omega
              ·omega
             ·skip
              refine region_go 11 [376, 377, 378, 379, 380, 381, 382, 383, 384, 385, 386] [[], [0], [1], [2], [2], [2, 3, 4], [2], [2], [2, 6, 7], [2, 5, 8], [2, 9]]
               (fun i_ => ([.val (.int .i64 0), .val (.bool false), .val (.bool false), .val (.agg #[.int .u64 ((cvrS Fd c_ (1 + p1) (1 + p2)).1), .int .u64 ((cvrS Fd c_ (1 + p1) (1 + p2)).2)]), .val (.int .i64 (q : Int)), .val (.bool false), .val (.agg #[.int .u64 ((cvoS Fd (q : Int) (1 + p1) (1 + p2)).1), .int .u64 ((cvoS Fd (q : Int) (1 + p1) (1 + p2)).2)]), .val (.int .i64 c_), .val (.bool false), .val (.bool false), .val (.bool false)] : List Fct).getD i_ .any)
               (by as_aux_lemma => kernel_rfl) (by as_aux_lemma => kernel_rfl) (by decide) (by simp) rfl (all_succ (all_succ (all_succ (all_succ (all_succ (all_succ (all_succ (all_succ (all_succ (all_succ (all_succ all_zero ?_) ?_) ?_) ?_) ?_) ?_) ?_) ?_) ?_) ?_) ?_) ?_
              ·refine step0 rfl rfl rfl (fun wr hw => ?_)
               exact OpRun.val (.int .i64 0) (.int .i64 0) (by as_aux_lemma => kernel_rfl) rfl ⟨Ext.refl _, rfl⟩
              ·refine step1 rfl rfl rfl rfl (fun u0 wr hw h0 => ?_)
               cases h0
               exact OpRun.val (.bool (0 != 0)) (.bool false) (by as_aux_lemma => kernel_rfl) (by simp) ⟨Ext.refl _, rfl⟩
              ·refine step1 rfl rfl rfl rfl (fun u0 wr hw h0 => ?_)
               cases h0
               exact OpRun.val (.bool false) (.bool false) (by as_aux_lemma => kernel_rfl) rfl ⟨Ext.refl _, rfl⟩
              ·refine gstep1 rfl rfl rfl rfl (fun u wr h => by cases h; rfl) (fun u0 wr hw h0 => ?_)
               cases h0
               with_reducible refine OpRun.row (x := (.tmp 40)) row_impl_Cells (B15.ext hw) ?_ ?_ ?_ ?_
               ·rfl
               ·rfl
               ·as_aux_lemma => kernel_rfl
               ·exact ⟨Ext.refl _, rfl⟩
              ·refine gstep1 rfl rfl rfl rfl (fun u wr h => by cases h; rfl) (fun u0 wr hw h0 => ?_)
               cases h0
               exact OpRun.val (.int .i64 (q : Int)) (.int .i64 (q : Int)) (by as_aux_lemma => kernel_rfl) rfl ⟨Ext.refl _, rfl⟩
              ·refine gstep3 rfl rfl rfl rfl rfl rfl (fun u wr h => by cases h; rfl) (fun u0 u1 u2 wr hw h0 h1 h2 => ?_)
               cases h0
               cases h1
               cases h2
               exact OpRun.call 16 #[.agg #[.int .u64 ((cvrS Fd c_ (1 + p1) (1 + p2)).1), .int .u64 ((cvrS Fd c_ (1 + p1) (1 + p2)).2)], .int .i64 (q : Int)] (by as_aux_lemma => kernel_rfl) ((sHasCell_any ((cvrS Fd c_ (1 + p1) (1 + p2)).1) ((cvrS Fd c_ (1 + p1) (1 + p2)).2) (q : Int) _).mono fun e w1 ⟨he, hb⟩ => ⟨_, he, hb, congrArg Value.bool h30⟩)
              ·refine gstep1 rfl rfl rfl rfl (fun u wr h => by cases h; rfl) (fun u0 wr hw h0 => ?_)
               cases h0
               with_reducible refine OpRun.row (x := (.tmp 43)) row_impl_Cells (B17.ext hw) ?_ ?_ ?_ ?_
               ·rfl
               ·rfl
               ·as_aux_lemma => kernel_rfl
               ·exact ⟨Ext.refl _, rfl⟩
              ·refine gstep1 rfl rfl rfl rfl (fun u wr h => by cases h; rfl) (fun u0 wr hw h0 => ?_)
               cases h0
               exact OpRun.val (.int .i64 c_) (.int .i64 c_) (by as_aux_lemma => kernel_rfl) rfl ⟨Ext.refl _, rfl⟩
              ·refine gstep3 rfl rfl rfl rfl rfl rfl (fun u wr h => by cases h; rfl) (fun u0 u1 u2 wr hw h0 h1 h2 => ?_)
               cases h0
               cases h1
               cases h2
               exact OpRun.call 16 #[.agg #[.int .u64 ((cvoS Fd (q : Int) (1 + p1) (1 + p2)).1), .int .u64 ((cvoS Fd (q : Int) (1 + p1) (1 + p2)).2)], .int .i64 c_] (by as_aux_lemma => kernel_rfl) ((HasCell_sym hP_ hc_ (d := q) (by omega) h26 h29 _).mono fun e w1 ⟨he, hb⟩ => ⟨_, he, hb, congrArg Value.bool h30⟩)
              ·refine gstep3 rfl rfl rfl rfl rfl rfl (fun u wr h => by cases h; rfl) (fun u0 u1 u2 wr hw h0 h1 h2 => ?_)
               cases h0
               cases h1
               cases h2
               exact OpRun.val (.bool false) (.bool false) (by as_aux_lemma => kernel_rfl) rfl ⟨Ext.refl _, rfl⟩
              ·refine step2 rfl rfl rfl rfl rfl (fun u0 u1 wr hw h0 h1 => ?_)
               cases h0
               cases h1
               exact OpRun.val (.bool false) (.bool false) (by as_aux_lemma => kernel_rfl) rfl ⟨Ext.refl _, rfl⟩
              refine end11 (fun u0 u1 u2 u3 u4 u5 u6 u7 u8 u9 u10 w73 E59 f0 f1 f2 f3 f4 f5 f6 f7 f8 f9 f10 => ?_)
              cases f0
              cases f1
              cases f2
              cases f3
              cases f4
              cases f5
              cases f6
              cases f7
              cases f8
              cases f9
              cases f10
              refine wpList_nil (then_normal ?_)
              refine wcf ?_
              refine wp_skip ?_
              refine block_normal (then_normal ?_)
              refine wp_region_lit ?_
              refine wv (.int .i64 (q : Int)) ?_
              refine wi64 ((q : Int) + 1) ?_
              refine wv (.int .i64 ((q : Int) + 1)) ?_
              refine wpList_nil (then_normal ?_)
              replace B1 := (X14.blk (B1.ext E57) q_g1_g17).ext E59
              replace B2 := (X14.blk (B2.ext E57) q_g2_g17).ext E59
              replace B3 := (X14.blk (B3.ext E57) q_g3_g17).ext E59
              replace B4 := (X14.blk (B4.ext E57) q_g4_g17).ext E59
              replace B5 := (X14.blk (B5.ext E57) q_g5_g17).ext E59
              replace B12 := (X14.blk (B12.ext E57) q_g12_g17).ext E59
              replace B13 := (X14.blk (B13.ext E57) q_g13_g17).ext E59
              replace B14 := (X14.blk (B14.ext E57) q_g14_g17).ext E59
              replace B15 := B15.ext E59
              have H44 := H42.trans E59
              refine ⟨_, ?_, q + 1, rfl, ?_, H44, B1, B2, B3, B4, B5, B12, B13, B14, B15, exJ (by as_aux_lemma => kernel_rfl)⟩
              ·omega
              ·omega
          ·skip
           refine wbl 358 true (bnF h26) ?_
           refine wsk ?_
           refine wsk ?_
           refine wsk ?_
           refine wsk ?_
           refine wsk ?_
           refine wv (.bool true) ?_
           refine wpList_nil (then_normal ?_)
           refine wct ?_
           refine wp_seq ?_
           refine wsr ?_
           replace B15 := B15.ext E51
           refine wrow row_impl_Cells B15 (by rfl) ?_
           refine wv (.int .i64 (q : Int)) ?_
           refine wcl (sHasCell_any ((cvrS Fd c_ (1 + p1) (1 + p2)).1) ((cvrS Fd c_ (1 + p1) (1 + p2)).2) (q : Int) _) ?_
           intro w74 E60
           refine wpList_nil (then_normal ?_)
           have H45 := H37.trans E60
           refine wsplit (hasB ((cvrS Fd c_ (1 + p1) (1 + p2)).1) ((cvrS Fd c_ (1 + p1) (1 + p2)).2) (q : Int)) (fun h31 => ?_) (fun h31 => ?_)
           ·skip
            exfalso; rw [hP_.cvr_1 hc_ (by omega) (by assumption)] at h31; exact absurd h31 (by decide)
           ·skip
            refine wp_skip ?_
            refine then_normal ?_
            refine wp_exit ?_
            refine then_exit ?_
            refine block_exit ?_
            refine then_normal ?_
            refine wp_region_lit ?_
            refine wv (.int .i64 (q : Int)) ?_
            refine wi64 ((q : Int) + 1) ?_
            refine wv (.int .i64 ((q : Int) + 1)) ?_
            refine wpList_nil (then_normal ?_)
            replace B1 := (B1.ext E51).ext E60
            replace B2 := (B2.ext E51).ext E60
            replace B3 := (B3.ext E51).ext E60
            replace B4 := (B4.ext E51).ext E60
            replace B5 := (B5.ext E51).ext E60
            replace B12 := (B12.ext E51).ext E60
            replace B13 := (B13.ext E51).ext E60
            replace B14 := (B14.ext E51).ext E60
            replace B15 := B15.ext E60
            refine ⟨_, ?_, q + 1, rfl, ?_, H45, B1, B2, B3, B4, B5, B12, B13, B14, B15, exJ (by as_aux_lemma => kernel_rfl)⟩
            ·omega
            ·omega
         ·skip
          have h25d := dF h25
          refine wp_exit ?_
          refine then_exit ?_
          refine then_exit ?_
          refine block_exit ?_
          refine then_normal ?_
          refine wsr ?_
          refine wv (.bool true) ?_
          refine wpList_nil (then_normal ?_)
          refine wp_ret ?_
          refine ret1 (.bool true) rfl ?_ rfl ?_
          ·exact resT (by as_aux_lemma => kernel_rfl)
          exact ⟨rfl, HL3⟩
end
set_option maxRecDepth 100000 in
theorem fnPlaces_lifted (os : Os) (started : os.Started) (H : Type) (enc : TypeId × Value → H) :
 ReturnsInHanded {} Try.checked os 3 .any (Rows.fnPlacesSpec.pre6 enc Try.prog Try.f3 Rows.fnPlacesRow.domain false) (Rows.fnPlacesSpec.post enc Try.prog Try.f3 false true false false) := by
 refine returnsInHanded_of_change (C := Try.checked) ownKnob_none started (by as_aux_lemma => kernel_rfl) Try.func3
  (ChangeSpec.witness6 (enc := enc) (C := Try.checked) false ⟨#[], #[.slice none 0 0, .slice none 0 0], []⟩ 8 (by as_aux_lemma => kernel_rfl) (by as_aux_lemma => kernel_rfl) (by as_aux_lemma => kernel_rfl) (by as_aux_lemma => kernel_rfl)) ?_
 intro W base args ds gs before hval0 hW hcnd _
 have hval : ∀ (j : Nat) t v, Try.f3.params[j]? = some t → args[j]? = some v → Value.okWide Try.prog W .any base t v := hval0
 have hW' := hW
 obtain ⟨p, q, hA0, hV, rfl, hfz, hnd⟩ := hW
 have hA : DataW.TrodAll enc Try.prog W 0 (fun _ => true) true Try.f3.params.toList args.toList ds p := hA0
 rw [Try.params3] at hA hval
 obtain ⟨v0, vs0, d0, ds0, p0, q0, hargs, rfl, rfl, h0, r0⟩ := trodAll_cons hA
 obtain ⟨v1, vs1, d1, ds1, p1, q1, rfl, rfl, rfl, h1, r1⟩ := trodAll_cons r0
 obtain ⟨rfl, rfl, rfl⟩ := trodAll_nil r1
 obtain rfl : args = #[v0, v1] := by cases args; simp_all
 obtain ⟨rfl, rfl⟩ := trodVars_none hV
 have k0 := h0
 have lt0 : ∀ x ∈ p0, x.block < W.heap.size := by obtain ⟨m, hm⟩ := k0; exact DataW.trod_lt m _ _ _ hm
 obtain ⟨xs, hin0, hwl0⟩ := open_slin (k := .u8) Try.underlying22 Try.underlying5 (by as_aux_lemma => kernel_rfl) (hval 0 22 v0 rfl rfl) h0
 have k1 := h1
 have lt1 : ∀ x ∈ p1, x.block < W.heap.size := by obtain ⟨m, hm⟩ := k1; exact DataW.trod_lt m _ _ _ hm
 obtain ⟨ys, hin1, hwl1⟩ := open_slin (k := .u8) Try.underlying22 Try.underlying5 (by as_aux_lemma => kernel_rfl) (hval 1 22 v1 rfl rfl) h1
 clear hA0 hval0
 refine (FnPlaces_walk xs v0 ys v1 (atI_u8 hwl0) (atI_u8 hwl1) W hin0 hin1).mono fun e W' ⟨he, hx⟩ => ?_
 have bel := hx.below
 subst he
 exact ⟨_, rfl, _, _, _, [], _, [], hW', trodAll_mk1 (shut_bool Try.underlying4 _), (trodAll_cons_mk (Below.trod laidOut_ (by as_aux_lemma => kernel_rfl) (of_decide_eq_true (by as_aux_lemma => kernel_rfl)) k0 bel lt0) (trodAll_cons_mk (Below.trod laidOut_ (by as_aux_lemma => kernel_rfl) (of_decide_eq_true (by as_aux_lemma => kernel_rfl)) k1 bel lt1) trodAll_mk0)), rfl, bel.frame _, fun h => by cases h⟩
theorem fnPlaces_holds : Rows.FnPlacesSaid :=
 OpenClaim.holds_of_wide 3 Try.f3 rfl rfl rfl rfl rfl rfl rfl ⟨rfl, rfl, rfl, rfl, rfl⟩ rfl rfl rfl rfl rfl (by as_aux_lemma => kernel_rfl) Try.func3 (by as_aux_lemma => kernel_rfl)
  (of_decide_eq_true (by as_aux_lemma => kernel_rfl)) (by unfold Func.isWrapper; first | (rw [if_pos (by decide +kernel)]; kernel_rfl) | (rw [if_neg (by decide +kernel)]; exact ⟨rfl, rfl⟩))
  (fun os started H enc _ => fnPlaces_lifted os started H enc)
end Go.Proofs.Ytgglcebaanomhaa
