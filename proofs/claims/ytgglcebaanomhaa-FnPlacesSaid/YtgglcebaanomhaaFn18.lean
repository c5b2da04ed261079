/-
 Contracts: cells that are apart, one after the other. No conditions.
-/
import Derived.Test.YtgglcebaanomhaaTy
import Derived.Test.YtgglcebaanomhaaSl
import Derived.Test.YtgglcebaanomhaaMth
import Derived.Test.YtgglcebaanomhaaFn17
import Derived.Test.YtgglcebaanomhaaAq
import Derived.Test.YtgglcebaanomhaaDr
namespace Go.Proofs.Ytgglcebaanomhaa
open Go.RowKit
set_option linter.unusedSimpArgs false
set_option linter.unusedVariables false
set_option maxHeartbeats 4000000
set_option maxRecDepth 100000
attribute [local irreducible] wpList Code.wp
theorem iApartCells_any (F : Fld) (hF : F.wf) (w0 : Int) (l : Int) (x y : Int) (hwx : wrd x) (hwy : wrd y) (w : World) :
 Calls Try.prog 12 #[.agg F.cells, .int .i64 w0, .int .i64 l, .agg #[.int .u64 x, .int .u64 y]] w fun e w' => (code F (inB w0 1 1000 && inB l 1 1000) = 0 ∧ RetI w 2 .i64 (apL F w0 l (tgL F x y 100) (tgL F x y 100).length) (fun v => .tuple #[v, .int .i64 0]) e w') ∨ (code F (inB w0 1 1000 && inB l 1 1000) ≠ 0 ∧ e = .returned (.tuple #[.slice none 0 0, .int .i64 (code F (inB w0 1 1000 && inB l 1 1000))]) ∧ Ext w w') := by
 refine calls_of_wp Try.func12 rfl ?_
 refine wp_frame (a' := ⟨#[.agg F.cells, .int .i64 w0, .int .i64 l, .agg #[.int .u64 x, .int .u64 y], undef, undef, undef, undef, undef, undef, undef, undef, undef, undef, undef, undef, undef, undef, undef, undef, undef, undef, undef, undef, undef, undef, undef, undef, undef, undef, undef, undef, undef, undef, undef, undef, undef, undef, undef, undef, undef, undef, undef, undef, undef, undef, undef, undef, undef], []⟩) (by kernel_rfl) ?_
 refine wsr ?_
 refine wbox F.cells ?_
 intro g1 w1 B1 E1 hg_
 have lo_g1 := Nat.le_trans ((Ext.refl w)).size hg_
 have H1 := (Ext.refl w).trans E1
 refine wboxv (.int .i64 w0) ?_
 intro g2 w2 B2 E2 hg_
 have q_g1_g2 := Nat.ne_of_lt (Nat.lt_of_lt_of_le B1.lt hg_)
 have lo_g2 := Nat.le_trans (H1).size hg_
 have H2 := H1.trans E2
 replace B1 := B1.ext E2
 refine wboxv (.int .i64 l) ?_
 intro g3 w3 B3 E3 hg_
 have q_g1_g3 := Nat.ne_of_lt (Nat.lt_of_lt_of_le B1.lt hg_)
 have q_g2_g3 := Nat.ne_of_lt (Nat.lt_of_lt_of_le B2.lt hg_)
 have lo_g3 := Nat.le_trans (H2).size hg_
 have H3 := H2.trans E3
 replace B1 := B1.ext E3
 replace B2 := B2.ext E3
 refine wbox #[.int .u64 x, .int .u64 y] ?_
 intro g4 w4 B4 E4 hg_
 have q_g1_g4 := Nat.ne_of_lt (Nat.lt_of_lt_of_le B1.lt hg_)
 have q_g2_g4 := Nat.ne_of_lt (Nat.lt_of_lt_of_le B2.lt hg_)
 have q_g3_g4 := Nat.ne_of_lt (Nat.lt_of_lt_of_le B3.lt hg_)
 have lo_g4 := Nat.le_trans (H3).size hg_
 refine wv (.slice none 0 0) ?_
 refine wv (.int .i64 0) ?_
 refine wpList_nil (then_normal ?_)
 refine wp_seq ?_
 refine wsr ?_
 refine wv (.func (.func 50) #[] #[.pointer (some ⟨g2, 0, none⟩), .pointer (some ⟨g3, 0, none⟩)]) ?_
 replace B1 := B1.ext E4
 replace B2 := B2.ext E4
 replace B3 := B3.ext E4
 refine wcl (fieldCode_any F hF g1 _ (.func (.func 50) #[] #[.pointer (some ⟨g2, 0, none⟩), .pointer (some ⟨g3, 0, none⟩)]) 50 #[.pointer (some ⟨g2, 0, none⟩), .pointer (some ⟨g3, 0, none⟩)] (fun _ => by kernel_rfl) (inB w0 1 1000 && inB l 1 1000) _ B1 (fun _ E_ => ApartCells1_any w0 g2 _ l g3 _ _ (B2.ext E_) (B3.ext E_))) ?_
 intro w5 E5
 refine wv (.int .i64 (code F (inB w0 1 1000 && inB l 1 1000))) ?_
 refine wpList_nil (then_normal ?_)
 refine wsr ?_
 refine wv (.int .i64 (code F (inB w0 1 1000 && inB l 1 1000))) ?_
 refine wv (.bool ((code F (inB w0 1 1000 && inB l 1 1000)) != 0)) ?_
 refine wpList_nil (then_normal ?_)
 have H4 := (H3.trans E4).trans E5
 refine wsplit ((code F (inB w0 1 1000 && inB l 1 1000)) != 0) (fun h1 => ?_) (fun h1 => ?_)
 ·skip
  have h1d := nT h1
  refine wsr ?_
  refine wv (.int .i64 (code F (inB w0 1 1000 && inB l 1 1000))) ?_
  refine wv (.slice none 0 0) ?_
  refine wv (.int .i64 (code F (inB w0 1 1000 && inB l 1 1000))) ?_
  refine wpList_nil (then_normal ?_)
  refine wp_ret ?_
  refine then_ret ?_
  refine ret2 (.slice none 0 0) (.int .i64 (code F (inB w0 1 1000 && inB l 1 1000))) rfl ?_ ?_ rfl ?_
  ·exact resT (by kernel_rfl)
  ·exact resT (by kernel_rfl)
  exact .inr ⟨(by assumption), rfl, H4⟩
 ·skip
  have h1d := nF h1
  have h1o := (code_zero h1d).1
  have h1z := (code_zero h1d).2
  obtain ⟨h1za, h1zb⟩ := andT h1z
  have h1zad := inT h1za
  have h1zbd := inT h1zb
  refine wp_skip ?_
  refine then_normal ?_
  refine wsr ?_
  replace B1 := B1.ext E5
  replace B2 := B2.ext E5
  replace B3 := B3.ext E5
  replace B4 := B4.ext E5
  refine wbsl 0 #[] slt__int64 ?_
  intro g5 w6 B5 E6 hg_
  have q_g1_g5 := Nat.ne_of_lt (Nat.lt_of_lt_of_le B1.lt hg_)
  have q_g2_g5 := Nat.ne_of_lt (Nat.lt_of_lt_of_le B2.lt hg_)
  have q_g3_g5 := Nat.ne_of_lt (Nat.lt_of_lt_of_le B3.lt hg_)
  have q_g4_g5 := Nat.ne_of_lt (Nat.lt_of_lt_of_le B4.lt hg_)
  have lo_g5 := Nat.le_trans (H4).size hg_
  have S1 : SlI #[] 0 0 .i64 [] := SlI.nil
  refine wv (.agg #[.int .u64 0, .int .u64 0]) ?_
  have H5 := H4.trans E6
  replace B1 := B1.ext E6
  replace B2 := B2.ext E6
  replace B3 := B3.ext E6
  replace B4 := B4.ext E6
  refine wnew #[.int .u64 0, .int .u64 0] Try.zeroValue33 rfl ?_
  intro g6 w7 B6 E7 hg_
  have q_g1_g6 := Nat.ne_of_lt (Nat.lt_of_lt_of_le B1.lt hg_)
  have q_g2_g6 := Nat.ne_of_lt (Nat.lt_of_lt_of_le B2.lt hg_)
  have q_g3_g6 := Nat.ne_of_lt (Nat.lt_of_lt_of_le B3.lt hg_)
  have q_g4_g6 := Nat.ne_of_lt (Nat.lt_of_lt_of_le B4.lt hg_)
  have q_g5_g6 := Nat.ne_of_lt (Nat.lt_of_lt_of_le B5.lt hg_)
  have lo_g6 := Nat.le_trans (H5).size hg_
  refine wv (.slice (some ⟨g5, 0, none⟩) 0 0) ?_
  refine wput #[.int .u64 0, .int .u64 0] row_impl_Cells B6 (by rfl) (by rfl) (by kernel_rfl) ?_
  intro w8 B6_ X1
  clear B6; have B6 := B6_; clear B6_
  refine wpList_nil (then_normal ?_)
  refine wp_seq ?_
  refine wsr ?_
  replace B4 := X1.blk (B4.ext E7) q_g4_g6
  refine wrow row_impl_Cells B4 (by rfl) ?_
  replace B1 := X1.blk (B1.ext E7) q_g1_g6
  refine wcl (soilOf_any F hF g1 _ x y (by first | assumption | exact okP.w2 (setC_ok 100 (Nat.le_refl _)) | exact okP.w2 hI.1 | exact okP.w2 hU.1) _ B1) ?_
  intro w9 E8
  replace B1 := B1.ext E8
  replace B2 := (X1.blk (B2.ext E7) q_g2_g6).ext E8
  replace B3 := (X1.blk (B3.ext E7) q_g3_g6).ext E8
  replace B4 := B4.ext E8
  replace B5 := (X1.blk (B5.ext E7) q_g5_g6).ext E8
  replace B6 := B6.ext E8
  have H6 := (X1.ext w lo_g6 (H5.trans E7)).trans E8
  refine wcli (iListOf_any (bo0 x (setC F (fun c_ => F.k c_.toNat == 0) 100).1) (bo1 y (setC F (fun c_ => F.k c_.toNat == 0) 100).2) _) ?_
  intro g7 cap1 cs1 w10 B7 S2 E9 hg_
  have q_g1_g7 := Nat.ne_of_lt (Nat.lt_of_lt_of_le B1.lt hg_)
  have q_g2_g7 := Nat.ne_of_lt (Nat.lt_of_lt_of_le B2.lt hg_)
  have q_g3_g7 := Nat.ne_of_lt (Nat.lt_of_lt_of_le B3.lt hg_)
  have q_g4_g7 := Nat.ne_of_lt (Nat.lt_of_lt_of_le B4.lt hg_)
  have q_g5_g7 := Nat.ne_of_lt (Nat.lt_of_lt_of_le B5.lt hg_)
  have q_g6_g7 := Nat.ne_of_lt (Nat.lt_of_lt_of_le B6.lt hg_)
  have lo_g7 := Nat.le_trans (H6).size hg_
  have ll1 := listL_length (bo0 x (setC F (fun c_ => F.k c_.toNat == 0) 100).1) (bo1 y (setC F (fun c_ => F.k c_.toNat == 0) 100).2)
  refine wv (.int .i64 ((listL (bo0 x (setC F (fun c_ => F.k c_.toNat == 0) 100).1) (bo1 y (setC F (fun c_ => F.k c_.toNat == 0) 100).2)).length : Int)) ?_
  refine wv (.int .i64 0) ?_
  refine wpList_nil (then_normal ?_)
  refine wp_block ?_
  replace B5 := B5.ext E9
  replace B1 := B1.ext E9
  replace B2 := B2.ext E9
  replace B3 := B3.ext E9
  replace B4 := B4.ext E9
  replace B6 := B6.ext E9
  have H7 := H6.trans E9
  refine wp_loop_k (fun m1 a wl1 => ∃ (i : Nat) (u_ : Int × Int) (go : Nat) (no : Nat) (capo : Nat) (cso : Array Value), m1 = (listL (bo0 x (setC F (fun c_ => F.k c_.toNat == 0) 100).1) (bo1 y (setC F (fun c_ => F.k c_.toNat == 0) 100).2)).length - i ∧ i ≤ (listL (bo0 x (setC F (fun c_ => F.k c_.toNat == 0) 100).1) (bo1 y (setC F (fun c_ => F.k c_.toNat == 0) 100).2)).length ∧ usI F w0 l (apL F w0 l (listL (bo0 x (setC F (fun c_ => F.k c_.toNat == 0) 100).1) (bo1 y (setC F (fun c_ => F.k c_.toNat == 0) 100).2)) i) (apL F w0 l (listL (bo0 x (setC F (fun c_ => F.k c_.toNat == 0) 100).1) (bo1 y (setC F (fun c_ => F.k c_.toNat == 0) 100).2)) i).length u_ ∧ SlI cso no capo .i64 (apL F w0 l (listL (bo0 x (setC F (fun c_ => F.k c_.toNat == 0) 100).1) (bo1 y (setC F (fun c_ => F.k c_.toNat == 0) 100).2)) i) ∧ w.heap.size ≤ go ∧ g1 ≠ go ∧ g2 ≠ go ∧ g3 ≠ go ∧ g4 ≠ go ∧ g6 ≠ go ∧ g7 ≠ go ∧ Ext w wl1 ∧ Blk wl1 g1 29 F.cells ∧ Blk wl1 g2 2 #[.int .i64 w0] ∧ Blk wl1 g3 2 #[.int .i64 l] ∧ Blk wl1 g4 33 #[.int .u64 x, .int .u64 y] ∧ Blk wl1 g6 33 #[.int .u64 u_.1, .int .u64 u_.2] ∧ Blk wl1 g7 2 cs1 ∧ Blk wl1 go 2 cso ∧ (∃ J1 : Nat → Value, a = ⟨#[.agg F.cells, .int .i64 w0, .int .i64 l, .agg #[.int .u64 x, .int .u64 y], .pointer (some ⟨g1, 0, none⟩), .pointer (some ⟨g2, 0, none⟩), .pointer (some ⟨g3, 0, none⟩), .pointer (some ⟨g4, 0, none⟩), .slice none 0 0, .int .i64 0, .int .i64 (code F (inB w0 1 1000 && inB l 1 1000)), .slice (some ⟨go, 0, none⟩) no capo, .pointer (some ⟨g6, 0, none⟩), undef, J1 14, J1 15, .func (.func 50) #[] #[.pointer (some ⟨g2, 0, none⟩), .pointer (some ⟨g3, 0, none⟩)], .int .i64 (code F (inB w0 1 1000 && inB l 1 1000)), .int .i64 (code F (inB w0 1 1000 && inB l 1 1000)), .bool ((code F (inB w0 1 1000 && inB l 1 1000)) != 0), undef, .slice (some ⟨g5, 0, none⟩) 0 0, .agg #[.int .u64 0, .int .u64 0], .agg #[.int .u64 x, .int .u64 y], .agg #[.int .u64 (bo0 x (setC F (fun c_ => F.k c_.toNat == 0) 100).1), .int .u64 (bo1 y (setC F (fun c_ => F.k c_.toNat == 0) 100).2)], .slice (some ⟨g7, 0, none⟩) ((listL (bo0 x (setC F (fun c_ => F.k c_.toNat == 0) 100).1) (bo1 y (setC F (fun c_ => F.k c_.toNat == 0) 100).2)).length) cap1, .int .i64 ((listL (bo0 x (setC F (fun c_ => F.k c_.toNat == 0) 100).1) (bo1 y (setC F (fun c_ => F.k c_.toNat == 0) 100).2)).length : Int), .int .i64 (i : Int), J1 28, J1 29, J1 30, J1 31, J1 32, J1 33, J1 34, J1 35, J1 36, J1 37, J1 38, J1 39, J1 40, J1 41, J1 42, J1 43, J1 44, J1 45, J1 46, J1 47, undef], []⟩)) ((listL (bo0 x (setC F (fun c_ => F.k c_.toNat == 0) 100).1) (bo1 y (setC F (fun c_ => F.k c_.toNat == 0) 100).2)).length) ?_ ?_
  ·refine ⟨0, (0, 0), g5, 0, 0, #[], rfl, ?_, ?_, ?_, ?_, ?_, ?_, ?_, ?_, ?_, ?_, H7, B1, B2, B3, B4, B6, B7, B5, exJ (by kernel_rfl)⟩
   ·omega
   ·exact us_0
   ·refine S1.of_eq ?_
    first | rfl | exact apL_0.symm
   ·exact lo_g5
   ·exact q_g1_g5
   ·exact q_g2_g5
   ·exact q_g3_g5
   ·exact q_g4_g5
   ·exact (Ne.symm q_g5_g6)
   ·exact (Ne.symm q_g5_g7)
  intro m1 a wl1 hI
  obtain ⟨i, u_, go, no, capo, cso, rfl, hi_, hU, So, lo_go, n_g1_go, n_g2_go, n_g3_go, n_g4_go, n_g6_go, n_g7_go, HL1, B1, B2, B3, B4, B6, B7, Bo, J1, rfl⟩ := hI
  have cl_ := apL_length F w0 l (listL (bo0 x (setC F (fun c_ => F.k c_.toNat == 0) 100).1) (bo1 y (setC F (fun c_ => F.k c_.toNat == 0) 100).2)) i
  have len_So := So.len
  refine wsr ?_
  refine wv (.bool (decide ((i : Int) < ((listL (bo0 x (setC F (fun c_ => F.k c_.toNat == 0) 100).1) (bo1 y (setC F (fun c_ => F.k c_.toNat == 0) 100).2)).length : Int)))) ?_
  refine wpList_nil (then_normal ?_)
  refine wp_seq ?_
  refine wsplit (decide ((i : Int) < ((listL (bo0 x (setC F (fun c_ => F.k c_.toNat == 0) 100).1) (bo1 y (setC F (fun c_ => F.k c_.toNat == 0) 100).2)).length : Int))) (fun h2 => ?_) (fun h2 => ?_)
  ·skip
   have h2d := dT h2
   refine wp_skip ?_
   refine then_normal ?_
   refine wp_seq ?_
   refine wp_block ?_
   refine wsr ?_
   refine wsix1 g7 0 ((listL (bo0 x (setC F (fun c_ => F.k c_.toNat == 0) 100).1) (bo1 y (setC F (fun c_ => F.k c_.toNat == 0) 100).2)).length) cap1 i .i64 slit__int64 ?_
   have le1 := listL_in (x := (bo0 x (setC F (fun c_ => F.k c_.toNat == 0) 100).1)) (y := (bo1 y (setC F (fun c_ => F.k c_.toNat == 0) 100).2)) (j := i) (by omega)
   have tz1 := tgs_is (F := F) hwx hwy (j := i) (by omega)
   refine wld g7 (0 + i) scal_int64 (B7.get (SlI.get S2 (by omega))) ?_
   refine wv (.int .i64 (atI (listL (bo0 x (setC F (fun c_ => F.k c_.toNat == 0) 100).1) (bo1 y (setC F (fun c_ => F.k c_.toNat == 0) 100).2)) i)) ?_
   refine wpList_nil (then_normal ?_)
   refine wsr ?_
   refine wv (.int .i64 (atI (listL (bo0 x (setC F (fun c_ => F.k c_.toNat == 0) 100).1) (bo1 y (setC F (fun c_ => F.k c_.toNat == 0) 100).2)) i)) ?_
   refine wld (v := .int .i64 w0) g2 (0) scal_int64 (B2.get (rfl)) ?_
   refine wld (v := .int .i64 l) g3 (0) scal_int64 (B3.get (rfl)) ?_
   refine wcl (coverers_any F hF g1 _ (atI (listL (bo0 x (setC F (fun c_ => F.k c_.toNat == 0) 100).1) (bo1 y (setC F (fun c_ => F.k c_.toNat == 0) 100).2)) i) w0 l (by omega) (by assumption) _ B1) ?_
   intro w11 E10
   have H8 := HL1.trans E10
   replace B1 := B1.ext E10
   replace B2 := B2.ext E10
   replace B3 := B3.ext E10
   replace B4 := B4.ext E10
   replace B6 := B6.ext E10
   replace B7 := B7.ext E10
   replace Bo := Bo.ext E10
   refine wnew #[.int .u64 0, .int .u64 0] Try.zeroValue33 rfl ?_
   intro g8 w12 B8 E11 hg_
   have q_g1_g8 := Nat.ne_of_lt (Nat.lt_of_lt_of_le B1.lt hg_)
   have q_g2_g8 := Nat.ne_of_lt (Nat.lt_of_lt_of_le B2.lt hg_)
   have q_g3_g8 := Nat.ne_of_lt (Nat.lt_of_lt_of_le B3.lt hg_)
   have q_g4_g8 := Nat.ne_of_lt (Nat.lt_of_lt_of_le B4.lt hg_)
   have q_g6_g8 := Nat.ne_of_lt (Nat.lt_of_lt_of_le B6.lt hg_)
   have q_g7_g8 := Nat.ne_of_lt (Nat.lt_of_lt_of_le B7.lt hg_)
   have q_go_g8 := Nat.ne_of_lt (Nat.lt_of_lt_of_le Bo.lt hg_)
   have lo_g8 := Nat.le_trans (H8).size hg_
   refine wput #[.int .u64 ((setC F (fun c_ => cvR F c_ (atI (listL (bo0 x (setC F (fun c_ => F.k c_.toNat == 0) 100).1) (bo1 y (setC F (fun c_ => F.k c_.toNat == 0) 100).2)) i) w0 l) 100).1), .int .u64 ((setC F (fun c_ => cvR F c_ (atI (listL (bo0 x (setC F (fun c_ => F.k c_.toNat == 0) 100).1) (bo1 y (setC F (fun c_ => F.k c_.toNat == 0) 100).2)) i) w0 l) 100).2)] row_impl_Cells B8 (by rfl) (by rfl) (by kernel_rfl) ?_
   intro w13 B8_ X2
   clear B8; have B8 := B8_; clear B8_
   refine wpList_nil (then_normal ?_)
   refine wsr ?_
   refine wrow row_impl_Cells B8 (by rfl) ?_
   replace B6 := X2.blk (B6.ext E11) q_g6_g8
   refine wrow row_impl_Cells B6 (by rfl) ?_
   refine wcl (iBoth_any ((setC F (fun c_ => cvR F c_ (atI (listL (bo0 x (setC F (fun c_ => F.k c_.toNat == 0) 100).1) (bo1 y (setC F (fun c_ => F.k c_.toNat == 0) 100).2)) i) w0 l) 100).1) ((setC F (fun c_ => cvR F c_ (atI (listL (bo0 x (setC F (fun c_ => F.k c_.toNat == 0) 100).1) (bo1 y (setC F (fun c_ => F.k c_.toNat == 0) 100).2)) i) w0 l) 100).2) u_.1 u_.2 (by first | assumption | exact okP.w2 (setC_ok 100 (Nat.le_refl _)) | exact okP.w2 hI.1 | exact okP.w2 hU.1) (by first | assumption | exact okP.w2 (setC_ok 100 (Nat.le_refl _)) | exact okP.w2 hI.1 | exact okP.w2 hU.1) _) ?_
   intro w14 E12
   refine wv (.agg #[.int .u64 0, .int .u64 0]) ?_
   refine weqA duot_impl_Cells.eg (equalIn_duo duot_impl_Cells 9998 (bo0 ((setC F (fun c_ => cvR F c_ (atI (listL (bo0 x (setC F (fun c_ => F.k c_.toNat == 0) 100).1) (bo1 y (setC F (fun c_ => F.k c_.toNat == 0) 100).2)) i) w0 l) 100).1) u_.1) (bo1 ((setC F (fun c_ => cvR F c_ (atI (listL (bo0 x (setC F (fun c_ => F.k c_.toNat == 0) 100).1) (bo1 y (setC F (fun c_ => F.k c_.toNat == 0) 100).2)) i) w0 l) 100).2) u_.2) 0 0) ?_
   refine wpList_nil (then_normal ?_)
   have H9 := (X2.ext w lo_g8 (H8.trans E11)).trans E12
   refine wsplit (eq2 (bo0 ((setC F (fun c_ => cvR F c_ (atI (listL (bo0 x (setC F (fun c_ => F.k c_.toNat == 0) 100).1) (bo1 y (setC F (fun c_ => F.k c_.toNat == 0) 100).2)) i) w0 l) 100).1) u_.1) (bo1 ((setC F (fun c_ => cvR F c_ (atI (listL (bo0 x (setC F (fun c_ => F.k c_.toNat == 0) 100).1) (bo1 y (setC F (fun c_ => F.k c_.toNat == 0) 100).2)) i) w0 l) 100).2) u_.2) 0 0) (fun h3 => ?_) (fun h3 => ?_)
   ·skip
    refine wp_frame (a' := ⟨#[.agg F.cells, .int .i64 w0, .int .i64 l, .agg #[.int .u64 x, .int .u64 y], .pointer (some ⟨g1, 0, none⟩), .pointer (some ⟨g2, 0, none⟩), .pointer (some ⟨g3, 0, none⟩), .pointer (some ⟨g4, 0, none⟩), .slice none 0 0, .int .i64 0, .int .i64 (code F (inB w0 1 1000 && inB l 1 1000)), .slice (some ⟨go, 0, none⟩) no capo, .pointer (some ⟨g6, 0, none⟩), undef, .int .i64 (atI (listL (bo0 x (setC F (fun c_ => F.k c_.toNat == 0) 100).1) (bo1 y (setC F (fun c_ => F.k c_.toNat == 0) 100).2)) i), .pointer (some ⟨g8, 0, none⟩), .func (.func 50) #[] #[.pointer (some ⟨g2, 0, none⟩), .pointer (some ⟨g3, 0, none⟩)], .int .i64 (code F (inB w0 1 1000 && inB l 1 1000)), .int .i64 (code F (inB w0 1 1000 && inB l 1 1000)), .bool ((code F (inB w0 1 1000 && inB l 1 1000)) != 0), undef, .slice (some ⟨g5, 0, none⟩) 0 0, .agg #[.int .u64 0, .int .u64 0], .agg #[.int .u64 x, .int .u64 y], .agg #[.int .u64 (bo0 x (setC F (fun c_ => F.k c_.toNat == 0) 100).1), .int .u64 (bo1 y (setC F (fun c_ => F.k c_.toNat == 0) 100).2)], .slice (some ⟨g7, 0, none⟩) ((listL (bo0 x (setC F (fun c_ => F.k c_.toNat == 0) 100).1) (bo1 y (setC F (fun c_ => F.k c_.toNat == 0) 100).2)).length) cap1, .int .i64 ((listL (bo0 x (setC F (fun c_ => F.k c_.toNat == 0) 100).1) (bo1 y (setC F (fun c_ => F.k c_.toNat == 0) 100).2)).length : Int), .int .i64 (i : Int), .bool (decide ((i : Int) < ((listL (bo0 x (setC F (fun c_ => F.k c_.toNat == 0) 100).1) (bo1 y (setC F (fun c_ => F.k c_.toNat == 0) 100).2)).length : Int))), .pointer (some ⟨g7, 0 + i, none⟩), .int .i64 (atI (listL (bo0 x (setC F (fun c_ => F.k c_.toNat == 0) 100).1) (bo1 y (setC F (fun c_ => F.k c_.toNat == 0) 100).2)) i), .int .i64 (atI (listL (bo0 x (setC F (fun c_ => F.k c_.toNat == 0) 100).1) (bo1 y (setC F (fun c_ => F.k c_.toNat == 0) 100).2)) i), .int .i64 w0, .int .i64 l, .agg #[.int .u64 ((setC F (fun c_ => cvR F c_ (atI (listL (bo0 x (setC F (fun c_ => F.k c_.toNat == 0) 100).1) (bo1 y (setC F (fun c_ => F.k c_.toNat == 0) 100).2)) i) w0 l) 100).1), .int .u64 ((setC F (fun c_ => cvR F c_ (atI (listL (bo0 x (setC F (fun c_ => F.k c_.toNat == 0) 100).1) (bo1 y (setC F (fun c_ => F.k c_.toNat == 0) 100).2)) i) w0 l) 100).2)], .agg #[.int .u64 ((setC F (fun c_ => cvR F c_ (atI (listL (bo0 x (setC F (fun c_ => F.k c_.toNat == 0) 100).1) (bo1 y (setC F (fun c_ => F.k c_.toNat == 0) 100).2)) i) w0 l) 100).1), .int .u64 ((setC F (fun c_ => cvR F c_ (atI (listL (bo0 x (setC F (fun c_ => F.k c_.toNat == 0) 100).1) (bo1 y (setC F (fun c_ => F.k c_.toNat == 0) 100).2)) i) w0 l) 100).2)], .agg #[.int .u64 u_.1, .int .u64 u_.2], .agg #[.int .u64 (bo0 ((setC F (fun c_ => cvR F c_ (atI (listL (bo0 x (setC F (fun c_ => F.k c_.toNat == 0) 100).1) (bo1 y (setC F (fun c_ => F.k c_.toNat == 0) 100).2)) i) w0 l) 100).1) u_.1), .int .u64 (bo1 ((setC F (fun c_ => cvR F c_ (atI (listL (bo0 x (setC F (fun c_ => F.k c_.toNat == 0) 100).1) (bo1 y (setC F (fun c_ => F.k c_.toNat == 0) 100).2)) i) w0 l) 100).2) u_.2)], .agg #[.int .u64 0, .int .u64 0], .bool (eq2 (bo0 ((setC F (fun c_ => cvR F c_ (atI (listL (bo0 x (setC F (fun c_ => F.k c_.toNat == 0) 100).1) (bo1 y (setC F (fun c_ => F.k c_.toNat == 0) 100).2)) i) w0 l) 100).1) u_.1) (bo1 ((setC F (fun c_ => cvR F c_ (atI (listL (bo0 x (setC F (fun c_ => F.k c_.toNat == 0) 100).1) (bo1 y (setC F (fun c_ => F.k c_.toNat == 0) 100).2)) i) w0 l) 100).2) u_.2) 0 0), J1 40, J1 41, J1 42, J1 43, J1 44, J1 45, J1 46, J1 47, undef], []⟩) (by kernel_rfl) ?_
    replace Bo := (X2.blk (Bo.ext E11) q_go_g8).ext E12
    replace B6 := B6.ext E12
    replace B8 := B8.ext E12
    replace B1 := (X2.blk (B1.ext E11) q_g1_g8).ext E12
    replace B2 := (X2.blk (B2.ext E11) q_g2_g8).ext E12
    replace B3 := (X2.blk (B3.ext E11) q_g3_g8).ext E12
    replace B4 := (X2.blk (B4.ext E11) q_g4_g8).ext E12
    replace B7 := (X2.blk (B7.ext E11) q_g7_g8).ext E12
    have HG1 := Bo.lt
    refine RT.region_go 7 [40, 41, 42, 43, 44, 45, 46] [[], [], [1], [0, 2], [], [], [4, 5]] (RlA go 2 no .i64 (apL F w0 l (listL (bo0 x (setC F (fun c_ => F.k c_.toNat == 0) 100).1) (bo1 y (setC F (fun c_ => F.k c_.toNat == 0) 100).2)) i) (atI (listL (bo0 x (setC F (fun c_ => F.k c_.toNat == 0) 100).1) (bo1 y (setC F (fun c_ => F.k c_.toNat == 0) 100).2)) i))
     (fun i_ => ([.val (.slice (some ⟨go, 0, none⟩) no capo), .val (.int .i64 (atI (listL (bo0 x (setC F (fun c_ => F.k c_.toNat == 0) 100).1) (bo1 y (setC F (fun c_ => F.k c_.toNat == 0) 100).2)) i)), (Fct.one w14.heap.size HG1 (atI (listL (bo0 x (setC F (fun c_ => F.k c_.toNat == 0) 100).1) (bo1 y (setC F (fun c_ => F.k c_.toNat == 0) 100).2)) i)), (Fct.app w14.heap.size capo HG1), .val (.agg #[.int .u64 u_.1, .int .u64 u_.2]), .val (.agg #[.int .u64 ((setC F (fun c_ => cvR F c_ (atI (listL (bo0 x (setC F (fun c_ => F.k c_.toNat == 0) 100).1) (bo1 y (setC F (fun c_ => F.k c_.toNat == 0) 100).2)) i) w0 l) 100).1), .int .u64 ((setC F (fun c_ => cvR F c_ (atI (listL (bo0 x (setC F (fun c_ => F.k c_.toNat == 0) 100).1) (bo1 y (setC F (fun c_ => F.k c_.toNat == 0) 100).2)) i) w0 l) 100).2)]), .val (.agg #[.int .u64 (un0 u_.1 ((setC F (fun c_ => cvR F c_ (atI (listL (bo0 x (setC F (fun c_ => F.k c_.toNat == 0) 100).1) (bo1 y (setC F (fun c_ => F.k c_.toNat == 0) 100).2)) i) w0 l) 100).1)), .int .u64 (un1 u_.2 ((setC F (fun c_ => cvR F c_ (atI (listL (bo0 x (setC F (fun c_ => F.k c_.toNat == 0) 100).1) (bo1 y (setC F (fun c_ => F.k c_.toNat == 0) 100).2)) i) w0 l) 100).2))])] : List (RT.Fct (RlA go 2 no .i64 (apL F w0 l (listL (bo0 x (setC F (fun c_ => F.k c_.toNat == 0) 100).1) (bo1 y (setC F (fun c_ => F.k c_.toNat == 0) 100).2)) i) (atI (listL (bo0 x (setC F (fun c_ => F.k c_.toNat == 0) 100).1) (bo1 y (setC F (fun c_ => F.k c_.toNat == 0) 100).2)) i)))).getD i_ .any)
     (by kernel_rfl) (by kernel_rfl) (by decide) (by simp) RlA.trans RlA.drew rfl (all_succ (all_succ (all_succ (all_succ (all_succ (all_succ (all_succ all_zero ?_) ?_) ?_) ?_) ?_) ?_) ?_) ?_
    ·refine RT.step0 rfl rfl rfl (fun wr hw => ?_)
     exact OpRun.val (.slice (some ⟨go, 0, none⟩) no capo) (.slice (some ⟨go, 0, none⟩) no capo) (by kernel_rfl) rfl ⟨RlA.refl _, rfl⟩
    ·refine RT.step0 rfl rfl rfl (fun wr hw => ?_)
     exact OpRun.val (.int .i64 (atI (listL (bo0 x (setC F (fun c_ => F.k c_.toNat == 0) 100).1) (bo1 y (setC F (fun c_ => F.k c_.toNat == 0) 100).2)) i)) (.int .i64 (atI (listL (bo0 x (setC F (fun c_ => F.k c_.toNat == 0) 100).1) (bo1 y (setC F (fun c_ => F.k c_.toNat == 0) 100).2)) i)) (by kernel_rfl) rfl ⟨RlA.refl _, rfl⟩
    ·refine RT.step1 rfl rfl rfl rfl (fun u0 wr hw h0 => ?_)
     cases h0
     exact OpRun.bslice #[.int .i64 (atI (listL (bo0 x (setC F (fun c_ => F.k c_.toNat == 0) 100).1) (bo1 y (setC F (fun c_ => F.k c_.toNat == 0) 100).2)) i)] slt__int64 rfl (by decide) (by kernel_rfl) ⟨RlA.of_ext ((Ext.refl _).alloc _), _, rfl, hw.wr.size, Blk.new _ _ _⟩
    ·refine RT.step2 rfl rfl rfl rfl rfl (fun u0 u1 wr hw h0 h1 => ?_)
     cases h0
     obtain ⟨d_, rfl, hgd_, hbd_⟩ := h1
     exact OpRun.appA (cap := capo) slt__int64 Bo So hw rfl HG1 hbd_ rfl (by kernel_rfl) (by kernel_rfl) (by omega)
    ·refine RT.step0 rfl rfl rfl (fun wr hw => ?_)
     with_reducible refine OpRun.row (x := (.tmp 12)) row_impl_Cells (Wr.blk hw.wr B6 n_g6_go) ?_ ?_ ?_ ?_
     ·rfl
     ·rfl
     ·kernel_rfl
     ·exact ⟨RlA.refl _, rfl⟩
    ·refine RT.step0 rfl rfl rfl (fun wr hw => ?_)
     with_reducible refine OpRun.row (x := (.tmp 15)) row_impl_Cells (Wr.blk hw.wr B8 (Ne.symm q_go_g8)) ?_ ?_ ?_ ?_
     ·rfl
     ·rfl
     ·kernel_rfl
     ·exact ⟨RlA.refl _, rfl⟩
    ·refine RT.step2 rfl rfl rfl rfl rfl (fun u0 u1 wr hw h0 h1 => ?_)
     cases h0
     cases h1
     exact OpRun.call 53 #[.agg #[.int .u64 u_.1, .int .u64 u_.2], .agg #[.int .u64 ((setC F (fun c_ => cvR F c_ (atI (listL (bo0 x (setC F (fun c_ => F.k c_.toNat == 0) 100).1) (bo1 y (setC F (fun c_ => F.k c_.toNat == 0) 100).2)) i) w0 l) 100).1), .int .u64 ((setC F (fun c_ => cvR F c_ (atI (listL (bo0 x (setC F (fun c_ => F.k c_.toNat == 0) 100).1) (bo1 y (setC F (fun c_ => F.k c_.toNat == 0) 100).2)) i) w0 l) 100).2)]] (by kernel_rfl) ((iUnion_any u_.1 u_.2 ((setC F (fun c_ => cvR F c_ (atI (listL (bo0 x (setC F (fun c_ => F.k c_.toNat == 0) 100).1) (bo1 y (setC F (fun c_ => F.k c_.toNat == 0) 100).2)) i) w0 l) 100).1) ((setC F (fun c_ => cvR F c_ (atI (listL (bo0 x (setC F (fun c_ => F.k c_.toNat == 0) 100).1) (bo1 y (setC F (fun c_ => F.k c_.toNat == 0) 100).2)) i) w0 l) 100).2) (by first | assumption | exact okP.w2 (setC_ok 100 (Nat.le_refl _)) | exact okP.w2 hI.1 | exact okP.w2 hU.1) (by first | assumption | exact okP.w2 (setC_ok 100 (Nat.le_refl _)) | exact okP.w2 hI.1 | exact okP.w2 hU.1) _).mono fun e w1 ⟨he, hb⟩ => ⟨_, he, RlA.of_ext hb, rfl⟩)
    refine RT.end7 (fun u0 u1 u2 u3 u4 u5 u6 w15 E13 f0 f1 f2 f3 f4 f5 f6 => ?_)
    cases f0
    cases f1
    obtain ⟨d_, rfl, _, _⟩ := f2
    obtain ⟨g9, cap2, cs2, rfl, B9, S3, or1⟩ := f3
    cases f4
    cases f5
    cases f6
    have X3 := E13.wr
    have n_g1_g9 := ne_app B1 n_g1_go or1
    have n_g2_g9 := ne_app B2 n_g2_go or1
    have n_g3_g9 := ne_app B3 n_g3_go or1
    have n_g4_g9 := ne_app B4 n_g4_go or1
    have n_g6_g9 := ne_app B6 n_g6_go or1
    have n_g7_g9 := ne_app B7 n_g7_go or1
    have n_g8_g9 := ne_app B8 (Ne.symm q_go_g8) or1
    have lo_g9 := Wr.lo or1 lo_go (H9).size
    refine wv (.slice (some ⟨g9, 0, none⟩) (no + 1) cap2) ?_
    replace B6 := X3.blk B6 n_g6_go
    refine wput #[.int .u64 (un0 u_.1 ((setC F (fun c_ => cvR F c_ (atI (listL (bo0 x (setC F (fun c_ => F.k c_.toNat == 0) 100).1) (bo1 y (setC F (fun c_ => F.k c_.toNat == 0) 100).2)) i) w0 l) 100).1)), .int .u64 (un1 u_.2 ((setC F (fun c_ => cvR F c_ (atI (listL (bo0 x (setC F (fun c_ => F.k c_.toNat == 0) 100).1) (bo1 y (setC F (fun c_ => F.k c_.toNat == 0) 100).2)) i) w0 l) 100).2))] row_impl_Cells B6 (by rfl) (by rfl) (by kernel_rfl) ?_
    intro w16 B6_ X4
    clear B6; have B6 := B6_; clear B6_
    refine wpList_nil (block_normal (then_normal ?_))
    refine wp_region_lit ?_
    refine wi64 ((i : Int) + 1) ?_
    refine wv (.int .i64 ((i : Int) + 1)) ?_
    refine wpList_nil (then_normal ?_)
    replace B1 := X4.blk (X3.blk B1 n_g1_go) q_g1_g6
    replace B2 := X4.blk (X3.blk B2 n_g2_go) q_g2_g6
    replace B3 := X4.blk (X3.blk B3 n_g3_go) q_g3_g6
    replace B4 := X4.blk (X3.blk B4 n_g4_go) q_g4_g6
    replace B7 := X4.blk (X3.blk B7 n_g7_go) (Ne.symm q_g6_g7)
    replace B9 := X4.blk B9 (Ne.symm n_g6_g9)
    have H10 := X4.ext w lo_g6 (X3.ext w lo_go H9)
    refine ⟨_, ?_, i + 1, (un0 u_.1 ((setC F (fun c_ => cvR F c_ (atI (listL (bo0 x (setC F (fun c_ => F.k c_.toNat == 0) 100).1) (bo1 y (setC F (fun c_ => F.k c_.toNat == 0) 100).2)) i) w0 l) 100).1), un1 u_.2 ((setC F (fun c_ => cvR F c_ (atI (listL (bo0 x (setC F (fun c_ => F.k c_.toNat == 0) 100).1) (bo1 y (setC F (fun c_ => F.k c_.toNat == 0) 100).2)) i) w0 l) 100).2)), g9, no + 1, cap2, cs2, rfl, ?_, ?_, ?_, ?_, ?_, ?_, ?_, ?_, ?_, ?_, H10, B1, B2, B3, B4, B6, B7, B9, exJ (by kernel_rfl)⟩
    ·omega
    ·omega
    ·first | (rw [apL_u hU (by assumption)]; exact us_app hU) | (rw [apL_v hU (by assumption)]; exact hU)
    ·refine S3.of_eq ?_
     first | exact (apL_u hU (by assumption)).symm | exact (apL_v hU (by assumption)).symm
    ·exact lo_g9
    ·exact n_g1_g9
    ·exact n_g2_g9
    ·exact n_g3_g9
    ·exact n_g4_g9
    ·exact n_g6_g9
    ·exact n_g7_g9
   ·skip
    refine wp_skip ?_
    refine block_normal (then_normal ?_)
    refine wp_region_lit ?_
    refine wi64 ((i : Int) + 1) ?_
    refine wv (.int .i64 ((i : Int) + 1)) ?_
    refine wpList_nil (then_normal ?_)
    replace B1 := (X2.blk (B1.ext E11) q_g1_g8).ext E12
    replace B2 := (X2.blk (B2.ext E11) q_g2_g8).ext E12
    replace B3 := (X2.blk (B3.ext E11) q_g3_g8).ext E12
    replace B4 := (X2.blk (B4.ext E11) q_g4_g8).ext E12
    replace B6 := B6.ext E12
    replace B7 := (X2.blk (B7.ext E11) q_g7_g8).ext E12
    replace Bo := (X2.blk (Bo.ext E11) q_go_g8).ext E12
    refine ⟨_, ?_, i + 1, (u_.1, u_.2), go, no, capo, cso, rfl, ?_, ?_, ?_, ?_, ?_, ?_, ?_, ?_, ?_, ?_, H9, B1, B2, B3, B4, B6, B7, Bo, exJ (by kernel_rfl)⟩
    ·omega
    ·omega
    ·first | (rw [apL_u hU (by assumption)]; exact us_app hU) | (rw [apL_v hU (by assumption)]; exact hU)
    ·refine So.of_eq ?_
     first | exact (apL_u hU (by assumption)).symm | exact (apL_v hU (by assumption)).symm
    ·exact lo_go
    ·exact n_g1_go
    ·exact n_g2_go
    ·exact n_g3_go
    ·exact n_g4_go
    ·exact n_g6_go
    ·exact n_g7_go
  ·skip
   have h2d := dF h2
   refine wp_exit ?_
   refine then_exit ?_
   refine then_exit ?_
   refine block_exit ?_
   refine then_normal ?_
   refine wsr ?_
   refine wv (.slice (some ⟨go, 0, none⟩) no capo) ?_
   refine wv (.slice (some ⟨go, 0, none⟩) no capo) ?_
   refine wv (.int .i64 0) ?_
   refine wpList_nil (then_normal ?_)
   refine wp_ret ?_
   refine ret2 (.slice (some ⟨go, 0, none⟩) no capo) (.int .i64 0) rfl ?_ ?_ rfl ?_
   ·exact resT (by kernel_rfl)
   ·exact resT (by kernel_rfl)
   have hq : apL F w0 l (listL (bo0 x (setC F (fun c_ => F.k c_.toNat == 0) 100).1) (bo1 y (setC F (fun c_ => F.k c_.toNat == 0) 100).2)) i = apL F w0 l (tgL F x y 100) (tgL F x y 100).length := by
    rw [show i = (listL (bo0 x (setC F (fun c_ => F.k c_.toNat == 0) 100).1) (bo1 y (setC F (fun c_ => F.k c_.toNat == 0) 100).2)).length by omega, tg_eq hwx hwy]
   exact .inl ⟨(by assumption), go, no, capo, cso, rfl, Bo, So.of_eq hq, HL1, lo_go⟩
theorem sApartCells_any (F : Fld) (hF : F.wf) (w0 : Int) (l : Int) (x y : Int) (hwx : wrd x) (hwy : wrd y) (w : World) :
 Calls Try.prog 13 #[.agg F.cells, .int .i64 w0, .int .i64 l, .agg #[.int .u64 x, .int .u64 y]] w fun e w' => (code F (inB w0 1 1000 && inB l 1 1000) = 0 ∧ RetI w 2 .i64 (apL F w0 l (tgL F x y 100) (tgL F x y 100).length) (fun v => .tuple #[v, .int .i64 0]) e w') ∨ (code F (inB w0 1 1000 && inB l 1 1000) ≠ 0 ∧ RetI w 2 .i64 [] (fun v => .tuple #[v, .int .i64 (code F (inB w0 1 1000 && inB l 1 1000))]) e w') := by
 have hT_ : ∀ j, j < (tgL F x y 100).length → 0 ≤ atI (tgL F x y 100) j ∧ atI (tgL F x y 100) j ≤ 99 := fun j hj => ⟨(tgL_in hj).1.1, by have := (tgL_in hj).1.2; omega⟩
 refine calls_of_wp Try.func13 rfl ?_
 refine wp_frame (a' := ⟨#[.agg F.cells, .int .i64 w0, .int .i64 l, .agg #[.int .u64 x, .int .u64 y], undef, undef, undef, undef, undef, undef, undef, undef, undef, undef, undef, undef, undef, undef, undef, undef, undef, undef, undef, undef, undef, undef, undef, undef, undef, undef, undef, undef, undef, undef, undef, undef, undef, undef, undef, undef, undef, undef, undef, undef, undef, undef, undef, undef, undef, undef, undef, undef, undef, undef, undef, undef, undef, undef, undef, undef], []⟩) (by kernel_rfl) ?_
 refine wsr ?_
 refine wbox F.cells ?_
 intro g1 w1 B1 E1 hg_
 have lo_g1 := Nat.le_trans ((Ext.refl w)).size hg_
 have H1 := (Ext.refl w).trans E1
 refine wbox #[.int .u64 x, .int .u64 y] ?_
 intro g2 w2 B2 E2 hg_
 have q_g1_g2 := Nat.ne_of_lt (Nat.lt_of_lt_of_le B1.lt hg_)
 have lo_g2 := Nat.le_trans (H1).size hg_
 refine wv (.slice none 0 0) ?_
 refine wv (.int .i64 0) ?_
 refine wpList_nil (then_normal ?_)
 refine wp_seq ?_
 refine wsr ?_
 refine wv (.int .i64 w0) ?_
 refine wv (.int .i64 l) ?_
 replace B1 := B1.ext E2
 refine wcl (l03Game_any F hF g1 _ w0 l _ B1) ?_
 intro w3 E3
 refine wv (.int .i64 (code F (inB w0 1 1000 && inB l 1 1000))) ?_
 refine wpList_nil (then_normal ?_)
 refine wsr ?_
 refine wv (.int .i64 (code F (inB w0 1 1000 && inB l 1 1000))) ?_
 refine wv (.bool ((code F (inB w0 1 1000 && inB l 1 1000)) != 0)) ?_
 refine wpList_nil (then_normal ?_)
 have H2 := (H1.trans E2).trans E3
 refine wsplit ((code F (inB w0 1 1000 && inB l 1 1000)) != 0) (fun h1 => ?_) (fun h1 => ?_)
 ·skip
  have h1d := nT h1
  refine wsr ?_
  replace B1 := B1.ext E3
  replace B2 := B2.ext E3
  refine wbsl 0 #[] slt__int64 ?_
  intro g3 w4 B3 E4 hg_
  have q_g1_g3 := Nat.ne_of_lt (Nat.lt_of_lt_of_le B1.lt hg_)
  have q_g2_g3 := Nat.ne_of_lt (Nat.lt_of_lt_of_le B2.lt hg_)
  have lo_g3 := Nat.le_trans (H2).size hg_
  have S1 : SlI #[] 0 0 .i64 [] := SlI.nil
  refine wv (.int .i64 (code F (inB w0 1 1000 && inB l 1 1000))) ?_
  refine wv (.slice (some ⟨g3, 0, none⟩) 0 0) ?_
  refine wv (.int .i64 (code F (inB w0 1 1000 && inB l 1 1000))) ?_
  refine wpList_nil (then_normal ?_)
  refine wp_ret ?_
  refine then_ret ?_
  refine ret2 (.slice (some ⟨g3, 0, none⟩) 0 0) (.int .i64 (code F (inB w0 1 1000 && inB l 1 1000))) rfl ?_ ?_ rfl ?_
  ·exact resT (by kernel_rfl)
  ·exact resT (by kernel_rfl)
  have H3 := H2.trans E4
  exact .inr ⟨(by assumption), g3, 0, 0, #[], rfl, B3, S1, H3, lo_g3⟩
 ·skip
  have h1d := nF h1
  have h1o := (code_zero h1d).1
  have h1z := (code_zero h1d).2
  obtain ⟨h1za, h1zb⟩ := andT h1z
  have h1zad := inT h1za
  have h1zbd := inT h1zb
  refine wp_skip ?_
  refine then_normal ?_
  refine wsr ?_
  replace B1 := B1.ext E3
  replace B2 := B2.ext E3
  refine wbsl 0 #[] slt__int64 ?_
  intro g4 w5 B4 E5 hg_
  have q_g1_g4 := Nat.ne_of_lt (Nat.lt_of_lt_of_le B1.lt hg_)
  have q_g2_g4 := Nat.ne_of_lt (Nat.lt_of_lt_of_le B2.lt hg_)
  have lo_g4 := Nat.le_trans (H2).size hg_
  have S2 : SlI #[] 0 0 .i64 [] := SlI.nil
  refine wv (.slice (some ⟨g4, 0, none⟩) 0 0) ?_
  refine wpList_nil (then_normal ?_)
  refine wsr ?_
  replace B1 := B1.ext E5
  replace B2 := B2.ext E5
  have H4 := H2.trans E5
  refine wcli (l03Targets_any F hF g1 _ x y g2 _ _ B1 B2) ?_
  intro g5 cap1 cs1 w6 B5 S3 E6 hg_
  have q_g1_g5 := Nat.ne_of_lt (Nat.lt_of_lt_of_le B1.lt hg_)
  have q_g2_g5 := Nat.ne_of_lt (Nat.lt_of_lt_of_le B2.lt hg_)
  have q_g4_g5 := Nat.ne_of_lt (Nat.lt_of_lt_of_le B4.lt hg_)
  have lo_g5 := Nat.le_trans (H4).size hg_
  have tl1 := tgL_length F x y 100
  refine wv (.slice (some ⟨g5, 0, none⟩) ((tgL F x y 100).length) cap1) ?_
  refine wpList_nil (then_normal ?_)
  refine wp_seq ?_
  refine wsr ?_
  refine wv (.int .i64 0) ?_
  refine wpList_nil (then_normal ?_)
  refine wp_block ?_
  replace B4 := B4.ext E6
  replace B1 := B1.ext E6
  replace B2 := B2.ext E6
  have H5 := H4.trans E6
  refine wp_loop_k (fun m1 a wl1 => ∃ (i : Nat) (go : Nat) (no : Nat) (capo : Nat) (cso : Array Value), m1 = (tgL F x y 100).length - i ∧ i ≤ (tgL F x y 100).length ∧ SlI cso no capo .i64 (apL F w0 l (tgL F x y 100) i) ∧ w.heap.size ≤ go ∧ g1 ≠ go ∧ g2 ≠ go ∧ g5 ≠ go ∧ Ext w wl1 ∧ Blk wl1 g1 29 F.cells ∧ Blk wl1 g2 33 #[.int .u64 x, .int .u64 y] ∧ Blk wl1 g5 2 cs1 ∧ Blk wl1 go 2 cso ∧ (∃ J1 : Nat → Value, a = ⟨#[.agg F.cells, .int .i64 w0, .int .i64 l, .agg #[.int .u64 x, .int .u64 y], .pointer (some ⟨g1, 0, none⟩), undef, undef, .pointer (some ⟨g2, 0, none⟩), .slice none 0 0, .int .i64 0, .int .i64 (code F (inB w0 1 1000 && inB l 1 1000)), .slice (some ⟨go, 0, none⟩) no capo, .slice (some ⟨g5, 0, none⟩) ((tgL F x y 100).length) cap1, .int .i64 (i : Int), J1 14, J1 15, .int .i64 w0, .int .i64 l, .int .i64 (code F (inB w0 1 1000 && inB l 1 1000)), .int .i64 (code F (inB w0 1 1000 && inB l 1 1000)), .bool ((code F (inB w0 1 1000 && inB l 1 1000)) != 0), undef, undef, .slice (some ⟨g4, 0, none⟩) 0 0, .slice (some ⟨g5, 0, none⟩) ((tgL F x y 100).length) cap1, J1 25, J1 26, J1 27, J1 28, J1 29, J1 30, J1 31, J1 32, J1 33, J1 34, J1 35, J1 36, J1 37, J1 38, J1 39, J1 40, J1 41, J1 42, J1 43, J1 44, J1 45, J1 46, J1 47, J1 48, J1 49, J1 50, J1 51, J1 52, J1 53, J1 54, J1 55, J1 56, J1 57, J1 58, undef], []⟩)) ((tgL F x y 100).length) ?_ ?_
  ·refine ⟨0, g4, 0, 0, #[], rfl, ?_, ?_, ?_, ?_, ?_, ?_, H5, B1, B2, B5, B4, exJ (by kernel_rfl)⟩
   ·omega
   ·refine S2.of_eq ?_
    first | rfl | exact apL_0.symm
   ·exact lo_g4
   ·exact q_g1_g4
   ·exact q_g2_g4
   ·exact (Ne.symm q_g4_g5)
  intro m1 a wl1 hI
  obtain ⟨i, go, no, capo, cso, rfl, hi_, So, lo_go, n_g1_go, n_g2_go, n_g5_go, HL1, B1, B2, B5, Bo, J1, rfl⟩ := hI
  have cl_ := apL_length F w0 l (tgL F x y 100) i
  have len_So := So.len
  refine wp_seq ?_
  refine wsr ?_
  refine wv (.int .i64 (i : Int)) ?_
  refine wv (.slice (some ⟨g5, 0, none⟩) ((tgL F x y 100).length) cap1) ?_
  refine wv (.int .i64 ((tgL F x y 100).length : Int)) ?_
  refine wv (.bool (decide ((i : Int) < ((tgL F x y 100).length : Int)))) ?_
  refine wpList_nil (then_normal ?_)
  refine wsplit (decide ((i : Int) < ((tgL F x y 100).length : Int))) (fun h2 => ?_) (fun h2 => ?_)
  ·skip
   have h2d := dT h2
   refine wp_skip ?_
   refine then_normal ?_
   refine wp_seq ?_
   refine wp_block ?_
   refine wsr ?_
   refine wv (.bool true) ?_
   refine wpList_nil (then_normal ?_)
   refine wp_seq ?_
   refine wsr ?_
   refine wv (.int .i64 0) ?_
   refine wpList_nil (then_normal ?_)
   refine wp_block ?_
   refine wp_loop_k (fun m2 a wl2 => ∃ (k_ : Nat) (fb : Bool), m2 = (apL F w0 l (tgL F x y 100) i).length - k_ ∧ k_ ≤ (apL F w0 l (tgL F x y 100) i).length ∧ fb = allB k_ (fun j => apB F w0 l (atI (apL F w0 l (tgL F x y 100) i) j) (atI (tgL F x y 100) i)) ∧ Ext w wl2 ∧ Blk wl2 g1 29 F.cells ∧ Blk wl2 g2 33 #[.int .u64 x, .int .u64 y] ∧ Blk wl2 g5 2 cs1 ∧ Blk wl2 go 2 cso ∧ (∃ J2 : Nat → Value, a = ⟨#[.agg F.cells, .int .i64 w0, .int .i64 l, .agg #[.int .u64 x, .int .u64 y], .pointer (some ⟨g1, 0, none⟩), undef, undef, .pointer (some ⟨g2, 0, none⟩), .slice none 0 0, .int .i64 0, .int .i64 (code F (inB w0 1 1000 && inB l 1 1000)), .slice (some ⟨go, 0, none⟩) no capo, .slice (some ⟨g5, 0, none⟩) ((tgL F x y 100).length) cap1, .int .i64 (i : Int), .bool fb, .int .i64 (k_ : Int), .int .i64 w0, .int .i64 l, .int .i64 (code F (inB w0 1 1000 && inB l 1 1000)), .int .i64 (code F (inB w0 1 1000 && inB l 1 1000)), .bool ((code F (inB w0 1 1000 && inB l 1 1000)) != 0), undef, undef, .slice (some ⟨g4, 0, none⟩) 0 0, .slice (some ⟨g5, 0, none⟩) ((tgL F x y 100).length) cap1, .int .i64 (i : Int), .slice (some ⟨g5, 0, none⟩) ((tgL F x y 100).length) cap1, .int .i64 ((tgL F x y 100).length : Int), .bool (decide ((i : Int) < ((tgL F x y 100).length : Int))), J1 29, J1 30, J2 31, J2 32, J2 33, J2 34, J2 35, J2 36, J2 37, J2 38, J2 39, J2 40, J2 41, J2 42, J2 43, J2 44, J2 45, J2 46, J2 47, J2 48, J2 49, J2 50, J1 51, J1 52, J1 53, J1 54, J1 55, J1 56, J1 57, J1 58, undef], []⟩)) ((apL F w0 l (tgL F x y 100) i).length) ?_ ?_
   ·refine ⟨0, true, rfl, ?_, ?_, HL1, B1, B2, B5, Bo, exJ (by kernel_rfl)⟩
    ·omega
    ·exact allB_0
   intro m2 a wl2 hI
   obtain ⟨k_, fb, rfl, hi_, hfb, HL2, B1, B2, B5, Bo, J2, rfl⟩ := hI
   refine wp_seq ?_
   refine wsr ?_
   refine wv (.int .i64 (k_ : Int)) ?_
   refine wv (.slice (some ⟨go, 0, none⟩) no capo) ?_
   refine wv (.int .i64 (no : Int)) ?_
   refine wv (.bool (decide ((k_ : Int) < (no : Int)))) ?_
   refine wpList_nil (then_normal ?_)
   refine wsplit (decide ((k_ : Int) < (no : Int))) (fun h3 => ?_) (fun h3 => ?_)
   ·skip
    have h3d := dT h3
    refine wp_skip ?_
    refine then_normal ?_
    refine wp_seq ?_
    refine wp_block ?_
    refine wp_frame (a' := ⟨#[.agg F.cells, .int .i64 w0, .int .i64 l, .agg #[.int .u64 x, .int .u64 y], .pointer (some ⟨g1, 0, none⟩), undef, undef, .pointer (some ⟨g2, 0, none⟩), .slice none 0 0, .int .i64 0, .int .i64 (code F (inB w0 1 1000 && inB l 1 1000)), .slice (some ⟨go, 0, none⟩) no capo, .slice (some ⟨g5, 0, none⟩) ((tgL F x y 100).length) cap1, .int .i64 (i : Int), .bool fb, .int .i64 (k_ : Int), .int .i64 w0, .int .i64 l, .int .i64 (code F (inB w0 1 1000 && inB l 1 1000)), .int .i64 (code F (inB w0 1 1000 && inB l 1 1000)), .bool ((code F (inB w0 1 1000 && inB l 1 1000)) != 0), undef, undef, .slice (some ⟨g4, 0, none⟩) 0 0, .slice (some ⟨g5, 0, none⟩) ((tgL F x y 100).length) cap1, .int .i64 (i : Int), .slice (some ⟨g5, 0, none⟩) ((tgL F x y 100).length) cap1, .int .i64 ((tgL F x y 100).length : Int), .bool (decide ((i : Int) < ((tgL F x y 100).length : Int))), J1 29, J1 30, .int .i64 (k_ : Int), .slice (some ⟨go, 0, none⟩) no capo, .int .i64 (no : Int), .bool (decide ((k_ : Int) < (no : Int))), J2 35, J2 36, J2 37, J2 38, J2 39, J2 40, J2 41, J2 42, J2 43, J2 44, J2 45, J2 46, J2 47, J2 48, J2 49, J2 50, J1 51, J1 52, J1 53, J1 54, J1 55, J1 56, J1 57, J1 58, undef], []⟩) (by kernel_rfl) ?_
    refine split_bool fb (fun h4 => ?_) (fun h4 => ?_)
    ·skip
     refine region_go 14 [37, 38, 39, 40, 41, 42, 43, 44, 45, 46, 47, 48, 49, 50] [[], [0], [1], [1], [1, 2, 3], [1, 4], [1], [1], [1, 6, 7], [1, 8], [1], [1], [1, 5, 9, 10, 11], [1, 12]]
      (fun i_ => ([.val (.bool true), .val (.bool true), .val (.slice (some ⟨go, 0, none⟩) no capo), .val (.int .i64 (k_ : Int)), .val (.pointer (some ⟨go, 0 + k_, none⟩)), .val (.int .i64 (atI (apL F w0 l (tgL F x y 100) i) k_)), .val (.slice (some ⟨g5, 0, none⟩) ((tgL F x y 100).length) cap1), .val (.int .i64 (i : Int)), .val (.pointer (some ⟨g5, 0 + i, none⟩)), .val (.int .i64 (atI (tgL F x y 100) i)), .val (.int .i64 w0), .val (.int .i64 l), .val (.bool (apB F w0 l (atI (apL F w0 l (tgL F x y 100) i) k_) (atI (tgL F x y 100) i))), .val (.bool (apB F w0 l (atI (apL F w0 l (tgL F x y 100) i) k_) (atI (tgL F x y 100) i)))] : List Fct).getD i_ .any)
      (by kernel_rfl) (by kernel_rfl) (by decide) (by simp) rfl (all_succ (all_succ (all_succ (all_succ (all_succ (all_succ (all_succ (all_succ (all_succ (all_succ (all_succ (all_succ (all_succ (all_succ all_zero ?_) ?_) ?_) ?_) ?_) ?_) ?_) ?_) ?_) ?_) ?_) ?_) ?_) ?_) ?_
     ·refine step0 rfl rfl rfl (fun wr hw => ?_)
      exact OpRun.val (.bool fb) (.bool true) (by kernel_rfl) (congrArg Value.bool h4) ⟨Ext.refl _, rfl⟩
     ·refine step1 rfl rfl rfl rfl (fun u0 wr hw h0 => ?_)
      cases h0
      exact OpRun.val (.bool true) (.bool true) (by kernel_rfl) rfl ⟨Ext.refl _, rfl⟩
     ·refine gstep1 rfl rfl rfl rfl (fun u wr h => by cases h; rfl) (fun u0 wr hw h0 => ?_)
      cases h0
      exact OpRun.val (.slice (some ⟨go, 0, none⟩) no capo) (.slice (some ⟨go, 0, none⟩) no capo) (by kernel_rfl) rfl ⟨Ext.refl _, rfl⟩
     ·refine gstep1 rfl rfl rfl rfl (fun u wr h => by cases h; rfl) (fun u0 wr hw h0 => ?_)
      cases h0
      exact OpRun.val (.int .i64 (k_ : Int)) (.int .i64 (k_ : Int)) (by kernel_rfl) rfl ⟨Ext.refl _, rfl⟩
     ·refine gstep3 rfl rfl rfl rfl rfl rfl (fun u wr h => by cases h; rfl) (fun u0 u1 u2 wr hw h0 h1 h2 => ?_)
      cases h0
      cases h1
      cases h2
      exact OpRun.six1 (i := k_) (k := .i64) (g := go) (off := 0) (n := no) (cap := capo) slit__int64 rfl (by kernel_rfl) (by kernel_rfl) (by omega) ⟨Ext.refl _, rfl⟩
     ·refine gstep2 rfl rfl rfl rfl rfl (fun u wr h => by cases h; rfl) (fun u0 u1 wr hw h0 h1 => ?_)
      cases h0
      cases h1
      exact OpRun.cell (g := go) (off := 0 + k_) (v := .int .i64 (atI (apL F w0 l (tgL F x y 100) i) k_)) scal_int64 rfl (by kernel_rfl) ((Bo.ext hw).get (SlI.get So (by omega))) ⟨Ext.refl _, rfl⟩
     ·refine gstep1 rfl rfl rfl rfl (fun u wr h => by cases h; rfl) (fun u0 wr hw h0 => ?_)
      cases h0
      exact OpRun.val (.slice (some ⟨g5, 0, none⟩) ((tgL F x y 100).length) cap1) (.slice (some ⟨g5, 0, none⟩) ((tgL F x y 100).length) cap1) (by kernel_rfl) rfl ⟨Ext.refl _, rfl⟩
     ·refine gstep1 rfl rfl rfl rfl (fun u wr h => by cases h; rfl) (fun u0 wr hw h0 => ?_)
      cases h0
      exact OpRun.val (.int .i64 (i : Int)) (.int .i64 (i : Int)) (by kernel_rfl) rfl ⟨Ext.refl _, rfl⟩
     ·refine gstep3 rfl rfl rfl rfl rfl rfl (fun u wr h => by cases h; rfl) (fun u0 u1 u2 wr hw h0 h1 h2 => ?_)
      cases h0
      cases h1
      cases h2
      exact OpRun.six1 (i := i) (k := .i64) (g := g5) (off := 0) (n := ((tgL F x y 100).length)) (cap := cap1) slit__int64 rfl (by kernel_rfl) (by kernel_rfl) (by omega) ⟨Ext.refl _, rfl⟩
     ·refine gstep2 rfl rfl rfl rfl rfl (fun u wr h => by cases h; rfl) (fun u0 u1 wr hw h0 h1 => ?_)
      cases h0
      cases h1
      exact OpRun.cell (g := g5) (off := 0 + i) (v := .int .i64 (atI (tgL F x y 100) i)) scal_int64 rfl (by kernel_rfl) ((B5.ext hw).get (SlI.get S3 (by omega))) ⟨Ext.refl _, rfl⟩
     ·refine gstep1 rfl rfl rfl rfl (fun u wr h => by cases h; rfl) (fun u0 wr hw h0 => ?_)
      cases h0
      exact OpRun.val (.int .i64 w0) (.int .i64 w0) (by kernel_rfl) rfl ⟨Ext.refl _, rfl⟩
     ·refine gstep1 rfl rfl rfl rfl (fun u wr h => by cases h; rfl) (fun u0 wr hw h0 => ?_)
      cases h0
      exact OpRun.val (.int .i64 l) (.int .i64 l) (by kernel_rfl) rfl ⟨Ext.refl _, rfl⟩
     ·refine gstep5 rfl rfl rfl rfl rfl rfl rfl rfl (fun u wr h => by cases h; rfl) (fun u0 u1 u2 u3 u4 wr hw h0 h1 h2 h3 h4 => ?_)
      cases h0
      cases h1
      cases h2
      cases h3
      cases h4
      exact OpRun.call 54 #[.pointer (some ⟨g1, 0, none⟩), .int .i64 (atI (apL F w0 l (tgL F x y 100) i) k_), .int .i64 (atI (tgL F x y 100) i), .int .i64 w0, .int .i64 l] (by kernel_rfl) ((l03Apart_any F hF g1 _ (atI (apL F w0 l (tgL F x y 100) i) k_) (atI (tgL F x y 100) i) w0 l (by first | exact ⟨apL_in hT_ i k_ (by omega) (by omega), hT_ i (by omega)⟩ | exact ⟨slB_in (hA _ (by omega)).1, slB_in (hA _ (by omega)).1⟩ | exact ⟨by omega, by omega⟩) (by omega) _ (B1.ext hw)).mono fun e w1 ⟨he, hb⟩ => ⟨_, he, hb, rfl⟩)
     ·refine step2 rfl rfl rfl rfl rfl (fun u0 u1 wr hw h0 h1 => ?_)
      cases h0
      cases h1
      exact OpRun.val (.bool (apB F w0 l (atI (apL F w0 l (tgL F x y 100) i) k_) (atI (tgL F x y 100) i))) (.bool (apB F w0 l (atI (apL F w0 l (tgL F x y 100) i) k_) (atI (tgL F x y 100) i))) (by kernel_rfl) rfl ⟨Ext.refl _, rfl⟩
     refine end14 (fun u0 u1 u2 u3 u4 u5 u6 u7 u8 u9 u10 u11 u12 u13 w7 E7 f0 f1 f2 f3 f4 f5 f6 f7 f8 f9 f10 f11 f12 f13 => ?_)
     cases f0
     cases f1
     cases f2
     cases f3
     cases f4
     cases f5
     cases f6
     cases f7
     cases f8
     cases f9
     cases f10
     cases f11
     cases f12
     cases f13
     refine wv (.bool (apB F w0 l (atI (apL F w0 l (tgL F x y 100) i) k_) (atI (tgL F x y 100) i))) ?_
     refine wpList_nil (block_normal (then_normal ?_))
     refine wp_region_lit ?_
     refine wv (.int .i64 (k_ : Int)) ?_
     refine wi64 ((k_ : Int) + 1) ?_
     refine wv (.int .i64 ((k_ : Int) + 1)) ?_
     refine wpList_nil (then_normal ?_)
     replace B1 := B1.ext E7
     replace B2 := B2.ext E7
     replace B5 := B5.ext E7
     replace Bo := Bo.ext E7
     have H6 := HL2.trans E7
     refine ⟨_, ?_, k_ + 1, (apB F w0 l (atI (apL F w0 l (tgL F x y 100) i) k_) (atI (tgL F x y 100) i)), rfl, ?_, ?_, H6, B1, B2, B5, Bo, exJ (by kernel_rfl)⟩
     ·omega
     ·omega
     ·first | exact ap_T hfb (by assumption) | exact ap_F hfb (by assumption)
    ·skip
     refine region_go 14 [37, 38, 39, 40, 41, 42, 43, 44, 45, 46, 47, 48, 49, 50] [[], [0], [1], [1], [1, 2, 3], [1, 4], [1], [1], [1, 6, 7], [1, 8], [1], [1], [1, 5, 9, 10, 11], [1, 12]]
      (fun i_ => ([.val (.bool false), .val (.bool false), .val undef, .val undef, .val undef, .val undef, .val undef, .val undef, .val undef, .val undef, .val undef, .val undef, .val undef, .val (.bool false)] : List Fct).getD i_ .any)
      (by kernel_rfl) (by kernel_rfl) (by decide) (by simp) rfl (all_succ (all_succ (all_succ (all_succ (all_succ (all_succ (all_succ (all_succ (all_succ (all_succ (all_succ (all_succ (all_succ (all_succ all_zero ?_) ?_) ?_) ?_) ?_) ?_) ?_) ?_) ?_) ?_) ?_) ?_) ?_) ?_) ?_
     ·refine step0 rfl rfl rfl (fun wr hw => ?_)
      exact OpRun.val (.bool fb) (.bool false) (by kernel_rfl) (congrArg Value.bool h4) ⟨Ext.refl _, rfl⟩
     ·refine step1 rfl rfl rfl rfl (fun u0 wr hw h0 => ?_)
      cases h0
      exact OpRun.val (.bool false) (.bool false) (by kernel_rfl) rfl ⟨Ext.refl _, rfl⟩
     ·refine skip_ rfl rfl rfl (fun u wr h => by cases h; rfl) (fun _ => rfl)
     ·refine skip_ rfl rfl rfl (fun u wr h => by cases h; rfl) (fun _ => rfl)
     ·refine skip_ rfl rfl rfl (fun u wr h => by cases h; rfl) (fun _ => rfl)
     ·refine skip_ rfl rfl rfl (fun u wr h => by cases h; rfl) (fun _ => rfl)
     ·refine skip_ rfl rfl rfl (fun u wr h => by cases h; rfl) (fun _ => rfl)
     ·refine skip_ rfl rfl rfl (fun u wr h => by cases h; rfl) (fun _ => rfl)
     ·refine skip_ rfl rfl rfl (fun u wr h => by cases h; rfl) (fun _ => rfl)
     ·refine skip_ rfl rfl rfl (fun u wr h => by cases h; rfl) (fun _ => rfl)
     ·refine skip_ rfl rfl rfl (fun u wr h => by cases h; rfl) (fun _ => rfl)
     ·refine skip_ rfl rfl rfl (fun u wr h => by cases h; rfl) (fun _ => rfl)
     ·refine skip_ rfl rfl rfl (fun u wr h => by cases h; rfl) (fun _ => rfl)
     ·refine step2 rfl rfl rfl rfl rfl (fun u0 u1 wr hw h0 h1 => ?_)
      cases h0
      cases h1
      exact OpRun.val (.bool false) (.bool false) (by kernel_rfl) rfl ⟨Ext.refl _, rfl⟩
     refine end14 (fun u0 u1 u2 u3 u4 u5 u6 u7 u8 u9 u10 u11 u12 u13 w8 E8 f0 f1 f2 f3 f4 f5 f6 f7 f8 f9 f10 f11 f12 f13 => ?_)
     cases f0
     cases f1
     cases f2
     cases f3
     cases f4
     cases f5
     cases f6
     cases f7
     cases f8
     cases f9
     cases f10
     cases f11
     cases f12
     cases f13
     refine wv (.bool false) ?_
     refine wpList_nil (block_normal (then_normal ?_))
     refine wp_region_lit ?_
     refine wv (.int .i64 (k_ : Int)) ?_
     refine wi64 ((k_ : Int) + 1) ?_
     refine wv (.int .i64 ((k_ : Int) + 1)) ?_
     refine wpList_nil (then_normal ?_)
     replace B1 := B1.ext E8
     replace B2 := B2.ext E8
     replace B5 := B5.ext E8
     replace Bo := Bo.ext E8
     have H7 := HL2.trans E8
     refine ⟨_, ?_, k_ + 1, false, rfl, ?_, ?_, H7, B1, B2, B5, Bo, exJ (by kernel_rfl)⟩
     ·omega
     ·omega
     ·first | exact ap_T hfb (by assumption) | exact ap_F hfb (by assumption)
   ·skip
    have h3d := dF h3
    refine wp_exit ?_
    refine then_exit ?_
    refine then_exit ?_
    refine block_exit ?_
    refine then_normal ?_
    refine wsr ?_
    refine wv (.bool fb) ?_
    refine wpList_nil (then_normal ?_)
    refine wsplit (fb) (fun h5 => ?_) (fun h5 => ?_)
    ·skip
     refine wp_region_lit ?_
     refine wv (.slice (some ⟨go, 0, none⟩) no capo) ?_
     refine wv (.slice (some ⟨g5, 0, none⟩) ((tgL F x y 100).length) cap1) ?_
     refine wv (.int .i64 (i : Int)) ?_
     refine wsix1 g5 0 ((tgL F x y 100).length) cap1 i .i64 slit__int64 ?_
     have tg1 := tgL_in (F := F) (tx := x) (ty := y) (j := i) (by omega)
     refine wld g5 (0 + i) scal_int64 (B5.get (SlI.get S3 (by omega))) ?_
     refine wbsl 1 #[.int .i64 (atI (tgL F x y 100) i)] slt__int64 ?_
     intro g6 w9 B6 E9 hg_
     have q_g1_g6 := Nat.ne_of_lt (Nat.lt_of_lt_of_le B1.lt hg_)
     have q_g2_g6 := Nat.ne_of_lt (Nat.lt_of_lt_of_le B2.lt hg_)
     have q_g5_g6 := Nat.ne_of_lt (Nat.lt_of_lt_of_le B5.lt hg_)
     have q_go_g6 := Nat.ne_of_lt (Nat.lt_of_lt_of_le Bo.lt hg_)
     have lo_g6 := Nat.le_trans (HL2).size hg_
     replace B1 := B1.ext E9
     replace B2 := B2.ext E9
     replace B5 := B5.ext E9
     replace Bo := Bo.ext E9
     have H8 := HL2.trans E9
     refine wappi (atI (tgL F x y 100) i) slt__int64 Bo So B6 ?_
     intro g7 cap2 cs2 w10 B7 S4 X1 or1
     have n_g1_g7 := ne_app B1 n_g1_go or1
     have n_g2_g7 := ne_app B2 n_g2_go or1
     have n_g5_g7 := ne_app B5 n_g5_go or1
     have n_g6_g7 := ne_app B6 (Ne.symm q_go_g6) or1
     have lo_g7 := Wr.lo or1 lo_go (H8).size
     refine wv (.slice (some ⟨g7, 0, none⟩) (no + 1) cap2) ?_
     refine wpList_nil (block_normal (then_normal ?_))
     refine wp_region_lit ?_
     refine wv (.int .i64 (i : Int)) ?_
     refine wi64 ((i : Int) + 1) ?_
     refine wv (.int .i64 ((i : Int) + 1)) ?_
     refine wpList_nil (then_normal ?_)
     replace B1 := X1.blk B1 n_g1_go
     replace B2 := X1.blk B2 n_g2_go
     replace B5 := X1.blk B5 n_g5_go
     have H9 := X1.ext w lo_go H8
     refine ⟨_, ?_, i + 1, g7, no + 1, cap2, cs2, rfl, ?_, ?_, ?_, ?_, ?_, ?_, H9, B1, B2, B5, B7, exJ (by kernel_rfl)⟩
     ·omega
     ·omega
     ·refine S4.of_eq ?_
      first | exact (apL_3 hfb (by omega) (by assumption)).symm | exact (apL_4 hfb (by omega) (by assumption)).symm
     ·exact lo_g7
     ·exact n_g1_g7
     ·exact n_g2_g7
     ·exact n_g5_g7
    ·skip
     refine wp_skip ?_
     refine block_normal (then_normal ?_)
     refine wp_region_lit ?_
     refine wv (.int .i64 (i : Int)) ?_
     refine wi64 ((i : Int) + 1) ?_
     refine wv (.int .i64 ((i : Int) + 1)) ?_
     refine wpList_nil (then_normal ?_)
     refine ⟨_, ?_, i + 1, go, no, capo, cso, rfl, ?_, ?_, ?_, ?_, ?_, ?_, HL2, B1, B2, B5, Bo, exJ (by kernel_rfl)⟩
     ·omega
     ·omega
     ·refine So.of_eq ?_
      first | exact (apL_3 hfb (by omega) (by assumption)).symm | exact (apL_4 hfb (by omega) (by assumption)).symm
     ·exact lo_go
     ·exact n_g1_go
     ·exact n_g2_go
     ·exact n_g5_go
  ·skip
   have h2d := dF h2
   refine wp_exit ?_
   refine then_exit ?_
   refine then_exit ?_
   refine block_exit ?_
   refine then_normal ?_
   refine wsr ?_
   refine wv (.slice (some ⟨go, 0, none⟩) no capo) ?_
   refine wv (.slice (some ⟨go, 0, none⟩) no capo) ?_
   refine wv (.int .i64 0) ?_
   refine wpList_nil (then_normal ?_)
   refine wp_ret ?_
   refine ret2 (.slice (some ⟨go, 0, none⟩) no capo) (.int .i64 0) rfl ?_ ?_ rfl ?_
   ·exact resT (by kernel_rfl)
   ·exact resT (by kernel_rfl)
   have hq : apL F w0 l (tgL F x y 100) i = apL F w0 l (tgL F x y 100) (tgL F x y 100).length := by
    rw [show i = (tgL F x y 100).length by omega]
   exact .inl ⟨(by assumption), go, no, capo, cso, rfl, Bo, So.of_eq hq, HL1, lo_go⟩
theorem iApartCells_t (F : Fld) (hF : F.wf) (w0 l x y : Int) (hwx : wrd x) (hwy : wrd y) (w : World) (hz : code F (inB w0 1 1000 && inB l 1 1000) = 0) : Calls Try.prog 12 #[.agg F.cells, .int .i64 w0, .int .i64 l, .agg #[.int .u64 x, .int .u64 y]] w (RetI w 2 .i64 (apL F w0 l (tgL F x y 100) (tgL F x y 100).length) (fun v => .tuple #[v, .int .i64 0])) := by
 refine (iApartCells_any F hF w0 l x y hwx hwy w).mono fun e w' h => ?_
 rcases h with ⟨_, h⟩ | ⟨h, _⟩
 ·exact h
 ·exact absurd hz h
theorem sApartCells_t (F : Fld) (hF : F.wf) (w0 l x y : Int) (hwx : wrd x) (hwy : wrd y) (w : World) (hz : code F (inB w0 1 1000 && inB l 1 1000) = 0) : Calls Try.prog 13 #[.agg F.cells, .int .i64 w0, .int .i64 l, .agg #[.int .u64 x, .int .u64 y]] w (RetI w 2 .i64 (apL F w0 l (tgL F x y 100) (tgL F x y 100).length) (fun v => .tuple #[v, .int .i64 0])) := by
 refine (sApartCells_any F hF w0 l x y hwx hwy w).mono fun e w' h => ?_
 rcases h with ⟨_, h⟩ | ⟨h, _⟩
 ·exact h
 ·exact absurd hz h
end Go.Proofs.Ytgglcebaanomhaa
