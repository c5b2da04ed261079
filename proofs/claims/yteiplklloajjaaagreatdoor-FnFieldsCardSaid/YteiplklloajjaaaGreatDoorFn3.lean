/-
  Contracts: the functions of fields. No conditions.
-/
import Derived.Test.YteiplklloajjaaaGreatDoorTy
import Derived.Test.YteiplklloajjaaaGreatDoorSl
import Derived.Test.YteiplklloajjaaaGreatDoorMth
import Derived.Test.YteiplklloajjaaaGreatDoorFn2
namespace Go.Proofs.YteiplklloajjaaaGreatDoor
open Go.RowKit
set_option linter.unusedSimpArgs false
set_option linter.unusedVariables false
set_option maxHeartbeats 4000000
set_option maxRecDepth 100000
attribute [local irreducible] wpList Code.wp
--# iKindAt_any
theorem iKindAt_any (F : Fld) (hF : F.wf) (c : Int) (w : World) :
 Calls Tryz.prog 20 #[.agg F.cells, .int .i64 c] w fun e w' => e = .returned (.tuple #[.int .i64 (if code F (isB F c) = 0 then F.k c.toNat else 0), .int .i64 (code F (isB F c))]) ∧ Ext w w' := by
 refine calls_of_wp Tryz.func20 rfl ?_
 refine wp_frame (a' := ⟨#[.agg F.cells, .int .i64 c, undef, undef, undef, undef, undef, undef, undef, undef, undef, undef, undef, undef, undef, undef, undef], []⟩) (by kernel_rfl) ?_
 refine wsr ?_
 refine wbox F.cells ?_
 intro g1 w1 B1 E1 _
 refine wboxv (.int .i64 c) ?_
 intro g2 w2 B2 E2 _
 refine wv (.int .i64 0) ?_
 refine wv (.int .i64 0) ?_
 refine wpList_nil (then_normal ?_)
 refine wp_seq ?_
 refine wsr ?_
 refine wv (.func (.func 47) #[] #[.pointer (some ⟨g1, 0, none⟩), .pointer (some ⟨g2, 0, none⟩)]) ?_
 replace B1 := B1.ext E2
 refine wcl (fieldCode_any F hF g1 _ (.func (.func 47) #[] #[.pointer (some ⟨g1, 0, none⟩), .pointer (some ⟨g2, 0, none⟩)]) 47 #[.pointer (some ⟨g1, 0, none⟩), .pointer (some ⟨g2, 0, none⟩)] (fun _ => by kernel_rfl) (isB F c) _ B1 (fun _ E_ => KindAt1_any F hF g1 _ c g2 _ _ (B1.ext E_) (B2.ext E_))) ?_
 intro w3 E3
 refine wv (.int .i64 (code F (isB F c))) ?_
 refine wpList_nil (then_normal ?_)
 refine wsr ?_
 refine wv (.int .i64 (code F (isB F c))) ?_
 refine wv (.bool ((code F (isB F c)) != 0)) ?_
 refine wpList_nil (then_normal ?_)
 have H1 := (((Ext.refl w).trans E1).trans E2).trans E3
 refine wsplit ((code F (isB F c)) != 0) (fun h1 => ?_) (fun h1 => ?_)
 · skip
   have h1d := nT h1
   refine wsr ?_
   refine wv (.int .i64 (code F (isB F c))) ?_
   refine wv (.int .i64 0) ?_
   refine wv (.int .i64 (code F (isB F c))) ?_
   refine wpList_nil (then_normal ?_)
   refine wp_ret ?_
   refine then_ret ?_
   refine ret2 (.int .i64 (if code F (isB F c) = 0 then F.k c.toNat else 0)) (.int .i64 (code F (isB F c))) rfl ?_ ?_ rfl ?_
   · refine (resT (v := .int .i64 0) (by kernel_rfl)).trans ?_
     refine congrArg (Value.int _) ?_
     first | (rw [if_pos (by assumption)]; done) | (rw [if_neg (by assumption)]; done) | rfl | assumption | (symm; assumption)
   · exact resT (by kernel_rfl)
   exact ⟨rfl, H1⟩
 · skip
   have h1d := nF h1
   have h1o := (code_zero h1d).1
   have h1z := (code_zero h1d).2
   have h1zd := isB_true.1 h1z
   refine wp_skip ?_
   refine then_normal ?_
   refine wsr ?_
   replace B2 := B2.ext E3
   refine wld (v := .int .i64 c) g2 (0) scal_int64 (B2.get (rfl)) ?_
   refine wv (.pointer (some ⟨g1, 2, none⟩)) ?_
   refine wix g1 2 c .i64 arrt__100_uint8 ?_
   replace B1 := B1.ext E3
   have ce1 := hF.k1 ((c).toNat) (by omega)
   have ce2 := ok_cell h1o ((c).toNat) (by omega)
   refine wld g1 (2 + (c).toNat) scal_uint8 (B1.get (Fld.getk _ _ (by omega))) ?_
   refine wi64 (F.k ((c).toNat)) ?_
   refine wv (.int .i64 (F.k ((c).toNat))) ?_
   refine wv (.int .i64 0) ?_
   refine wpList_nil (then_normal ?_)
   refine wp_ret ?_
   refine ret2 (.int .i64 (if code F (isB F c) = 0 then F.k c.toNat else 0)) (.int .i64 (code F (isB F c))) rfl ?_ ?_ rfl ?_
   · refine (resT (v := .int .i64 (F.k ((c).toNat))) (by kernel_rfl)).trans ?_
     refine congrArg (Value.int _) ?_
     first | (rw [if_pos (by assumption)]; done) | (rw [if_neg (by assumption)]; done) | rfl | assumption | (symm; assumption)
   · refine (resT (v := .int .i64 0) (by kernel_rfl)).trans ?_
     refine congrArg (Value.int _) ?_
     first | (rw [if_pos (by assumption)]; done) | (rw [if_neg (by assumption)]; done) | rfl | assumption | (symm; assumption)
   exact ⟨rfl, H1⟩


--# iSeedsAt_any
theorem iSeedsAt_any (F : Fld) (hF : F.wf) (c : Int) (w : World) :
 Calls Tryz.prog 19 #[.agg F.cells, .int .i64 c] w fun e w' => e = .returned (.tuple #[.int .i64 (if code F (isB F c) = 0 then F.s c.toNat else 0), .int .i64 (code F (isB F c))]) ∧ Ext w w' := by
 refine calls_of_wp Tryz.func19 rfl ?_
 refine wp_frame (a' := ⟨#[.agg F.cells, .int .i64 c, undef, undef, undef, undef, undef, undef, undef, undef, undef, undef, undef, undef, undef, undef, undef], []⟩) (by kernel_rfl) ?_
 refine wsr ?_
 refine wbox F.cells ?_
 intro g1 w1 B1 E1 _
 refine wboxv (.int .i64 c) ?_
 intro g2 w2 B2 E2 _
 refine wv (.int .i64 0) ?_
 refine wv (.int .i64 0) ?_
 refine wpList_nil (then_normal ?_)
 refine wp_seq ?_
 refine wsr ?_
 refine wv (.func (.func 46) #[] #[.pointer (some ⟨g1, 0, none⟩), .pointer (some ⟨g2, 0, none⟩)]) ?_
 replace B1 := B1.ext E2
 refine wcl (fieldCode_any F hF g1 _ (.func (.func 46) #[] #[.pointer (some ⟨g1, 0, none⟩), .pointer (some ⟨g2, 0, none⟩)]) 46 #[.pointer (some ⟨g1, 0, none⟩), .pointer (some ⟨g2, 0, none⟩)] (fun _ => by kernel_rfl) (isB F c) _ B1 (fun _ E_ => SeedsAt1_any F hF g1 _ c g2 _ _ (B1.ext E_) (B2.ext E_))) ?_
 intro w3 E3
 refine wv (.int .i64 (code F (isB F c))) ?_
 refine wpList_nil (then_normal ?_)
 refine wsr ?_
 refine wv (.int .i64 (code F (isB F c))) ?_
 refine wv (.bool ((code F (isB F c)) != 0)) ?_
 refine wpList_nil (then_normal ?_)
 have H1 := (((Ext.refl w).trans E1).trans E2).trans E3
 refine wsplit ((code F (isB F c)) != 0) (fun h1 => ?_) (fun h1 => ?_)
 · skip
   have h1d := nT h1
   refine wsr ?_
   refine wv (.int .i64 (code F (isB F c))) ?_
   refine wv (.int .i64 0) ?_
   refine wv (.int .i64 (code F (isB F c))) ?_
   refine wpList_nil (then_normal ?_)
   refine wp_ret ?_
   refine then_ret ?_
   refine ret2 (.int .i64 (if code F (isB F c) = 0 then F.s c.toNat else 0)) (.int .i64 (code F (isB F c))) rfl ?_ ?_ rfl ?_
   · refine (resT (v := .int .i64 0) (by kernel_rfl)).trans ?_
     refine congrArg (Value.int _) ?_
     first | (rw [if_pos (by assumption)]; done) | (rw [if_neg (by assumption)]; done) | rfl | assumption | (symm; assumption)
   · exact resT (by kernel_rfl)
   exact ⟨rfl, H1⟩
 · skip
   have h1d := nF h1
   have h1o := (code_zero h1d).1
   have h1z := (code_zero h1d).2
   have h1zd := isB_true.1 h1z
   refine wp_skip ?_
   refine then_normal ?_
   refine wsr ?_
   replace B2 := B2.ext E3
   refine wld (v := .int .i64 c) g2 (0) scal_int64 (B2.get (rfl)) ?_
   refine wv (.pointer (some ⟨g1, 102, none⟩)) ?_
   refine wix g1 102 c .i64 arrt__100_int16 ?_
   replace B1 := B1.ext E3
   have ce1 := hF.s1 ((c).toNat) (by omega)
   have ce2 := ok_cell h1o ((c).toNat) (by omega)
   refine wld g1 (102 + (c).toNat) scal_int16 (B1.get (Fld.gets _ _ (by omega))) ?_
   refine wi64 (F.s ((c).toNat)) ?_
   refine wv (.int .i64 (F.s ((c).toNat))) ?_
   refine wv (.int .i64 0) ?_
   refine wpList_nil (then_normal ?_)
   refine wp_ret ?_
   refine ret2 (.int .i64 (if code F (isB F c) = 0 then F.s c.toNat else 0)) (.int .i64 (code F (isB F c))) rfl ?_ ?_ rfl ?_
   · refine (resT (v := .int .i64 (F.s ((c).toNat))) (by kernel_rfl)).trans ?_
     refine congrArg (Value.int _) ?_
     first | (rw [if_pos (by assumption)]; done) | (rw [if_neg (by assumption)]; done) | rfl | assumption | (symm; assumption)
   · refine (resT (v := .int .i64 0) (by kernel_rfl)).trans ?_
     refine congrArg (Value.int _) ?_
     first | (rw [if_pos (by assumption)]; done) | (rw [if_neg (by assumption)]; done) | rfl | assumption | (symm; assumption)
   exact ⟨rfl, H1⟩


--# sWithKind_any
theorem sWithKind_any (F : Fld) (hF : F.wf) (c : Int) (k : Int) (w : World) :
 Calls Tryz.prog 24 #[.agg F.cells, .int .i64 c, .int .i64 k] w fun e w' => e = .returned (.tuple #[.agg (Fld.cells (withK F c k)), .int .i64 (code F (isB F c && inB k 0 3))]) ∧ Ext w w' := by
 refine calls_of_wp Tryz.func24 rfl ?_
 refine wp_frame (a' := ⟨#[.agg F.cells, .int .i64 c, .int .i64 k, undef, undef, undef, undef, undef, undef, undef, undef, undef, undef, undef, undef, undef, undef, undef, undef, undef, undef, undef, undef, undef, undef, undef, undef, undef], []⟩) (by kernel_rfl) ?_
 refine wsr ?_
 refine wbox F.cells ?_
 intro g1 w1 B1 E1 hg_
 have lo_g1 := Nat.le_trans ((Ext.refl w)).size hg_
 have H1 := (Ext.refl w).trans E1
 refine wnew (Fld.cells Fld.zero) Tryz.zeroValue29 zero_impl_Field ?_
 intro g2 w2 B2 E2 hg_
 have q_g1_g2 := Nat.ne_of_lt (Nat.lt_of_lt_of_le B1.lt hg_)
 have lo_g2 := Nat.le_trans (H1).size hg_
 refine wv (.int .i64 0) ?_
 refine wpList_nil (then_normal ?_)
 refine wp_seq ?_
 refine wsr ?_
 refine wv (.int .i64 c) ?_
 refine wv (.int .i64 k) ?_
 refine wcl (l01Kind_any k _) ?_
 intro w3 E3
 replace B1 := (B1.ext E2).ext E3
 refine wcl (l01Asked_any F hF g1 _ c (inB k 0 3) (isB F c && (inB k 0 3)) rfl _ B1) ?_
 intro w4 E4
 refine wv (.int .i64 (code F (isB F c && (inB k 0 3)))) ?_
 refine wpList_nil (then_normal ?_)
 refine wsr ?_
 refine wv (.int .i64 (code F (isB F c && (inB k 0 3)))) ?_
 refine wv (.bool ((code F (isB F c && (inB k 0 3))) != 0)) ?_
 refine wpList_nil (then_normal ?_)
 have H2 := ((H1.trans E2).trans E3).trans E4
 refine wsplit ((code F (isB F c && (inB k 0 3))) != 0) (fun h1 => ?_) (fun h1 => ?_)
 · skip
   have h1d := nT h1
   refine wsr ?_
   refine wvv (.agg Tryz.zeroCells29) (.agg (Fld.cells Fld.zero)) (congrArg Value.agg zero_impl_Field) ?_
   refine wv (.int .i64 (code F (isB F c && (inB k 0 3)))) ?_
   replace B2 := (B2.ext E3).ext E4
   refine wput (Fld.cells Fld.zero) row_impl_Field B2 (by exact Fld.size_cells _) (by exact Fld.size_cells _) (by exact Fld.one_cells _) ?_
   intro w5 B2_ X1
   clear B2; have B2 := B2_; clear B2_
   refine wv (.int .i64 (code F (isB F c && (inB k 0 3)))) ?_
   refine wpList_nil (then_normal ?_)
   refine wp_ret ?_
   refine then_ret ?_
   have H3 := X1.ext w lo_g2 H2
   refine ret2 (.agg (Fld.cells (withK F c k))) (.int .i64 (code F (isB F c && inB k 0 3))) rfl ?_ ?_ rfl ?_
   · refine ⟨g2, 29, (Fld.cells Fld.zero), _, by kernel_rfl, B2, row_impl_Field, ?_, ?_⟩
     · exact Fld.size_cells _
     · show (.agg (Fld.cells (withK F c k)) : Value) = (.agg (Fld.cells Fld.zero))
       refine congrArg Value.agg ?_
       first | rw [withK_1 (by assumption)] | rw [withK_2 (by assumption) (by omega)] | rw [withK_3 (by assumption) (by omega)]
   · refine (resT (v := .int .i64 (code F (isB F c && (inB k 0 3)))) (by kernel_rfl)).trans ?_
     refine congrArg (Value.int _) ?_
     first | (rw [if_pos (by assumption)]; done) | (rw [if_neg (by assumption)]; done) | rfl | assumption | (symm; assumption)
   exact ⟨rfl, H3⟩
 · skip
   have h1d := nF h1
   have h1o := (code_zero h1d).1
   have h1z := (code_zero h1d).2
   obtain ⟨h1za, h1zb⟩ := andT h1z
   have h1zad := isB_true.1 h1za
   have h1zbd := inT h1zb
   refine wp_skip ?_
   refine then_normal ?_
   refine wsr ?_
   refine wv (.int .i64 c) ?_
   refine wv (.int .i64 k) ?_
   refine wu8 k ?_
   refine wv (.pointer (some ⟨g1, 2, none⟩)) ?_
   refine wix g1 2 c .i64 arrt__100_uint8 ?_
   replace B1 := B1.ext E4
   refine wst g1 (2 + (c).toNat) (.int .u8 k) scal_uint8 B1 (Fld.setk _ _ (by omega) _) (by rw [Fld.size_cells]; omega) ?_
   intro w6 B1_ X2
   clear B1; have B1 := B1_; clear B1_
   refine wpList_nil (then_normal ?_)
   refine wp_seq ?_
   refine wsr ?_
   refine wv (.int .i64 k) ?_
   refine wv (.bool (k != 0)) ?_
   refine wpList_nil (then_normal ?_)
   have H4 := X2.ext w lo_g1 H2
   refine wsplit (k != 0) (fun h2 => ?_) (fun h2 => ?_)
   · skip
     have h2d := nT h2
     refine wp_region_lit ?_
     refine wv (.int .i64 c) ?_
     refine wv (.pointer (some ⟨g1, 102, none⟩)) ?_
     refine wix g1 102 c .i64 arrt__100_int16 ?_
     refine wst g1 (102 + (c).toNat) (.int .i16 0) scal_int16 B1 (Fld.sets _ _ (by omega) _) (by rw [Fld.size_cells]; omega) ?_
     intro w7 B1_ X3
     clear B1; have B1 := B1_; clear B1_
     refine wpList_nil (then_normal ?_)
     refine wsr ?_
     refine wrow row_impl_Field B1 (by exact Fld.size_cells _) ?_
     replace B2 := X3.blk (X2.blk ((B2.ext E3).ext E4) (Ne.symm q_g1_g2)) (Ne.symm q_g1_g2)
     refine wput (Fld.cells ({ { F with k := upd F.k ((c).toNat) k } with s := upd ({ F with k := upd F.k ((c).toNat) k }).s ((c).toNat) 0 })) row_impl_Field B2 (by exact Fld.size_cells _) (by exact Fld.size_cells _) (by exact Fld.one_cells _) ?_
     intro w8 B2_ X4
     clear B2; have B2 := B2_; clear B2_
     refine wv (.int .i64 0) ?_
     refine wpList_nil (then_normal ?_)
     refine wp_ret ?_
     have H5 := X4.ext w lo_g2 (X3.ext w lo_g1 H4)
     refine ret2 (.agg (Fld.cells (withK F c k))) (.int .i64 (code F (isB F c && inB k 0 3))) rfl ?_ ?_ rfl ?_
     · refine ⟨g2, 29, (Fld.cells ({ { F with k := upd F.k ((c).toNat) k } with s := upd ({ F with k := upd F.k ((c).toNat) k }).s ((c).toNat) 0 })), _, by kernel_rfl, B2, row_impl_Field, ?_, ?_⟩
       · exact Fld.size_cells _
       · show (.agg (Fld.cells (withK F c k)) : Value) = (.agg (Fld.cells ({ { F with k := upd F.k ((c).toNat) k } with s := upd ({ F with k := upd F.k ((c).toNat) k }).s ((c).toNat) 0 })))
         refine congrArg Value.agg ?_
         first | rw [withK_1 (by assumption)] | rw [withK_2 (by assumption) (by omega)] | rw [withK_3 (by assumption) (by omega)]
     · refine (resT (v := .int .i64 0) (by kernel_rfl)).trans ?_
       refine congrArg (Value.int _) ?_
       first | (rw [if_pos (by assumption)]; done) | (rw [if_neg (by assumption)]; done) | rfl | assumption | (symm; assumption)
     exact ⟨rfl, H5⟩
   · skip
     have h2d := nF h2
     refine wp_skip ?_
     refine then_normal ?_
     refine wsr ?_
     refine wrow row_impl_Field B1 (by exact Fld.size_cells _) ?_
     replace B2 := X2.blk ((B2.ext E3).ext E4) (Ne.symm q_g1_g2)
     refine wput (Fld.cells ({ F with k := upd F.k ((c).toNat) k })) row_impl_Field B2 (by exact Fld.size_cells _) (by exact Fld.size_cells _) (by exact Fld.one_cells _) ?_
     intro w9 B2_ X5
     clear B2; have B2 := B2_; clear B2_
     refine wv (.int .i64 0) ?_
     refine wpList_nil (then_normal ?_)
     refine wp_ret ?_
     have H6 := X5.ext w lo_g2 H4
     refine ret2 (.agg (Fld.cells (withK F c k))) (.int .i64 (code F (isB F c && inB k 0 3))) rfl ?_ ?_ rfl ?_
     · refine ⟨g2, 29, (Fld.cells ({ F with k := upd F.k ((c).toNat) k })), _, by kernel_rfl, B2, row_impl_Field, ?_, ?_⟩
       · exact Fld.size_cells _
       · show (.agg (Fld.cells (withK F c k)) : Value) = (.agg (Fld.cells ({ F with k := upd F.k ((c).toNat) k })))
         refine congrArg Value.agg ?_
         first | rw [withK_1 (by assumption)] | rw [withK_2 (by assumption) (by omega)] | rw [withK_3 (by assumption) (by omega)]
     · refine (resT (v := .int .i64 0) (by kernel_rfl)).trans ?_
       refine congrArg (Value.int _) ?_
       first | (rw [if_pos (by assumption)]; done) | (rw [if_neg (by assumption)]; done) | rfl | assumption | (symm; assumption)
     exact ⟨rfl, H6⟩


--# iWithKind_any
theorem iWithKind_any (F : Fld) (hF : F.wf) (c : Int) (k : Int) (w : World) :
 Calls Tryz.prog 23 #[.agg F.cells, .int .i64 c, .int .i64 k] w fun e w' => e = .returned (.tuple #[.agg (Fld.cells (withK F c k)), .int .i64 (code F (isB F c && inB k 0 3))]) ∧ Ext w w' := by
 refine calls_of_wp Tryz.func23 rfl ?_
 refine wp_frame (a' := ⟨#[.agg F.cells, .int .i64 c, .int .i64 k, undef, undef, undef, undef, undef, undef, undef, undef, undef, undef, undef, undef, undef, undef, undef, undef, undef, undef, undef, undef, undef, undef, undef], []⟩) (by kernel_rfl) ?_
 refine wsr ?_
 refine wbox F.cells ?_
 intro g1 w1 B1 E1 hg_
 have lo_g1 := Nat.le_trans ((Ext.refl w)).size hg_
 have H1 := (Ext.refl w).trans E1
 refine wboxv (.int .i64 c) ?_
 intro g2 w2 B2 E2 hg_
 have q_g1_g2 := Nat.ne_of_lt (Nat.lt_of_lt_of_le B1.lt hg_)
 have lo_g2 := Nat.le_trans (H1).size hg_
 have H2 := H1.trans E2
 replace B1 := B1.ext E2
 refine wboxv (.int .i64 k) ?_
 intro g3 w3 B3 E3 hg_
 have q_g1_g3 := Nat.ne_of_lt (Nat.lt_of_lt_of_le B1.lt hg_)
 have q_g2_g3 := Nat.ne_of_lt (Nat.lt_of_lt_of_le B2.lt hg_)
 have lo_g3 := Nat.le_trans (H2).size hg_
 have H3 := H2.trans E3
 replace B1 := B1.ext E3
 replace B2 := B2.ext E3
 refine wnew (Fld.cells Fld.zero) Tryz.zeroValue29 zero_impl_Field ?_
 intro g4 w4 B4 E4 hg_
 have q_g1_g4 := Nat.ne_of_lt (Nat.lt_of_lt_of_le B1.lt hg_)
 have q_g2_g4 := Nat.ne_of_lt (Nat.lt_of_lt_of_le B2.lt hg_)
 have q_g3_g4 := Nat.ne_of_lt (Nat.lt_of_lt_of_le B3.lt hg_)
 have lo_g4 := Nat.le_trans (H3).size hg_
 refine wv (.int .i64 0) ?_
 refine wpList_nil (then_normal ?_)
 refine wp_seq ?_
 refine wsr ?_
 refine wv (.func (.func 50) #[] #[.pointer (some ⟨g1, 0, none⟩), .pointer (some ⟨g2, 0, none⟩), .pointer (some ⟨g3, 0, none⟩)]) ?_
 replace B1 := B1.ext E4
 replace B2 := B2.ext E4
 replace B3 := B3.ext E4
 refine wcl (fieldCode_any F hF g1 _ (.func (.func 50) #[] #[.pointer (some ⟨g1, 0, none⟩), .pointer (some ⟨g2, 0, none⟩), .pointer (some ⟨g3, 0, none⟩)]) 50 #[.pointer (some ⟨g1, 0, none⟩), .pointer (some ⟨g2, 0, none⟩), .pointer (some ⟨g3, 0, none⟩)] (fun _ => by kernel_rfl) (isB F c && inB k 0 3) _ B1 (fun _ E_ => WithKind1_any F hF g1 _ c g2 _ k g3 _ _ (B1.ext E_) (B2.ext E_) (B3.ext E_))) ?_
 intro w5 E5
 refine wv (.int .i64 (code F (isB F c && inB k 0 3))) ?_
 refine wpList_nil (then_normal ?_)
 refine wsr ?_
 refine wv (.int .i64 (code F (isB F c && inB k 0 3))) ?_
 refine wv (.bool ((code F (isB F c && inB k 0 3)) != 0)) ?_
 refine wpList_nil (then_normal ?_)
 have H4 := (H3.trans E4).trans E5
 refine wsplit ((code F (isB F c && inB k 0 3)) != 0) (fun h1 => ?_) (fun h1 => ?_)
 · skip
   have h1d := nT h1
   refine wsr ?_
   refine wvv (.agg Tryz.zeroCells29) (.agg (Fld.cells Fld.zero)) (congrArg Value.agg zero_impl_Field) ?_
   refine wv (.int .i64 (code F (isB F c && inB k 0 3))) ?_
   replace B4 := B4.ext E5
   refine wput (Fld.cells Fld.zero) row_impl_Field B4 (by exact Fld.size_cells _) (by exact Fld.size_cells _) (by exact Fld.one_cells _) ?_
   intro w6 B4_ X1
   clear B4; have B4 := B4_; clear B4_
   refine wv (.int .i64 (code F (isB F c && inB k 0 3))) ?_
   refine wpList_nil (then_normal ?_)
   refine wp_ret ?_
   refine then_ret ?_
   have H5 := X1.ext w lo_g4 H4
   refine ret2 (.agg (Fld.cells (withK F c k))) (.int .i64 (code F (isB F c && inB k 0 3))) rfl ?_ ?_ rfl ?_
   · refine ⟨g4, 29, (Fld.cells Fld.zero), _, by kernel_rfl, B4, row_impl_Field, ?_, ?_⟩
     · exact Fld.size_cells _
     · show (.agg (Fld.cells (withK F c k)) : Value) = (.agg (Fld.cells Fld.zero))
       refine congrArg Value.agg ?_
       first | rw [withK_1 (by assumption)] | rw [withK_2 (by assumption) (by omega)] | rw [withK_3 (by assumption) (by omega)]
   · exact resT (by kernel_rfl)
   exact ⟨rfl, H5⟩
 · skip
   have h1d := nF h1
   have h1o := (code_zero h1d).1
   have h1z := (code_zero h1d).2
   obtain ⟨h1za, h1zb⟩ := andT h1z
   have h1zad := isB_true.1 h1za
   have h1zbd := inT h1zb
   refine wp_skip ?_
   refine then_normal ?_
   refine wsr ?_
   replace B2 := B2.ext E5
   refine wld (v := .int .i64 c) g2 (0) scal_int64 (B2.get (rfl)) ?_
   replace B3 := B3.ext E5
   refine wld (v := .int .i64 k) g3 (0) scal_int64 (B3.get (rfl)) ?_
   refine wu8 k ?_
   refine wv (.pointer (some ⟨g1, 2, none⟩)) ?_
   refine wix g1 2 c .i64 arrt__100_uint8 ?_
   replace B1 := B1.ext E5
   refine wst g1 (2 + (c).toNat) (.int .u8 k) scal_uint8 B1 (Fld.setk _ _ (by omega) _) (by rw [Fld.size_cells]; omega) ?_
   intro w7 B1_ X2
   clear B1; have B1 := B1_; clear B1_
   refine wpList_nil (then_normal ?_)
   refine wp_seq ?_
   refine wsr ?_
   replace B3 := X2.blk B3 (Ne.symm q_g1_g3)
   refine wld (v := .int .i64 k) g3 (0) scal_int64 (B3.get (rfl)) ?_
   refine wv (.bool (k != 0)) ?_
   refine wpList_nil (then_normal ?_)
   have H6 := X2.ext w lo_g1 H4
   refine wsplit (k != 0) (fun h2 => ?_) (fun h2 => ?_)
   · skip
     have h2d := nT h2
     refine wp_region_lit ?_
     replace B2 := X2.blk B2 (Ne.symm q_g1_g2)
     refine wld (v := .int .i64 c) g2 (0) scal_int64 (B2.get (rfl)) ?_
     refine wv (.pointer (some ⟨g1, 102, none⟩)) ?_
     refine wix g1 102 c .i64 arrt__100_int16 ?_
     refine wst g1 (102 + (c).toNat) (.int .i16 0) scal_int16 B1 (Fld.sets _ _ (by omega) _) (by rw [Fld.size_cells]; omega) ?_
     intro w8 B1_ X3
     clear B1; have B1 := B1_; clear B1_
     refine wpList_nil (then_normal ?_)
     refine wsr ?_
     refine wrow row_impl_Field B1 (by exact Fld.size_cells _) ?_
     replace B4 := X3.blk (X2.blk (B4.ext E5) (Ne.symm q_g1_g4)) (Ne.symm q_g1_g4)
     refine wput (Fld.cells ({ { F with k := upd F.k ((c).toNat) k } with s := upd ({ F with k := upd F.k ((c).toNat) k }).s ((c).toNat) 0 })) row_impl_Field B4 (by exact Fld.size_cells _) (by exact Fld.size_cells _) (by exact Fld.one_cells _) ?_
     intro w9 B4_ X4
     clear B4; have B4 := B4_; clear B4_
     refine wv (.int .i64 0) ?_
     refine wpList_nil (then_normal ?_)
     refine wp_ret ?_
     have H7 := X4.ext w lo_g4 (X3.ext w lo_g1 H6)
     refine ret2 (.agg (Fld.cells (withK F c k))) (.int .i64 (code F (isB F c && inB k 0 3))) rfl ?_ ?_ rfl ?_
     · refine ⟨g4, 29, (Fld.cells ({ { F with k := upd F.k ((c).toNat) k } with s := upd ({ F with k := upd F.k ((c).toNat) k }).s ((c).toNat) 0 })), _, by kernel_rfl, B4, row_impl_Field, ?_, ?_⟩
       · exact Fld.size_cells _
       · show (.agg (Fld.cells (withK F c k)) : Value) = (.agg (Fld.cells ({ { F with k := upd F.k ((c).toNat) k } with s := upd ({ F with k := upd F.k ((c).toNat) k }).s ((c).toNat) 0 })))
         refine congrArg Value.agg ?_
         first | rw [withK_1 (by assumption)] | rw [withK_2 (by assumption) (by omega)] | rw [withK_3 (by assumption) (by omega)]
     · refine (resT (v := .int .i64 0) (by kernel_rfl)).trans ?_
       refine congrArg (Value.int _) ?_
       first | (rw [if_pos (by assumption)]; done) | (rw [if_neg (by assumption)]; done) | rfl | assumption | (symm; assumption)
     exact ⟨rfl, H7⟩
   · skip
     have h2d := nF h2
     refine wp_skip ?_
     refine then_normal ?_
     refine wsr ?_
     refine wrow row_impl_Field B1 (by exact Fld.size_cells _) ?_
     replace B4 := X2.blk (B4.ext E5) (Ne.symm q_g1_g4)
     refine wput (Fld.cells ({ F with k := upd F.k ((c).toNat) k })) row_impl_Field B4 (by exact Fld.size_cells _) (by exact Fld.size_cells _) (by exact Fld.one_cells _) ?_
     intro w10 B4_ X5
     clear B4; have B4 := B4_; clear B4_
     refine wv (.int .i64 0) ?_
     refine wpList_nil (then_normal ?_)
     refine wp_ret ?_
     have H8 := X5.ext w lo_g4 H6
     refine ret2 (.agg (Fld.cells (withK F c k))) (.int .i64 (code F (isB F c && inB k 0 3))) rfl ?_ ?_ rfl ?_
     · refine ⟨g4, 29, (Fld.cells ({ F with k := upd F.k ((c).toNat) k })), _, by kernel_rfl, B4, row_impl_Field, ?_, ?_⟩
       · exact Fld.size_cells _
       · show (.agg (Fld.cells (withK F c k)) : Value) = (.agg (Fld.cells ({ F with k := upd F.k ((c).toNat) k })))
         refine congrArg Value.agg ?_
         first | rw [withK_1 (by assumption)] | rw [withK_2 (by assumption) (by omega)] | rw [withK_3 (by assumption) (by omega)]
     · refine (resT (v := .int .i64 0) (by kernel_rfl)).trans ?_
       refine congrArg (Value.int _) ?_
       first | (rw [if_pos (by assumption)]; done) | (rw [if_neg (by assumption)]; done) | rfl | assumption | (symm; assumption)
     exact ⟨rfl, H8⟩


--# iSowCell_any
theorem iSowCell_any (F : Fld) (hF : F.wf) (c : Int) (n : Int) (w : World) :
 Calls Tryz.prog 21 #[.agg F.cells, .int .i64 c, .int .i64 n] w fun e w' => e = .returned (.tuple #[.agg (Fld.cells (sowF F c n)), .int .i64 (sowC F c n)]) ∧ Ext w w' := by
 refine calls_of_wp Tryz.func21 rfl ?_
 refine wp_frame (a' := ⟨#[.agg F.cells, .int .i64 c, .int .i64 n, undef, undef, undef, undef, undef, undef, undef, undef, undef, undef, undef, undef, undef, undef, undef, undef, undef, undef, undef, undef, undef, undef, undef, undef, undef, undef, undef, undef, undef, undef, undef, undef, undef, undef, undef, undef, undef, undef, undef, undef], []⟩) (by kernel_rfl) ?_
 refine wsr ?_
 refine wbox F.cells ?_
 intro g1 w1 B1 E1 hg_
 have lo_g1 := Nat.le_trans ((Ext.refl w)).size hg_
 have H1 := (Ext.refl w).trans E1
 refine wboxv (.int .i64 c) ?_
 intro g2 w2 B2 E2 hg_
 have q_g1_g2 := Nat.ne_of_lt (Nat.lt_of_lt_of_le B1.lt hg_)
 have lo_g2 := Nat.le_trans (H1).size hg_
 have H2 := H1.trans E2
 replace B1 := B1.ext E2
 refine wboxv (.int .i64 n) ?_
 intro g3 w3 B3 E3 hg_
 have q_g1_g3 := Nat.ne_of_lt (Nat.lt_of_lt_of_le B1.lt hg_)
 have q_g2_g3 := Nat.ne_of_lt (Nat.lt_of_lt_of_le B2.lt hg_)
 have lo_g3 := Nat.le_trans (H2).size hg_
 have H3 := H2.trans E3
 replace B1 := B1.ext E3
 replace B2 := B2.ext E3
 refine wnew (Fld.cells Fld.zero) Tryz.zeroValue29 zero_impl_Field ?_
 intro g4 w4 B4 E4 hg_
 have q_g1_g4 := Nat.ne_of_lt (Nat.lt_of_lt_of_le B1.lt hg_)
 have q_g2_g4 := Nat.ne_of_lt (Nat.lt_of_lt_of_le B2.lt hg_)
 have q_g3_g4 := Nat.ne_of_lt (Nat.lt_of_lt_of_le B3.lt hg_)
 have lo_g4 := Nat.le_trans (H3).size hg_
 refine wv (.int .i64 0) ?_
 refine wpList_nil (then_normal ?_)
 refine wsr ?_
 refine wv (.func (.func 48) #[] #[.pointer (some ⟨g1, 0, none⟩), .pointer (some ⟨g2, 0, none⟩), .pointer (some ⟨g3, 0, none⟩)]) ?_
 replace B1 := B1.ext E4
 replace B2 := B2.ext E4
 replace B3 := B3.ext E4
 refine wcl (fieldCode_any F hF g1 _ (.func (.func 48) #[] #[.pointer (some ⟨g1, 0, none⟩), .pointer (some ⟨g2, 0, none⟩), .pointer (some ⟨g3, 0, none⟩)]) 48 #[.pointer (some ⟨g1, 0, none⟩), .pointer (some ⟨g2, 0, none⟩), .pointer (some ⟨g3, 0, none⟩)] (fun _ => by kernel_rfl) (isB F c && inB n 0 1000) _ B1 (fun _ E_ => SowCell1_any F hF g1 _ c g2 _ n g3 _ _ (B1.ext E_) (B2.ext E_) (B3.ext E_))) ?_
 intro w5 E5
 refine wv (.int .i64 (code F (isB F c && inB n 0 1000))) ?_
 refine wpList_nil (then_normal ?_)
 refine wp_seq ?_
 refine wp_block ?_
 refine wsr ?_
 refine wv (.int .i64 (code F (isB F c && inB n 0 1000))) ?_
 refine wv (.bool ((code F (isB F c && inB n 0 1000)) != 0)) ?_
 refine wv (.bool ((code F (isB F c && inB n 0 1000)) != 0)) ?_
 refine wpList_nil (then_normal ?_)
 have H4 := (H3.trans E4).trans E5
 refine wsplit ((code F (isB F c && inB n 0 1000)) != 0) (fun h1 => ?_) (fun h1 => ?_)
 · skip
   have h1d := nT h1
   refine wsr ?_
   refine wvv (.agg Tryz.zeroCells29) (.agg (Fld.cells Fld.zero)) (congrArg Value.agg zero_impl_Field) ?_
   refine wv (.int .i64 (code F (isB F c && inB n 0 1000))) ?_
   replace B4 := B4.ext E5
   refine wput (Fld.cells Fld.zero) row_impl_Field B4 (by exact Fld.size_cells _) (by exact Fld.size_cells _) (by exact Fld.one_cells _) ?_
   intro w6 B4_ X1
   clear B4; have B4 := B4_; clear B4_
   refine wv (.int .i64 (code F (isB F c && inB n 0 1000))) ?_
   refine wpList_nil (then_normal ?_)
   refine wp_ret ?_
   refine block_ret (then_ret ?_)
   have H5 := X1.ext w lo_g4 H4
   refine ret2 (.agg (Fld.cells (sowF F c n))) (.int .i64 (sowC F c n)) rfl ?_ ?_ rfl ?_
   · refine ⟨g4, 29, (Fld.cells Fld.zero), _, by kernel_rfl, B4, row_impl_Field, ?_, ?_⟩
     · exact Fld.size_cells _
     · show (.agg (Fld.cells (sowF F c n)) : Value) = (.agg (Fld.cells Fld.zero))
       refine congrArg Value.agg ?_
       first | rw [sowF_1 (by assumption)] | rw [sowF_2 (by assumption) (by assumption)] | rw [sowF_3 (by assumption) (by assumption) (by omega)] | rw [sowF_4 (by assumption) (by assumption) (by omega)]
   · refine (resT (v := .int .i64 (code F (isB F c && inB n 0 1000))) (by kernel_rfl)).trans ?_
     refine congrArg (Value.int _) ?_
     first | exact (sowC_1 (by assumption)).symm | exact (sowC_2 (by assumption) (by assumption)).symm | exact (sowC_3 (by assumption) (by assumption) (by omega)).symm | exact (sowC_4 (by assumption) (by assumption) (by omega)).symm
   exact ⟨rfl, H5⟩
 · skip
   have h1d := nF h1
   have h1o := (code_zero h1d).1
   have h1z := (code_zero h1d).2
   obtain ⟨h1za, h1zb⟩ := andT h1z
   have h1zad := isB_true.1 h1za
   have h1zbd := inT h1zb
   refine wsr ?_
   replace B2 := B2.ext E5
   refine wld (v := .int .i64 c) g2 (0) scal_int64 (B2.get (rfl)) ?_
   refine wv (.pointer (some ⟨g1, 2, none⟩)) ?_
   refine wix g1 2 c .i64 arrt__100_uint8 ?_
   replace B1 := B1.ext E5
   have ce1 := hF.k1 ((c).toNat) (by omega)
   have ce2 := ok_cell h1o ((c).toNat) (by omega)
   refine wld g1 (2 + (c).toNat) scal_uint8 (B1.get (Fld.getk _ _ (by omega))) ?_
   refine wv (.bool ((F.k ((c).toNat)) != 0)) ?_
   refine wv (.bool ((F.k ((c).toNat)) != 0)) ?_
   refine wpList_nil (then_normal ?_)
   refine wsplit ((F.k ((c).toNat)) != 0) (fun h2 => ?_) (fun h2 => ?_)
   · skip
     have h2d := nT h2
     refine wsr ?_
     refine wvv (.agg Tryz.zeroCells29) (.agg (Fld.cells Fld.zero)) (congrArg Value.agg zero_impl_Field) ?_
     replace B4 := B4.ext E5
     refine wput (Fld.cells Fld.zero) row_impl_Field B4 (by exact Fld.size_cells _) (by exact Fld.size_cells _) (by exact Fld.one_cells _) ?_
     intro w7 B4_ X2
     clear B4; have B4 := B4_; clear B4_
     refine wv (.int .i64 4) ?_
     refine wpList_nil (then_normal ?_)
     refine wp_ret ?_
     refine block_ret (then_ret ?_)
     have H6 := X2.ext w lo_g4 H4
     refine ret2 (.agg (Fld.cells (sowF F c n))) (.int .i64 (sowC F c n)) rfl ?_ ?_ rfl ?_
     · refine ⟨g4, 29, (Fld.cells Fld.zero), _, by kernel_rfl, B4, row_impl_Field, ?_, ?_⟩
       · exact Fld.size_cells _
       · show (.agg (Fld.cells (sowF F c n)) : Value) = (.agg (Fld.cells Fld.zero))
         refine congrArg Value.agg ?_
         first | rw [sowF_1 (by assumption)] | rw [sowF_2 (by assumption) (by assumption)] | rw [sowF_3 (by assumption) (by assumption) (by omega)] | rw [sowF_4 (by assumption) (by assumption) (by omega)]
     · refine (resT (v := .int .i64 4) (by kernel_rfl)).trans ?_
       refine congrArg (Value.int _) ?_
       first | exact (sowC_1 (by assumption)).symm | exact (sowC_2 (by assumption) (by assumption)).symm | exact (sowC_3 (by assumption) (by assumption) (by omega)).symm | exact (sowC_4 (by assumption) (by assumption) (by omega)).symm
     exact ⟨rfl, H6⟩
   · skip
     have h2d := nF h2
     refine wp_seq ?_
     refine wp_frame (a' := ⟨#[.agg F.cells, .int .i64 c, .int .i64 n, .pointer (some ⟨g1, 0, none⟩), .pointer (some ⟨g2, 0, none⟩), .pointer (some ⟨g3, 0, none⟩), .pointer (some ⟨g4, 0, none⟩), .int .i64 0, .int .i64 (code F (isB F c && inB n 0 1000)), .func (.func 48) #[] #[.pointer (some ⟨g1, 0, none⟩), .pointer (some ⟨g2, 0, none⟩), .pointer (some ⟨g3, 0, none⟩)], .int .i64 (code F (isB F c && inB n 0 1000)), .bool ((code F (isB F c && inB n 0 1000)) != 0), .int .i64 (code F (isB F c && inB n 0 1000)), .bool ((code F (isB F c && inB n 0 1000)) != 0), undef, undef, .bool ((F.k ((c).toNat)) != 0), .int .i64 c, .pointer (some ⟨g1, 2, none⟩), .pointer (some ⟨g1, 2 + (c).toNat, none⟩), .int .u8 (F.k ((c).toNat)), .bool ((F.k ((c).toNat)) != 0), undef, undef, undef, undef, undef, undef, undef, undef, undef, undef, undef, undef, undef, undef, undef, undef, undef, undef, undef, undef, undef], []⟩) (by kernel_rfl) ?_
     replace B3 := B3.ext E5
     have ce3 := hF.s1 ((c).toNat) (by omega)
     have ce4 := ok_cell h1o ((c).toNat) (by omega)
     refine region_go 9 [24, 25, 26, 27, 28, 29, 30, 31, 23] [[], [], [1, 0], [2], [3], [], [4, 5], [6], [7]]
      (fun i_ => ([.val (.int .i64 c), .val (.pointer (some ⟨g1, 102, none⟩)), .val (.pointer (some ⟨g1, 102 + (c).toNat, none⟩)), .val (.int .i16 (F.s ((c).toNat))), .val (.int .i64 (F.s ((c).toNat))), .val (.int .i64 n), .val (.int .i64 ((F.s ((c).toNat)) + n)), .val (.bool (decide (1000 < (F.s ((c).toNat)) + n))), .val (.bool (decide (1000 < (F.s ((c).toNat)) + n)))] : List Fct).getD i_ .any)
      (by kernel_rfl) (by kernel_rfl) (by decide) (by simp) rfl (all_succ (all_succ (all_succ (all_succ (all_succ (all_succ (all_succ (all_succ (all_succ all_zero ?_) ?_) ?_) ?_) ?_) ?_) ?_) ?_) ?_) ?_
     · refine step0 rfl rfl rfl (fun wr hw => ?_)
       exact OpRun.cell (g := g2) (off := 0) (v := .int .i64 c) scal_int64 rfl (by kernel_rfl) ((B2.ext hw).get (rfl)) ⟨Ext.refl _, rfl⟩
     · refine step0 rfl rfl rfl (fun wr hw => ?_)
       exact OpRun.val (.pointer (some ⟨g1, 102, none⟩)) (.pointer (some ⟨g1, 102, none⟩)) (by kernel_rfl) rfl ⟨Ext.refl _, rfl⟩
     · refine step2 rfl rfl rfl rfl rfl (fun u0 u1 wr hw h0 h1 => ?_)
       cases h0
       cases h1
       exact OpRun.ixa (i := c) (k := .i64) (g := g1) (off := 102) arrt__100_int16 rfl (by kernel_rfl) (by kernel_rfl) (by omega) (by omega) ⟨Ext.refl _, rfl⟩
     · refine step1 rfl rfl rfl rfl (fun u0 wr hw h0 => ?_)
       cases h0
       exact OpRun.cell (g := g1) (off := 102 + (c).toNat) (v := .int .i16 (F.s ((c).toNat))) scal_int16 rfl (by kernel_rfl) ((B1.ext hw).get (Fld.gets _ _ (by omega))) ⟨Ext.refl _, rfl⟩
     · refine step1 rfl rfl rfl rfl (fun u0 wr hw h0 => ?_)
       cases h0
       exact OpRun.val (.int .i64 (IntKind.i64.wrap (F.s ((c).toNat)))) (.int .i64 (F.s ((c).toNat))) (by kernel_rfl) (by exact congrArg _ (IntWalk.i64_in _ (by omega))) ⟨Ext.refl _, rfl⟩
     · refine step0 rfl rfl rfl (fun wr hw => ?_)
       exact OpRun.cell (g := g3) (off := 0) (v := .int .i64 n) scal_int64 rfl (by kernel_rfl) ((B3.ext hw).get (rfl)) ⟨Ext.refl _, rfl⟩
     · refine step2 rfl rfl rfl rfl rfl (fun u0 u1 wr hw h0 h1 => ?_)
       cases h0
       cases h1
       exact OpRun.val (.int .i64 (IntKind.i64.wrap ((F.s ((c).toNat)) + n))) (.int .i64 ((F.s ((c).toNat)) + n)) (by kernel_rfl) (by exact congrArg _ (IntWalk.i64_in _ (by omega))) ⟨Ext.refl _, rfl⟩
     · refine step1 rfl rfl rfl rfl (fun u0 wr hw h0 => ?_)
       cases h0
       exact OpRun.val (.bool (decide (1000 < (F.s ((c).toNat)) + n))) (.bool (decide (1000 < (F.s ((c).toNat)) + n))) (by kernel_rfl) rfl ⟨Ext.refl _, rfl⟩
     · refine step1 rfl rfl rfl rfl (fun u0 wr hw h0 => ?_)
       cases h0
       exact OpRun.val (.bool (decide (1000 < (F.s ((c).toNat)) + n))) (.bool (decide (1000 < (F.s ((c).toNat)) + n))) (by kernel_rfl) rfl ⟨Ext.refl _, rfl⟩
     refine end9 (fun u0 u1 u2 u3 u4 u5 u6 u7 u8 w8 E6 f0 f1 f2 f3 f4 f5 f6 f7 f8 => ?_)
     cases f0
     cases f1
     cases f2
     cases f3
     cases f4
     cases f5
     cases f6
     cases f7
     cases f8
     refine wpList_nil (then_normal ?_)
     have H7 := H4.trans E6
     refine wsplit (decide (1000 < (F.s ((c).toNat)) + n)) (fun h3 => ?_) (fun h3 => ?_)
     · skip
       have h3d := dT h3
       refine wsr ?_
       refine wvv (.agg Tryz.zeroCells29) (.agg (Fld.cells Fld.zero)) (congrArg Value.agg zero_impl_Field) ?_
       replace B4 := (B4.ext E5).ext E6
       refine wput (Fld.cells Fld.zero) row_impl_Field B4 (by exact Fld.size_cells _) (by exact Fld.size_cells _) (by exact Fld.one_cells _) ?_
       intro w9 B4_ X3
       clear B4; have B4 := B4_; clear B4_
       refine wv (.int .i64 3) ?_
       refine wpList_nil (then_normal ?_)
       refine wp_ret ?_
       refine block_ret (then_ret ?_)
       have H8 := X3.ext w lo_g4 H7
       refine ret2 (.agg (Fld.cells (sowF F c n))) (.int .i64 (sowC F c n)) rfl ?_ ?_ rfl ?_
       · refine ⟨g4, 29, (Fld.cells Fld.zero), _, by kernel_rfl, B4, row_impl_Field, ?_, ?_⟩
         · exact Fld.size_cells _
         · show (.agg (Fld.cells (sowF F c n)) : Value) = (.agg (Fld.cells Fld.zero))
           refine congrArg Value.agg ?_
           first | rw [sowF_1 (by assumption)] | rw [sowF_2 (by assumption) (by assumption)] | rw [sowF_3 (by assumption) (by assumption) (by omega)] | rw [sowF_4 (by assumption) (by assumption) (by omega)]
       · refine (resT (v := .int .i64 3) (by kernel_rfl)).trans ?_
         refine congrArg (Value.int _) ?_
         first | exact (sowC_1 (by assumption)).symm | exact (sowC_2 (by assumption) (by assumption)).symm | exact (sowC_3 (by assumption) (by assumption) (by omega)).symm | exact (sowC_4 (by assumption) (by assumption) (by omega)).symm
       exact ⟨rfl, H8⟩
     · skip
       have h3d := dF h3
       refine wp_skip ?_
       refine block_normal (then_normal ?_)
       refine wp_seq ?_
       refine wp_frame (a' := ⟨#[.agg F.cells, .int .i64 c, .int .i64 n, .pointer (some ⟨g1, 0, none⟩), .pointer (some ⟨g2, 0, none⟩), .pointer (some ⟨g3, 0, none⟩), .pointer (some ⟨g4, 0, none⟩), .int .i64 0, .int .i64 (code F (isB F c && inB n 0 1000)), .func (.func 48) #[] #[.pointer (some ⟨g1, 0, none⟩), .pointer (some ⟨g2, 0, none⟩), .pointer (some ⟨g3, 0, none⟩)], .int .i64 (code F (isB F c && inB n 0 1000)), .bool ((code F (isB F c && inB n 0 1000)) != 0), .int .i64 (code F (isB F c && inB n 0 1000)), .bool ((code F (isB F c && inB n 0 1000)) != 0), undef, undef, .bool ((F.k ((c).toNat)) != 0), .int .i64 c, .pointer (some ⟨g1, 2, none⟩), .pointer (some ⟨g1, 2 + (c).toNat, none⟩), .int .u8 (F.k ((c).toNat)), .bool ((F.k ((c).toNat)) != 0), undef, .bool (decide (1000 < (F.s ((c).toNat)) + n)), .int .i64 c, .pointer (some ⟨g1, 102, none⟩), .pointer (some ⟨g1, 102 + (c).toNat, none⟩), .int .i16 (F.s ((c).toNat)), .int .i64 (F.s ((c).toNat)), .int .i64 n, .int .i64 ((F.s ((c).toNat)) + n), .bool (decide (1000 < (F.s ((c).toNat)) + n)), undef, undef, undef, undef, undef, undef, undef, undef, undef, undef, undef], []⟩) (by kernel_rfl) ?_
       replace B2 := B2.ext E6
       replace B1 := B1.ext E6
       replace B3 := B3.ext E6
       have ce5 := hF.s1 ((c).toNat) (by omega)
       have ce6 := ok_cell h1o ((c).toNat) (by omega)
       refine region_go 9 [33, 34, 35, 36, 37, 38, 39, 40, 41] [[], [], [1, 0], [2], [], [4], [3, 5], [], [7, 0]]
        (fun i_ => ([.val (.int .i64 c), .val (.pointer (some ⟨g1, 102, none⟩)), .val (.pointer (some ⟨g1, 102 + (c).toNat, none⟩)), .val (.int .i16 (F.s ((c).toNat))), .val (.int .i64 n), .val (.int .i16 n), .val (.int .i16 ((F.s ((c).toNat)) + n)), .val (.pointer (some ⟨g1, 102, none⟩)), .val (.pointer (some ⟨g1, 102 + (c).toNat, none⟩))] : List Fct).getD i_ .any)
        (by kernel_rfl) (by kernel_rfl) (by decide) (by simp) rfl (all_succ (all_succ (all_succ (all_succ (all_succ (all_succ (all_succ (all_succ (all_succ all_zero ?_) ?_) ?_) ?_) ?_) ?_) ?_) ?_) ?_) ?_
       · refine step0 rfl rfl rfl (fun wr hw => ?_)
         exact OpRun.cell (g := g2) (off := 0) (v := .int .i64 c) scal_int64 rfl (by kernel_rfl) ((B2.ext hw).get (rfl)) ⟨Ext.refl _, rfl⟩
       · refine step0 rfl rfl rfl (fun wr hw => ?_)
         exact OpRun.val (.pointer (some ⟨g1, 102, none⟩)) (.pointer (some ⟨g1, 102, none⟩)) (by kernel_rfl) rfl ⟨Ext.refl _, rfl⟩
       · refine step2 rfl rfl rfl rfl rfl (fun u0 u1 wr hw h0 h1 => ?_)
         cases h0
         cases h1
         exact OpRun.ixa (i := c) (k := .i64) (g := g1) (off := 102) arrt__100_int16 rfl (by kernel_rfl) (by kernel_rfl) (by omega) (by omega) ⟨Ext.refl _, rfl⟩
       · refine step1 rfl rfl rfl rfl (fun u0 wr hw h0 => ?_)
         cases h0
         exact OpRun.cell (g := g1) (off := 102 + (c).toNat) (v := .int .i16 (F.s ((c).toNat))) scal_int16 rfl (by kernel_rfl) ((B1.ext hw).get (Fld.gets _ _ (by omega))) ⟨Ext.refl _, rfl⟩
       · refine step0 rfl rfl rfl (fun wr hw => ?_)
         exact OpRun.cell (g := g3) (off := 0) (v := .int .i64 n) scal_int64 rfl (by kernel_rfl) ((B3.ext hw).get (rfl)) ⟨Ext.refl _, rfl⟩
       · refine step1 rfl rfl rfl rfl (fun u0 wr hw h0 => ?_)
         cases h0
         exact OpRun.val (.int .i16 (IntKind.i16.wrap n)) (.int .i16 n) (by kernel_rfl) (by exact congrArg _ (IntWalk.i16_in _ (by omega))) ⟨Ext.refl _, rfl⟩
       · refine step2 rfl rfl rfl rfl rfl (fun u0 u1 wr hw h0 h1 => ?_)
         cases h0
         cases h1
         exact OpRun.val (.int .i16 (IntKind.i16.wrap ((F.s ((c).toNat)) + n))) (.int .i16 ((F.s ((c).toNat)) + n)) (by kernel_rfl) (by exact congrArg _ (IntWalk.i16_in _ (by omega))) ⟨Ext.refl _, rfl⟩
       · refine step0 rfl rfl rfl (fun wr hw => ?_)
         exact OpRun.val (.pointer (some ⟨g1, 102, none⟩)) (.pointer (some ⟨g1, 102, none⟩)) (by kernel_rfl) rfl ⟨Ext.refl _, rfl⟩
       · refine step2 rfl rfl rfl rfl rfl (fun u0 u1 wr hw h0 h1 => ?_)
         cases h0
         cases h1
         exact OpRun.ixa (i := c) (k := .i64) (g := g1) (off := 102) arrt__100_int16 rfl (by kernel_rfl) (by kernel_rfl) (by omega) (by omega) ⟨Ext.refl _, rfl⟩
       refine end9 (fun u0 u1 u2 u3 u4 u5 u6 u7 u8 w10 E7 f0 f1 f2 f3 f4 f5 f6 f7 f8 => ?_)
       cases f0
       cases f1
       cases f2
       cases f3
       cases f4
       cases f5
       cases f6
       cases f7
       cases f8
       replace B1 := B1.ext E7
       refine wst g1 (102 + (c).toNat) (.int .i16 ((F.s ((c).toNat)) + n)) scal_int16 B1 (Fld.sets _ _ (by omega) _) (by rw [Fld.size_cells]; omega) ?_
       intro w11 B1_ X4
       clear B1; have B1 := B1_; clear B1_
       refine wpList_nil (then_normal ?_)
       refine wsr ?_
       refine wrow row_impl_Field B1 (by exact Fld.size_cells _) ?_
       replace B4 := X4.blk (((B4.ext E5).ext E6).ext E7) (Ne.symm q_g1_g4)
       refine wput (Fld.cells ({ F with s := upd F.s ((c).toNat) ((F.s ((c).toNat)) + n) })) row_impl_Field B4 (by exact Fld.size_cells _) (by exact Fld.size_cells _) (by exact Fld.one_cells _) ?_
       intro w12 B4_ X5
       clear B4; have B4 := B4_; clear B4_
       refine wv (.int .i64 0) ?_
       refine wpList_nil (then_normal ?_)
       refine wp_ret ?_
       have H9 := X5.ext w lo_g4 (X4.ext w lo_g1 (H7.trans E7))
       refine ret2 (.agg (Fld.cells (sowF F c n))) (.int .i64 (sowC F c n)) rfl ?_ ?_ rfl ?_
       · refine ⟨g4, 29, (Fld.cells ({ F with s := upd F.s ((c).toNat) ((F.s ((c).toNat)) + n) })), _, by kernel_rfl, B4, row_impl_Field, ?_, ?_⟩
         · exact Fld.size_cells _
         · show (.agg (Fld.cells (sowF F c n)) : Value) = (.agg (Fld.cells ({ F with s := upd F.s ((c).toNat) ((F.s ((c).toNat)) + n) })))
           refine congrArg Value.agg ?_
           first | rw [sowF_1 (by assumption)] | rw [sowF_2 (by assumption) (by assumption)] | rw [sowF_3 (by assumption) (by assumption) (by omega)] | rw [sowF_4 (by assumption) (by assumption) (by omega)]
       · refine (resT (v := .int .i64 0) (by kernel_rfl)).trans ?_
         refine congrArg (Value.int _) ?_
         first | exact (sowC_1 (by assumption)).symm | exact (sowC_2 (by assumption) (by assumption)).symm | exact (sowC_3 (by assumption) (by assumption) (by omega)).symm | exact (sowC_4 (by assumption) (by assumption) (by omega)).symm
       exact ⟨rfl, H9⟩


--# seedsIn_any
theorem seedsIn_any (F : Fld) (hF : F.wf) (b : Nat) (t : TypeId) (w : World) (hb : Blk w b t F.cells) :
 Calls Tryz.prog 38 #[.pointer (some ⟨b, 0, none⟩)] w fun e w' => e = .returned (.int .i64 (sumN F.s 100)) ∧ Ext w w' := by
 refine calls_of_wp Tryz.func38 rfl ?_
 refine wp_frame (a' := ⟨#[.pointer (some ⟨b, 0, none⟩), undef, undef, undef, undef, undef, undef, undef, undef, undef, undef, undef, undef, undef, undef, undef, undef, undef, undef], []⟩) (by kernel_rfl) ?_
 refine wsr ?_
 refine wv (.int .i64 0) ?_
 refine wpList_nil (then_normal ?_)
 refine wsr ?_
 refine wv (.int .i64 0) ?_
 refine wpList_nil (then_normal ?_)
 refine wp_seq ?_
 refine wsr ?_
 refine wv (.pointer (some ⟨b, 0, none⟩)) ?_
 refine wv (.pointer (some ⟨b, 0, none⟩)) ?_
 refine wv (.pointer (some ⟨b, 102, none⟩)) ?_
 refine wmid (arr 100 .i16 F.s) b 102 row__100_int16 (by exact size_arr _ _ _) (Fld.mids hb) ?_
 refine wv (.int .i64 0) ?_
 refine wpList_nil (then_normal ?_)
 refine wp_block ?_
 refine wp_loop_k (fun m1 a wl1 => ∃ (i : Nat), m1 = 100 - i ∧ i ≤ 100 ∧ Ext w wl1 ∧ Blk wl1 b t F.cells ∧ (∃ J1 : Nat → Value, a = ⟨#[.pointer (some ⟨b, 0, none⟩), undef, .int .i64 0, .int .i64 (sumN F.s i), undef, J1 5, .pointer (some ⟨b, 0, none⟩), .pointer (some ⟨b, 0, none⟩), .pointer (some ⟨b, 102, none⟩), .agg (arr 100 .i16 F.s), .int .i64 (i : Int), J1 11, J1 12, J1 13, J1 14, J1 15, J1 16, J1 17, undef], []⟩)) (100) ?_ ?_
 · refine ⟨0, rfl, ?_, (Ext.refl w), hb, exJ (by kernel_rfl)⟩
   · omega
 intro m1 a wl1 hI
 obtain ⟨i, rfl, hi_, HL1, hb, J1, rfl⟩ := hI
 have sb_ := sumN_b hF.s1 i hi_
 have sb2_ := hF.s1 i
 refine wsr ?_
 refine wv (.bool (decide ((i : Int) < 100))) ?_
 refine wpList_nil (then_normal ?_)
 refine wp_seq ?_
 refine wsplit (decide ((i : Int) < 100)) (fun h1 => ?_) (fun h1 => ?_)
 · skip
   have h1d := dT h1
   refine wp_skip ?_
   refine then_normal ?_
   refine wp_seq ?_
   refine wp_block ?_
   refine wsr ?_
   refine widx (ik := .i16) (f := F.s) i .i64 arre__100_int16 ⟨_, _, rfl, by kernel_rfl, by kernel_rfl⟩ ?_
   refine wv (.int .i16 (F.s i)) ?_
   refine wpList_nil (then_normal ?_)
   refine wp_region_lit ?_
   refine wv (.int .i64 (sumN F.s i)) ?_
   refine wv (.int .i16 (F.s i)) ?_
   refine wi64 (F.s i) ?_
   refine wi64 ((sumN F.s i) + (F.s i)) ?_
   refine wv (.int .i64 ((sumN F.s i) + (F.s i))) ?_
   refine wpList_nil (block_normal (then_normal ?_))
   refine wp_region_lit ?_
   refine wi64 ((i : Int) + 1) ?_
   refine wv (.int .i64 ((i : Int) + 1)) ?_
   refine wpList_nil (then_normal ?_)
   refine ⟨_, ?_, i + 1, rfl, ?_, HL1, hb, exJ (by kernel_rfl)⟩
   · omega
   · omega
 · skip
   have h1d := dF h1
   refine wp_exit ?_
   refine then_exit ?_
   refine then_exit ?_
   refine block_exit ?_
   refine then_normal ?_
   refine wsr ?_
   refine wv (.int .i64 (sumN F.s i)) ?_
   refine wv (.int .i64 (sumN F.s i)) ?_
   refine wpList_nil (then_normal ?_)
   refine wp_ret ?_
   refine ret1 (.int .i64 (sumN F.s 100)) rfl ?_ rfl ?_
   · refine (resT (v := .int .i64 (sumN F.s i)) (by kernel_rfl)).trans ?_
     refine congrArg (Value.int _) ?_
     rw [show i = 100 by omega]
   exact ⟨rfl, HL1⟩


--# iSeedsIn_any
theorem iSeedsIn_any (F : Fld) (hF : F.wf) (w : World) :
 Calls Tryz.prog 11 #[.agg F.cells] w fun e w' => e = .returned (.tuple #[.int .i64 (if okB F = true then sumN F.s 100 else 0), .int .i64 (okC F)]) ∧ Ext w w' := by
 refine calls_of_wp Tryz.func11 rfl ?_
 refine wp_frame (a' := ⟨#[.agg F.cells, undef, undef, undef, undef, undef, undef, undef], []⟩) (by kernel_rfl) ?_
 refine wsr ?_
 refine wbox F.cells ?_
 intro g1 w1 B1 E1 _
 refine wv (.int .i64 0) ?_
 refine wv (.int .i64 0) ?_
 refine wpList_nil (then_normal ?_)
 refine wp_seq ?_
 refine wsr ?_
 refine wrow row_impl_Field B1 (by exact Fld.size_cells _) ?_
 refine wcl (iValidField_any F hF _) ?_
 intro w2 E2
 refine wv (.bool (!(okB F))) ?_
 refine wpList_nil (then_normal ?_)
 have H1 := ((Ext.refl w).trans E1).trans E2
 refine wsplit (!(okB F)) (fun h1 => ?_) (fun h1 => ?_)
 · skip
   replace h1 := nbT h1
   refine wsr ?_
   refine wv (.int .i64 0) ?_
   refine wv (.int .i64 1) ?_
   refine wpList_nil (then_normal ?_)
   refine wp_ret ?_
   refine then_ret ?_
   refine ret2 (.int .i64 (if okB F = true then sumN F.s 100 else 0)) (.int .i64 (okC F)) rfl ?_ ?_ rfl ?_
   · refine (resT (v := .int .i64 0) (by kernel_rfl)).trans ?_
     refine congrArg (Value.int _) ?_
     simp [okC, *]
   · refine (resT (v := .int .i64 1) (by kernel_rfl)).trans ?_
     refine congrArg (Value.int _) ?_
     simp [okC, *]
   exact ⟨rfl, H1⟩
 · skip
   replace h1 := nbF h1
   refine wp_skip ?_
   refine then_normal ?_
   refine wsr ?_
   replace B1 := B1.ext E2
   refine wcl (seedsIn_any F hF g1 _ _ B1) ?_
   intro w3 E3
   refine wv (.int .i64 (sumN F.s 100)) ?_
   refine wv (.int .i64 0) ?_
   refine wpList_nil (then_normal ?_)
   refine wp_ret ?_
   have H2 := H1.trans E3
   refine ret2 (.int .i64 (if okB F = true then sumN F.s 100 else 0)) (.int .i64 (okC F)) rfl ?_ ?_ rfl ?_
   · refine (resT (v := .int .i64 (sumN F.s 100)) (by kernel_rfl)).trans ?_
     refine congrArg (Value.int _) ?_
     simp [okC, *]
   · refine (resT (v := .int .i64 0) (by kernel_rfl)).trans ?_
     refine congrArg (Value.int _) ?_
     simp [okC, *]
   exact ⟨rfl, H2⟩


--# l00Min_any
theorem l00Min_any (a : Int) (b : Int) (w : World) :
 Calls Tryz.prog 45 #[.int .i64 a, .int .i64 b] w fun e w' => e = .returned (.int .i64 (minI a b)) ∧ Ext w w' := by
 refine calls_of_wp Tryz.func45 rfl ?_
 refine wp_frame (a' := ⟨#[.int .i64 a, .int .i64 b, undef, undef, undef, undef, undef, undef, undef, undef], []⟩) (by kernel_rfl) ?_
 refine wsr ?_
 refine wv (.int .i64 0) ?_
 refine wpList_nil (then_normal ?_)
 refine wp_seq ?_
 refine wsr ?_
 refine wv (.int .i64 a) ?_
 refine wv (.int .i64 b) ?_
 refine wv (.bool (decide (a < b))) ?_
 refine wpList_nil (then_normal ?_)
 refine wsplit (decide (a < b)) (fun h1 => ?_) (fun h1 => ?_)
 · skip
   have h1d := dT h1
   refine wsr ?_
   refine wv (.int .i64 a) ?_
   refine wv (.int .i64 a) ?_
   refine wpList_nil (then_normal ?_)
   refine wp_ret ?_
   refine then_ret ?_
   refine ret1 (.int .i64 (minI a b)) rfl ?_ rfl ?_
   · refine (resT (v := .int .i64 a) (by kernel_rfl)).trans ?_
     refine congrArg (Value.int _) ?_
     first | exact (minI_1 (by assumption)).symm | exact (minI_2 (by assumption)).symm
   exact ⟨rfl, (Ext.refl w)⟩
 · skip
   have h1d := dF h1
   refine wp_skip ?_
   refine then_normal ?_
   refine wsr ?_
   refine wv (.int .i64 b) ?_
   refine wv (.int .i64 b) ?_
   refine wpList_nil (then_normal ?_)
   refine wp_ret ?_
   refine ret1 (.int .i64 (minI a b)) rfl ?_ rfl ?_
   · refine (resT (v := .int .i64 b) (by kernel_rfl)).trans ?_
     refine congrArg (Value.int _) ?_
     first | exact (minI_1 (by assumption)).symm | exact (minI_2 (by assumption)).symm
   exact ⟨rfl, (Ext.refl w)⟩


--# take_any
theorem take_any (F : Fld) (hF : F.wf) (b : Nat) (t : TypeId) (c : Int) (n : Int) (hc : 0 ≤ c ∧ c ≤ 99) (hn : 0 ≤ n) (hs : 0 ≤ F.s c.toNat) (w : World) (hb : Blk w b t F.cells) :
 Calls Tryz.prog 43 #[.pointer (some ⟨b, 0, none⟩), .int .i64 c, .int .i64 n] w fun e w' => e = .returned (.int .i64 (minI n (F.s c.toNat))) ∧ Blk w' b t (Fld.cells ({ F with s := upd F.s c.toNat (F.s c.toNat - minI n (F.s c.toNat)) })) ∧ Wr b w w' := by
 refine calls_of_wp Tryz.func43 rfl ?_
 refine wp_frame (a' := ⟨#[.pointer (some ⟨b, 0, none⟩), .int .i64 c, .int .i64 n, undef, undef, undef, undef, undef, undef, undef, undef, undef, undef, undef, undef, undef, undef, undef, undef, undef, undef, undef, undef, undef, undef, undef, undef, undef, undef, undef], []⟩) (by kernel_rfl) ?_
 refine wsr ?_
 refine wv (.int .i64 0) ?_
 refine wpList_nil (then_normal ?_)
 refine wsr ?_
 refine wv (.int .i64 n) ?_
 refine wv (.pointer (some ⟨b, 0, none⟩)) ?_
 refine wv (.int .i64 c) ?_
 refine wv (.pointer (some ⟨b, 0, none⟩)) ?_
 refine wv (.pointer (some ⟨b, 102, none⟩)) ?_
 refine wix b 102 c .i64 arrt__100_int16 ?_
 have ce1 := hF.s1 ((c).toNat) (by omega)
 refine wld b (102 + (c).toNat) scal_int16 (hb.get (Fld.gets _ _ (by omega))) ?_
 refine wi64 (F.s ((c).toNat)) ?_
 have mi1 := minI_b n (F.s ((c).toNat))
 refine wvv (.int .i64 (if (F.s ((c).toNat)) < n then (F.s ((c).toNat)) else n)) (.int .i64 (minI n (F.s ((c).toNat)))) (congrArg _ (minI_eq _ _)) ?_
 refine wv (.int .i64 (minI n (F.s ((c).toNat)))) ?_
 refine wpList_nil (then_normal ?_)
 refine wp_seq ?_
 refine wp_frame (a' := ⟨#[.pointer (some ⟨b, 0, none⟩), .int .i64 c, .int .i64 n, undef, undef, undef, .int .i64 0, .int .i64 (minI n (F.s ((c).toNat))), .int .i64 n, .pointer (some ⟨b, 0, none⟩), .int .i64 c, .pointer (some ⟨b, 0, none⟩), .pointer (some ⟨b, 102, none⟩), .pointer (some ⟨b, 102 + (c).toNat, none⟩), .int .i16 (F.s ((c).toNat)), .int .i64 (F.s ((c).toNat)), .int .i64 (minI n (F.s ((c).toNat))), undef, undef, undef, undef, undef, undef, undef, undef, undef, undef, undef, undef, undef], []⟩) (by kernel_rfl) ?_
 have ce2 := hF.s1 ((c).toNat) (by omega)
 refine region_go 12 [17, 18, 19, 20, 21, 22, 23, 24, 25, 26, 27, 28] [[], [], [0], [2], [3, 1], [4], [], [6], [5, 7], [0], [9], [10, 1]]
  (fun i_ => ([.val (.pointer (some ⟨b, 0, none⟩)), .val (.int .i64 c), .val (.pointer (some ⟨b, 0, none⟩)), .val (.pointer (some ⟨b, 102, none⟩)), .val (.pointer (some ⟨b, 102 + (c).toNat, none⟩)), .val (.int .i16 (F.s ((c).toNat))), .val (.int .i64 (minI n (F.s ((c).toNat)))), .val (.int .i16 (minI n (F.s ((c).toNat)))), .val (.int .i16 ((F.s ((c).toNat)) - (minI n (F.s ((c).toNat))))), .val (.pointer (some ⟨b, 0, none⟩)), .val (.pointer (some ⟨b, 102, none⟩)), .val (.pointer (some ⟨b, 102 + (c).toNat, none⟩))] : List Fct).getD i_ .any)
  (by kernel_rfl) (by kernel_rfl) (by decide) (by simp) rfl (all_succ (all_succ (all_succ (all_succ (all_succ (all_succ (all_succ (all_succ (all_succ (all_succ (all_succ (all_succ all_zero ?_) ?_) ?_) ?_) ?_) ?_) ?_) ?_) ?_) ?_) ?_) ?_) ?_
 · refine step0 rfl rfl rfl (fun wr hw => ?_)
   exact OpRun.val (.pointer (some ⟨b, 0, none⟩)) (.pointer (some ⟨b, 0, none⟩)) (by kernel_rfl) rfl ⟨Ext.refl _, rfl⟩
 · refine step0 rfl rfl rfl (fun wr hw => ?_)
   exact OpRun.val (.int .i64 c) (.int .i64 c) (by kernel_rfl) rfl ⟨Ext.refl _, rfl⟩
 · refine step1 rfl rfl rfl rfl (fun u0 wr hw h0 => ?_)
   cases h0
   exact OpRun.val (.pointer (some ⟨b, 0, none⟩)) (.pointer (some ⟨b, 0, none⟩)) (by kernel_rfl) rfl ⟨Ext.refl _, rfl⟩
 · refine step1 rfl rfl rfl rfl (fun u0 wr hw h0 => ?_)
   cases h0
   exact OpRun.val (.pointer (some ⟨b, 102, none⟩)) (.pointer (some ⟨b, 102, none⟩)) (by kernel_rfl) rfl ⟨Ext.refl _, rfl⟩
 · refine step2 rfl rfl rfl rfl rfl (fun u0 u1 wr hw h0 h1 => ?_)
   cases h0
   cases h1
   exact OpRun.ixa (i := c) (k := .i64) (g := b) (off := 102) arrt__100_int16 rfl (by kernel_rfl) (by kernel_rfl) (by omega) (by omega) ⟨Ext.refl _, rfl⟩
 · refine step1 rfl rfl rfl rfl (fun u0 wr hw h0 => ?_)
   cases h0
   exact OpRun.cell (g := b) (off := 102 + (c).toNat) (v := .int .i16 (F.s ((c).toNat))) scal_int16 rfl (by kernel_rfl) ((hb.ext hw).get (Fld.gets _ _ (by omega))) ⟨Ext.refl _, rfl⟩
 · refine step0 rfl rfl rfl (fun wr hw => ?_)
   exact OpRun.val (.int .i64 (minI n (F.s ((c).toNat)))) (.int .i64 (minI n (F.s ((c).toNat)))) (by kernel_rfl) rfl ⟨Ext.refl _, rfl⟩
 · refine step1 rfl rfl rfl rfl (fun u0 wr hw h0 => ?_)
   cases h0
   exact OpRun.val (.int .i16 (IntKind.i16.wrap (minI n (F.s ((c).toNat))))) (.int .i16 (minI n (F.s ((c).toNat)))) (by kernel_rfl) (by exact congrArg _ (IntWalk.i16_in _ (by omega))) ⟨Ext.refl _, rfl⟩
 · refine step2 rfl rfl rfl rfl rfl (fun u0 u1 wr hw h0 h1 => ?_)
   cases h0
   cases h1
   exact OpRun.val (.int .i16 (IntKind.i16.wrap ((F.s ((c).toNat)) - (minI n (F.s ((c).toNat)))))) (.int .i16 ((F.s ((c).toNat)) - (minI n (F.s ((c).toNat))))) (by kernel_rfl) (by exact congrArg _ (IntWalk.i16_in _ (by omega))) ⟨Ext.refl _, rfl⟩
 · refine step1 rfl rfl rfl rfl (fun u0 wr hw h0 => ?_)
   cases h0
   exact OpRun.val (.pointer (some ⟨b, 0, none⟩)) (.pointer (some ⟨b, 0, none⟩)) (by kernel_rfl) rfl ⟨Ext.refl _, rfl⟩
 · refine step1 rfl rfl rfl rfl (fun u0 wr hw h0 => ?_)
   cases h0
   exact OpRun.val (.pointer (some ⟨b, 102, none⟩)) (.pointer (some ⟨b, 102, none⟩)) (by kernel_rfl) rfl ⟨Ext.refl _, rfl⟩
 · refine step2 rfl rfl rfl rfl rfl (fun u0 u1 wr hw h0 h1 => ?_)
   cases h0
   cases h1
   exact OpRun.ixa (i := c) (k := .i64) (g := b) (off := 102) arrt__100_int16 rfl (by kernel_rfl) (by kernel_rfl) (by omega) (by omega) ⟨Ext.refl _, rfl⟩
 refine end12 (fun u0 u1 u2 u3 u4 u5 u6 u7 u8 u9 u10 u11 w1 E1 f0 f1 f2 f3 f4 f5 f6 f7 f8 f9 f10 f11 => ?_)
 cases f0
 cases f1
 cases f2
 cases f3
 cases f4
 cases f5
 cases f6
 cases f7
 cases f8
 cases f9
 cases f10
 cases f11
 replace hb := hb.ext E1
 refine wst b (102 + (c).toNat) (.int .i16 ((F.s ((c).toNat)) - (minI n (F.s ((c).toNat))))) scal_int16 hb (Fld.sets _ _ (by omega) _) (by rw [Fld.size_cells]; omega) ?_
 intro w2 hb_ X1
 clear hb; have hb := hb_; clear hb_
 refine wpList_nil (then_normal ?_)
 refine wsr ?_
 refine wv (.int .i64 (minI n (F.s ((c).toNat)))) ?_
 refine wv (.int .i64 (minI n (F.s ((c).toNat)))) ?_
 refine wpList_nil (then_normal ?_)
 refine wp_ret ?_
 have H1 := ((Wr.of_ext (Ext.refl w)).trans (Wr.of_ext E1)).trans X1
 refine ret1 (.int .i64 (minI n (F.s c.toNat))) rfl ?_ rfl ?_
 · refine (resT (v := .int .i64 (minI n (F.s ((c).toNat)))) (by kernel_rfl)).trans ?_
   refine congrArg (Value.int _) ?_
   rfl
 refine ⟨rfl, ?_, H1⟩
 have hq : ((Fld.cells ({ F with s := upd F.s ((c).toNat) ((F.s ((c).toNat)) - (minI n (F.s ((c).toNat)))) })) : Array Value) = (Fld.cells ({ F with s := upd F.s c.toNat (F.s c.toNat - minI n (F.s c.toNat)) })) := by
   rfl
 rw [← hq]
 exact hb


--# sTakeSeeds_any
theorem sTakeSeeds_any (F : Fld) (hF : F.wf) (c : Int) (n : Int) (w : World) :
 Calls Tryz.prog 18 #[.agg F.cells, .int .i64 c, .int .i64 n] w fun e w' => e = .returned (.tuple #[.agg (Fld.cells (tookF F c n)), .int .i64 (tookN F c n), .int .i64 (code F (isB F c && decide (0 ≤ n)))]) ∧ Ext w w' := by
 refine calls_of_wp Tryz.func18 rfl ?_
 refine wp_frame (a' := ⟨#[.agg F.cells, .int .i64 c, .int .i64 n, undef, undef, undef, undef, undef, undef, undef, undef, undef, undef, undef, undef, undef, undef, undef, undef, undef, undef, undef, undef, undef, undef, undef, undef, undef, undef, undef, undef, undef, undef, undef, undef, undef, undef], []⟩) (by kernel_rfl) ?_
 refine wsr ?_
 refine wbox F.cells ?_
 intro g1 w1 B1 E1 hg_
 have lo_g1 := Nat.le_trans ((Ext.refl w)).size hg_
 have H1 := (Ext.refl w).trans E1
 refine wnew (Fld.cells Fld.zero) Tryz.zeroValue29 zero_impl_Field ?_
 intro g2 w2 B2 E2 hg_
 have q_g1_g2 := Nat.ne_of_lt (Nat.lt_of_lt_of_le B1.lt hg_)
 have lo_g2 := Nat.le_trans (H1).size hg_
 refine wv (.int .i64 0) ?_
 refine wv (.int .i64 0) ?_
 refine wpList_nil (then_normal ?_)
 refine wp_seq ?_
 refine wsr ?_
 refine wv (.int .i64 c) ?_
 refine wv (.int .i64 n) ?_
 refine wv (.bool (decide (0 ≤ n))) ?_
 replace B1 := B1.ext E2
 refine wcl (l01Asked_any F hF g1 _ c (decide (0 ≤ n)) (isB F c && (decide (0 ≤ n))) rfl _ B1) ?_
 intro w3 E3
 refine wv (.int .i64 (code F (isB F c && (decide (0 ≤ n))))) ?_
 refine wpList_nil (then_normal ?_)
 refine wsr ?_
 refine wv (.int .i64 (code F (isB F c && (decide (0 ≤ n))))) ?_
 refine wv (.bool ((code F (isB F c && (decide (0 ≤ n)))) != 0)) ?_
 refine wpList_nil (then_normal ?_)
 have H2 := (H1.trans E2).trans E3
 refine wsplit ((code F (isB F c && (decide (0 ≤ n)))) != 0) (fun h1 => ?_) (fun h1 => ?_)
 · skip
   have h1d := nT h1
   refine wsr ?_
   refine wvv (.agg Tryz.zeroCells29) (.agg (Fld.cells Fld.zero)) (congrArg Value.agg zero_impl_Field) ?_
   refine wv (.int .i64 (code F (isB F c && (decide (0 ≤ n))))) ?_
   replace B2 := B2.ext E3
   refine wput (Fld.cells Fld.zero) row_impl_Field B2 (by exact Fld.size_cells _) (by exact Fld.size_cells _) (by exact Fld.one_cells _) ?_
   intro w4 B2_ X1
   clear B2; have B2 := B2_; clear B2_
   refine wv (.int .i64 0) ?_
   refine wv (.int .i64 (code F (isB F c && (decide (0 ≤ n))))) ?_
   refine wpList_nil (then_normal ?_)
   refine wp_ret ?_
   refine then_ret ?_
   have H3 := X1.ext w lo_g2 H2
   refine ret3 (.agg (Fld.cells (tookF F c n))) (.int .i64 (tookN F c n)) (.int .i64 (code F (isB F c && decide (0 ≤ n)))) rfl ?_ ?_ ?_ rfl ?_
   · refine ⟨g2, 29, (Fld.cells Fld.zero), _, by kernel_rfl, B2, row_impl_Field, ?_, ?_⟩
     · exact Fld.size_cells _
     · show (.agg (Fld.cells (tookF F c n)) : Value) = (.agg (Fld.cells Fld.zero))
       refine congrArg Value.agg ?_
       first | rw [tookF_1 (by assumption)] | rw [tookF_2 (by assumption)]
   · refine (resT (v := .int .i64 0) (by kernel_rfl)).trans ?_
     refine congrArg (Value.int _) ?_
     first | exact (tookN_1 (by assumption)).symm | exact (tookN_2 (by assumption)).symm
   · refine (resT (v := .int .i64 (code F (isB F c && (decide (0 ≤ n))))) (by kernel_rfl)).trans ?_
     refine congrArg (Value.int _) ?_
     first | (rw [if_pos (by assumption)]; done) | (rw [if_neg (by assumption)]; done) | rfl | assumption | (symm; assumption)
   exact ⟨rfl, H3⟩
 · skip
   have h1d := nF h1
   have h1o := (code_zero h1d).1
   have h1z := (code_zero h1d).2
   obtain ⟨h1za, h1zb⟩ := andT h1z
   have h1zad := isB_true.1 h1za
   have h1zbd := dT h1zb
   refine wp_skip ?_
   refine then_normal ?_
   refine wsr ?_
   refine wv (.int .i64 n) ?_
   refine wv (.int .i64 c) ?_
   refine wv (.pointer (some ⟨g1, 102, none⟩)) ?_
   refine wix g1 102 c .i64 arrt__100_int16 ?_
   replace B1 := B1.ext E3
   have ce1 := hF.s1 ((c).toNat) (by omega)
   have ce2 := ok_cell h1o ((c).toNat) (by omega)
   refine wld g1 (102 + (c).toNat) scal_int16 (B1.get (Fld.gets _ _ (by omega))) ?_
   refine wi64 (F.s ((c).toNat)) ?_
   refine wcl (l00Min_any n (F.s ((c).toNat)) _) ?_
   intro w5 E4
   have mi1 := minI_b n (F.s ((c).toNat))
   refine wv (.int .i64 (minI n (F.s ((c).toNat)))) ?_
   refine wpList_nil (then_normal ?_)
   refine wsr ?_
   refine wv (.int .i64 c) ?_
   refine wv (.pointer (some ⟨g1, 102, none⟩)) ?_
   refine wix g1 102 c .i64 arrt__100_int16 ?_
   replace B1 := B1.ext E4
   have ce3 := hF.s1 ((c).toNat) (by omega)
   have ce4 := ok_cell h1o ((c).toNat) (by omega)
   refine wld g1 (102 + (c).toNat) scal_int16 (B1.get (Fld.gets _ _ (by omega))) ?_
   refine wv (.int .i64 (minI n (F.s ((c).toNat)))) ?_
   refine wi16 (minI n (F.s ((c).toNat))) ?_
   refine wi16 ((F.s ((c).toNat)) - (minI n (F.s ((c).toNat)))) ?_
   refine wv (.pointer (some ⟨g1, 102, none⟩)) ?_
   refine wix g1 102 c .i64 arrt__100_int16 ?_
   refine wst g1 (102 + (c).toNat) (.int .i16 ((F.s ((c).toNat)) - (minI n (F.s ((c).toNat))))) scal_int16 B1 (Fld.sets _ _ (by omega) _) (by rw [Fld.size_cells]; omega) ?_
   intro w6 B1_ X2
   clear B1; have B1 := B1_; clear B1_
   refine wpList_nil (then_normal ?_)
   refine wsr ?_
   refine wrow row_impl_Field B1 (by exact Fld.size_cells _) ?_
   refine wv (.int .i64 (minI n (F.s ((c).toNat)))) ?_
   replace B2 := X2.blk ((B2.ext E3).ext E4) (Ne.symm q_g1_g2)
   refine wput (Fld.cells ({ F with s := upd F.s ((c).toNat) ((F.s ((c).toNat)) - (minI n (F.s ((c).toNat)))) })) row_impl_Field B2 (by exact Fld.size_cells _) (by exact Fld.size_cells _) (by exact Fld.one_cells _) ?_
   intro w7 B2_ X3
   clear B2; have B2 := B2_; clear B2_
   refine wv (.int .i64 (minI n (F.s ((c).toNat)))) ?_
   refine wv (.int .i64 0) ?_
   refine wpList_nil (then_normal ?_)
   refine wp_frame (a' := ⟨#[.agg F.cells, .int .i64 c, .int .i64 n, .pointer (some ⟨g1, 0, none⟩), undef, undef, .pointer (some ⟨g2, 0, none⟩), .int .i64 (minI n (F.s ((c).toNat))), .int .i64 0, .int .i64 (code F (isB F c && (decide (0 ≤ n)))), .int .i64 (minI n (F.s ((c).toNat))), .int .i64 c, .int .i64 n, .bool (decide (0 ≤ n)), .int .i64 (code F (isB F c && (decide (0 ≤ n)))), .int .i64 (code F (isB F c && (decide (0 ≤ n)))), .bool ((code F (isB F c && (decide (0 ≤ n)))) != 0), undef, undef, .int .i64 n, .int .i64 c, .pointer (some ⟨g1, 102, none⟩), .pointer (some ⟨g1, 102 + (c).toNat, none⟩), .int .i16 (F.s ((c).toNat)), .int .i64 (F.s ((c).toNat)), .int .i64 (minI n (F.s ((c).toNat))), .int .i64 c, .pointer (some ⟨g1, 102, none⟩), .pointer (some ⟨g1, 102 + (c).toNat, none⟩), .int .i16 (F.s ((c).toNat)), .int .i64 (minI n (F.s ((c).toNat))), .int .i16 (minI n (F.s ((c).toNat))), .int .i16 ((F.s ((c).toNat)) - (minI n (F.s ((c).toNat)))), .pointer (some ⟨g1, 102, none⟩), .pointer (some ⟨g1, 102 + (c).toNat, none⟩), .agg (Fld.cells ({ F with s := upd F.s ((c).toNat) ((F.s ((c).toNat)) - (minI n (F.s ((c).toNat)))) })), .int .i64 (minI n (F.s ((c).toNat)))], []⟩) (by kernel_rfl) ?_
   refine wp_ret ?_
   have H4 := X3.ext w lo_g2 (X2.ext w lo_g1 (H2.trans E4))
   refine ret3 (.agg (Fld.cells (tookF F c n))) (.int .i64 (tookN F c n)) (.int .i64 (code F (isB F c && decide (0 ≤ n)))) rfl ?_ ?_ ?_ rfl ?_
   · refine ⟨g2, 29, (Fld.cells ({ F with s := upd F.s ((c).toNat) ((F.s ((c).toNat)) - (minI n (F.s ((c).toNat)))) })), _, by kernel_rfl, B2, row_impl_Field, ?_, ?_⟩
     · exact Fld.size_cells _
     · show (.agg (Fld.cells (tookF F c n)) : Value) = (.agg (Fld.cells ({ F with s := upd F.s ((c).toNat) ((F.s ((c).toNat)) - (minI n (F.s ((c).toNat)))) })))
       refine congrArg Value.agg ?_
       first | rw [tookF_1 (by assumption)] | rw [tookF_2 (by assumption)]
   · refine (resT (v := .int .i64 (minI n (F.s ((c).toNat)))) (by kernel_rfl)).trans ?_
     refine congrArg (Value.int _) ?_
     first | exact (tookN_1 (by assumption)).symm | exact (tookN_2 (by assumption)).symm
   · refine (resT (v := .int .i64 0) (by kernel_rfl)).trans ?_
     refine congrArg (Value.int _) ?_
     first | (rw [if_pos (by assumption)]; done) | (rw [if_neg (by assumption)]; done) | rfl | assumption | (symm; assumption)
   exact ⟨rfl, H4⟩


--# iTakeSeeds_any
theorem iTakeSeeds_any (F : Fld) (hF : F.wf) (c : Int) (n : Int) (w : World) :
 Calls Tryz.prog 17 #[.agg F.cells, .int .i64 c, .int .i64 n] w fun e w' => e = .returned (.tuple #[.agg (Fld.cells (tookF F c n)), .int .i64 (tookN F c n), .int .i64 (code F (isB F c && decide (0 ≤ n)))]) ∧ Ext w w' := by
 refine calls_of_wp Tryz.func17 rfl ?_
 refine wp_frame (a' := ⟨#[.agg F.cells, .int .i64 c, .int .i64 n, undef, undef, undef, undef, undef, undef, undef, undef, undef, undef, undef, undef, undef, undef, undef, undef, undef, undef, undef], []⟩) (by kernel_rfl) ?_
 refine wsr ?_
 refine wbox F.cells ?_
 intro g1 w1 B1 E1 hg_
 have lo_g1 := Nat.le_trans ((Ext.refl w)).size hg_
 have H1 := (Ext.refl w).trans E1
 refine wboxv (.int .i64 c) ?_
 intro g2 w2 B2 E2 hg_
 have q_g1_g2 := Nat.ne_of_lt (Nat.lt_of_lt_of_le B1.lt hg_)
 have lo_g2 := Nat.le_trans (H1).size hg_
 have H2 := H1.trans E2
 replace B1 := B1.ext E2
 refine wboxv (.int .i64 n) ?_
 intro g3 w3 B3 E3 hg_
 have q_g1_g3 := Nat.ne_of_lt (Nat.lt_of_lt_of_le B1.lt hg_)
 have q_g2_g3 := Nat.ne_of_lt (Nat.lt_of_lt_of_le B2.lt hg_)
 have lo_g3 := Nat.le_trans (H2).size hg_
 have H3 := H2.trans E3
 replace B1 := B1.ext E3
 replace B2 := B2.ext E3
 refine wnew (Fld.cells Fld.zero) Tryz.zeroValue29 zero_impl_Field ?_
 intro g4 w4 B4 E4 hg_
 have q_g1_g4 := Nat.ne_of_lt (Nat.lt_of_lt_of_le B1.lt hg_)
 have q_g2_g4 := Nat.ne_of_lt (Nat.lt_of_lt_of_le B2.lt hg_)
 have q_g3_g4 := Nat.ne_of_lt (Nat.lt_of_lt_of_le B3.lt hg_)
 have lo_g4 := Nat.le_trans (H3).size hg_
 refine wv (.int .i64 0) ?_
 refine wv (.int .i64 0) ?_
 refine wpList_nil (then_normal ?_)
 refine wp_seq ?_
 refine wsr ?_
 refine wv (.func (.func 42) #[] #[.pointer (some ⟨g1, 0, none⟩), .pointer (some ⟨g2, 0, none⟩), .pointer (some ⟨g3, 0, none⟩)]) ?_
 replace B1 := B1.ext E4
 replace B2 := B2.ext E4
 replace B3 := B3.ext E4
 refine wcl (fieldCode_any F hF g1 _ (.func (.func 42) #[] #[.pointer (some ⟨g1, 0, none⟩), .pointer (some ⟨g2, 0, none⟩), .pointer (some ⟨g3, 0, none⟩)]) 42 #[.pointer (some ⟨g1, 0, none⟩), .pointer (some ⟨g2, 0, none⟩), .pointer (some ⟨g3, 0, none⟩)] (fun _ => by kernel_rfl) (isB F c && decide (0 ≤ n)) _ B1 (fun _ E_ => TakeSeeds1_any F hF g1 _ c g2 _ n g3 _ _ (B1.ext E_) (B2.ext E_) (B3.ext E_))) ?_
 intro w5 E5
 refine wv (.int .i64 (code F (isB F c && decide (0 ≤ n)))) ?_
 refine wpList_nil (then_normal ?_)
 refine wsr ?_
 refine wv (.int .i64 (code F (isB F c && decide (0 ≤ n)))) ?_
 refine wv (.bool ((code F (isB F c && decide (0 ≤ n))) != 0)) ?_
 refine wpList_nil (then_normal ?_)
 have H4 := (H3.trans E4).trans E5
 refine wsplit ((code F (isB F c && decide (0 ≤ n))) != 0) (fun h1 => ?_) (fun h1 => ?_)
 · skip
   have h1d := nT h1
   refine wsr ?_
   refine wvv (.agg Tryz.zeroCells29) (.agg (Fld.cells Fld.zero)) (congrArg Value.agg zero_impl_Field) ?_
   refine wv (.int .i64 (code F (isB F c && decide (0 ≤ n)))) ?_
   replace B4 := B4.ext E5
   refine wput (Fld.cells Fld.zero) row_impl_Field B4 (by exact Fld.size_cells _) (by exact Fld.size_cells _) (by exact Fld.one_cells _) ?_
   intro w6 B4_ X1
   clear B4; have B4 := B4_; clear B4_
   refine wv (.int .i64 0) ?_
   refine wv (.int .i64 (code F (isB F c && decide (0 ≤ n)))) ?_
   refine wpList_nil (then_normal ?_)
   refine wp_ret ?_
   refine then_ret ?_
   have H5 := X1.ext w lo_g4 H4
   refine ret3 (.agg (Fld.cells (tookF F c n))) (.int .i64 (tookN F c n)) (.int .i64 (code F (isB F c && decide (0 ≤ n)))) rfl ?_ ?_ ?_ rfl ?_
   · refine ⟨g4, 29, (Fld.cells Fld.zero), _, by kernel_rfl, B4, row_impl_Field, ?_, ?_⟩
     · exact Fld.size_cells _
     · show (.agg (Fld.cells (tookF F c n)) : Value) = (.agg (Fld.cells Fld.zero))
       refine congrArg Value.agg ?_
       first | rw [tookF_1 (by assumption)] | rw [tookF_2 (by assumption)]
   · refine (resT (v := .int .i64 0) (by kernel_rfl)).trans ?_
     refine congrArg (Value.int _) ?_
     first | exact (tookN_1 (by assumption)).symm | exact (tookN_2 (by assumption)).symm
   · exact resT (by kernel_rfl)
   exact ⟨rfl, H5⟩
 · skip
   have h1d := nF h1
   have h1o := (code_zero h1d).1
   have h1z := (code_zero h1d).2
   obtain ⟨h1za, h1zb⟩ := andT h1z
   have h1zad := isB_true.1 h1za
   have h1zbd := dT h1zb
   refine wp_skip ?_
   refine then_normal ?_
   refine wsr ?_
   replace B2 := B2.ext E5
   refine wld (v := .int .i64 c) g2 (0) scal_int64 (B2.get (rfl)) ?_
   replace B3 := B3.ext E5
   refine wld (v := .int .i64 n) g3 (0) scal_int64 (B3.get (rfl)) ?_
   replace B1 := B1.ext E5
   refine wcl (take_any F hF g1 _ c n (by omega) (by omega) (ok_cell h1o _ (by omega)).2.2.1 _ B1) ?_
   rintro w7 ⟨B1_, X2⟩
   clear B1; have B1 := B1_; clear B1_
   refine wv (.int .i64 (minI n (F.s c.toNat))) ?_
   refine wpList_nil (then_normal ?_)
   refine wsr ?_
   refine wrow row_impl_Field B1 (by exact Fld.size_cells _) ?_
   refine wv (.int .i64 (minI n (F.s c.toNat))) ?_
   replace B4 := X2.blk (B4.ext E5) (Ne.symm q_g1_g4)
   refine wput (Fld.cells ({ F with s := upd F.s c.toNat (F.s c.toNat - minI n (F.s c.toNat)) })) row_impl_Field B4 (by exact Fld.size_cells _) (by exact Fld.size_cells _) (by exact Fld.one_cells _) ?_
   intro w8 B4_ X3
   clear B4; have B4 := B4_; clear B4_
   refine wv (.int .i64 (minI n (F.s c.toNat))) ?_
   refine wv (.int .i64 0) ?_
   refine wpList_nil (then_normal ?_)
   refine wp_ret ?_
   have H6 := X3.ext w lo_g4 (X2.ext w lo_g1 H4)
   refine ret3 (.agg (Fld.cells (tookF F c n))) (.int .i64 (tookN F c n)) (.int .i64 (code F (isB F c && decide (0 ≤ n)))) rfl ?_ ?_ ?_ rfl ?_
   · refine ⟨g4, 29, (Fld.cells ({ F with s := upd F.s c.toNat (F.s c.toNat - minI n (F.s c.toNat)) })), _, by kernel_rfl, B4, row_impl_Field, ?_, ?_⟩
     · exact Fld.size_cells _
     · show (.agg (Fld.cells (tookF F c n)) : Value) = (.agg (Fld.cells ({ F with s := upd F.s c.toNat (F.s c.toNat - minI n (F.s c.toNat)) })))
       refine congrArg Value.agg ?_
       first | rw [tookF_1 (by assumption)] | rw [tookF_2 (by assumption)]
   · refine (resT (v := .int .i64 (minI n (F.s c.toNat))) (by kernel_rfl)).trans ?_
     refine congrArg (Value.int _) ?_
     first | exact (tookN_1 (by assumption)).symm | exact (tookN_2 (by assumption)).symm
   · refine (resT (v := .int .i64 0) (by kernel_rfl)).trans ?_
     refine congrArg (Value.int _) ?_
     first | (rw [if_pos (by assumption)]; done) | (rw [if_neg (by assumption)]; done) | rfl | assumption | (symm; assumption)
   exact ⟨rfl, H6⟩

end Go.Proofs.YteiplklloajjaaaGreatDoor
