/-
  Contracts: equality of structs. No conditions.
-/
import Derived.Test.YthmdcnoockoggaaTy
import Derived.Test.YthmdcnoockoggaaSl
import Derived.Test.YthmdcnoockoggaaMth
import Derived.Test.YthmdcnoockoggaaFn7
import Derived.Test.YthmdcnoockoggaaEq
namespace Go.Proofs.Ythmdcnoockoggaa
open Go.RowKit
set_option linter.unusedSimpArgs false
set_option linter.unusedVariables false
set_option maxHeartbeats 4000000
set_option maxRecDepth 100000
attribute [local irreducible] wpList Code.wp
--# fldt
-- 55
theorem fldt_impl_Field : FldT Try.prog 44 41 42 24 5 23 := ⟨by kernel_rfl, by kernel_rfl, by kernel_rfl, by kernel_rfl, by kernel_rfl, by kernel_rfl, by kernel_rfl, by kernel_rfl, ⟨by kernel_rfl, by kernel_rfl⟩, ⟨by kernel_rfl, by kernel_rfl⟩, by kernel_rfl, by kernel_rfl, by kernel_rfl⟩

--# trit
theorem trit_impl_Prices : TriT Try.prog 69 23 .i16 := ⟨by kernel_rfl, by kernel_rfl, by kernel_rfl, by kernel_rfl, by kernel_rfl⟩

--# sSameField_any
theorem sSameField_any (F G : Fld) (w : World) :
 Calls Try.prog 53 #[.agg F.cells, .agg G.cells] w fun e w' => e = .returned (.bool (eqFld F G)) ∧ Ext w w' := by
 refine calls_of_wp Try.func53 rfl ?_
 refine wp_frame (a' := ⟨#[.agg F.cells, .agg G.cells, undef, undef, undef, undef, undef, undef], []⟩) (by kernel_rfl) ?_
 refine wsr ?_
 refine wbox F.cells ?_
 intro g1 w1 B1 E1 _
 refine wbox G.cells ?_
 intro g2 w2 B2 E2 _
 refine wv (.bool false) ?_
 refine wpList_nil (then_normal ?_)
 refine wsr ?_
 replace B1 := B1.ext E2
 refine wrow row_impl_Field B1 (by exact Fld.size_cells _) ?_
 refine wrow row_impl_Field B2 (by exact Fld.size_cells _) ?_
 refine weqA fldt_impl_Field.eg (equalIn_fld fldt_impl_Field 9997 F G) ?_
 refine wv (.bool (eqFld F G)) ?_
 refine wpList_nil (then_normal ?_)
 refine wp_ret ?_
 have H1 := ((Ext.refl w).trans E1).trans E2
 refine ret1 (.bool (eqFld F G)) rfl ?_ rfl ?_
 · exact resT (by kernel_rfl)
 exact ⟨rfl, H1⟩


--# iSameField_any
theorem iSameField_any (F G : Fld) (w : World) :
 Calls Try.prog 55 #[.agg F.cells, .agg G.cells] w fun e w' => e = .returned (.bool (eqFld F G)) ∧ Ext w w' := by
 refine calls_of_wp Try.func55 rfl ?_
 refine wp_frame (a' := ⟨#[.agg F.cells, .agg G.cells, undef, undef, undef, undef, undef, undef], []⟩) (by kernel_rfl) ?_
 refine wsr ?_
 refine wbox F.cells ?_
 intro g1 w1 B1 E1 _
 refine wbox G.cells ?_
 intro g2 w2 B2 E2 _
 refine wv (.bool false) ?_
 refine wpList_nil (then_normal ?_)
 refine wsr ?_
 replace B1 := B1.ext E2
 refine wrow row_impl_Field B1 (by exact Fld.size_cells _) ?_
 refine wrow row_impl_Field B2 (by exact Fld.size_cells _) ?_
 refine weqA fldt_impl_Field.eg (equalIn_fld fldt_impl_Field 9997 F G) ?_
 refine wv (.bool (eqFld F G)) ?_
 refine wpList_nil (then_normal ?_)
 refine wp_ret ?_
 have H1 := ((Ext.refl w).trans E1).trans E2
 refine ret1 (.bool (eqFld F G)) rfl ?_ rfl ?_
 · exact resT (by kernel_rfl)
 exact ⟨rfl, H1⟩


--# toPrices_any
theorem toPrices_any (x y z : Int) (w : World) :
 Calls Try.prog 51 #[.agg #[.int .i16 x, .int .i16 y, .int .i16 z]] w fun e w' => e = .returned (.agg #[.int .i16 x, .int .i16 y, .int .i16 z]) ∧ Ext w w' := by
 refine calls_of_wp Try.func51 rfl ?_
 refine wp_frame (a' := ⟨#[.agg #[.int .i16 x, .int .i16 y, .int .i16 z], undef, undef, undef, undef, undef, undef, undef, undef, undef, undef, undef, undef, undef], []⟩) (by kernel_rfl) ?_
 refine wsr ?_
 refine wbox #[.int .i16 x, .int .i16 y, .int .i16 z] ?_
 intro g1 w1 B1 E1 hg_
 have lo_g1 := Nat.le_trans ((Ext.refl w)).size hg_
 have H1 := (Ext.refl w).trans E1
 refine wnew #[.int .i16 0, .int .i16 0, .int .i16 0] Try.zeroValue69 rfl ?_
 intro g2 w2 B2 E2 hg_
 have q_g1_g2 := Nat.ne_of_lt (Nat.lt_of_lt_of_le B1.lt hg_)
 have lo_g2 := Nat.le_trans (H1).size hg_
 refine wpList_nil (then_normal ?_)
 refine wsr ?_
 have H2 := H1.trans E2
 replace B1 := B1.ext E2
 refine wnew #[.int .i16 0, .int .i16 0, .int .i16 0] Try.zeroValue69 rfl ?_
 intro g3 w3 B3 E3 hg_
 have q_g1_g3 := Nat.ne_of_lt (Nat.lt_of_lt_of_le B1.lt hg_)
 have q_g2_g3 := Nat.ne_of_lt (Nat.lt_of_lt_of_le B2.lt hg_)
 have lo_g3 := Nat.le_trans (H2).size hg_
 refine wpList_nil (then_normal ?_)
 refine wsr ?_
 refine wv (.pointer (some ⟨g1, 0, none⟩)) ?_
 replace B1 := B1.ext E3
 refine wld (v := .int .i16 x) g1 (0) scal_int16 (B1.get (rfl)) ?_
 refine wv (.pointer (some ⟨g3, 0, none⟩)) ?_
 refine wst g3 (0) (.int .i16 x) scal_int16 B3 (rfl) (by simp) ?_
 intro w4 B3_ X1
 clear B3; have B3 := B3_; clear B3_
 refine wpList_nil (then_normal ?_)
 refine wsr ?_
 refine wv (.pointer (some ⟨g1, 1, none⟩)) ?_
 replace B1 := X1.blk B1 q_g1_g3
 refine wld (v := .int .i16 y) g1 (1) scal_int16 (B1.get (rfl)) ?_
 refine wv (.pointer (some ⟨g3, 1, none⟩)) ?_
 refine wst g3 (1) (.int .i16 y) scal_int16 B3 (rfl) (by simp) ?_
 intro w5 B3_ X2
 clear B3; have B3 := B3_; clear B3_
 refine wpList_nil (then_normal ?_)
 refine wsr ?_
 refine wv (.pointer (some ⟨g1, 2, none⟩)) ?_
 replace B1 := X2.blk B1 q_g1_g3
 refine wld (v := .int .i16 z) g1 (2) scal_int16 (B1.get (rfl)) ?_
 refine wv (.pointer (some ⟨g3, 2, none⟩)) ?_
 refine wst g3 (2) (.int .i16 z) scal_int16 B3 (rfl) (by simp) ?_
 intro w6 B3_ X3
 clear B3; have B3 := B3_; clear B3_
 refine wpList_nil (then_normal ?_)
 refine wsr ?_
 refine wrow row_impl_Prices B3 (by rfl) ?_
 replace B2 := X3.blk (X2.blk (X1.blk (B2.ext E3) q_g2_g3) q_g2_g3) q_g2_g3
 refine wput #[.int .i16 x, .int .i16 y, .int .i16 z] row_impl_Prices B2 (by rfl) (by rfl) (by kernel_rfl) ?_
 intro w7 B2_ X4
 clear B2; have B2 := B2_; clear B2_
 refine wpList_nil (then_normal ?_)
 refine wp_ret ?_
 have H3 := X4.ext w lo_g2 (X3.ext w lo_g3 (X2.ext w lo_g3 (X1.ext w lo_g3 (H2.trans E3))))
 refine ret1 (.agg #[.int .i16 x, .int .i16 y, .int .i16 z]) rfl ?_ rfl ?_
 · refine ⟨g2, 69, #[.int .i16 x, .int .i16 y, .int .i16 z], _, by kernel_rfl, B2, row_impl_Prices, ?_, ?_⟩
   · rfl
   · rfl
 exact ⟨rfl, H3⟩


--# prB
def prB (x y z : Int) : Bool := inB x 0 100 && (inB y 0 100 && (inB z 0 100 && !(eq3 x y z 0 0 0)))
section
variable {x y z : Int}
theorem prB_1 (h : inB x 0 100 = false) : prB x y z = false := by unfold prB; rw [h]; rfl
theorem prB_2 (h : inB y 0 100 = false) : prB x y z = false := by unfold prB; rw [h, Bool.false_and, Bool.and_false]
theorem prB_3 (h : inB z 0 100 = false) : prB x y z = false := by unfold prB; rw [h, Bool.false_and, Bool.and_false, Bool.and_false]
theorem prB_t (h1 : inB x 0 100 = true) (h2 : inB y 0 100 = true) (h3 : inB z 0 100 = true) : prB x y z = !(eq3 x y z 0 0 0) := by unfold prB; rw [h1, h2, h3]; rfl
end
attribute [irreducible] prB


--# l04Prices_any
theorem l04Prices_any (x y z : Int) (hx : -32768 ≤ x ∧ x ≤ 32767) (hy : -32768 ≤ y ∧ y ≤ 32767) (hz : -32768 ≤ z ∧ z ≤ 32767) (w : World) :
 Calls Try.prog 98 #[.agg #[.int .i16 x, .int .i16 y, .int .i16 z]] w fun e w' => e = .returned (.bool (prB x y z)) ∧ Ext w w' := by
 refine calls_of_wp Try.func98 rfl ?_
 refine wp_frame (a' := ⟨#[.agg #[.int .i16 x, .int .i16 y, .int .i16 z], undef, undef, undef, undef, undef, undef, undef, undef, undef, undef, undef, undef, undef, undef, undef, undef, undef, undef, undef, undef, undef, undef, undef], []⟩) (by kernel_rfl) ?_
 refine wsr ?_
 refine wbox #[.int .i16 x, .int .i16 y, .int .i16 z] ?_
 intro g1 w1 B1 E1 _
 refine wv (.bool false) ?_
 refine wpList_nil (then_normal ?_)
 refine wsr ?_
 refine wv (.pointer (some ⟨g1, 0, none⟩)) ?_
 refine wld (v := .int .i16 x) g1 (0) scal_int16 (B1.get (rfl)) ?_
 refine wi64 x ?_
 refine wcl (l00In_any x 0 100 _) ?_
 intro w2 E2
 refine wv (.bool (inB x 0 100)) ?_
 have H1 := ((Ext.refl w).trans E1).trans E2
 refine split_bool (inB x 0 100) (fun h1 => ?_) (fun h1 => ?_)
 · skip
   refine wbl 7 true h1 ?_
   have h1d := inT h1
   refine wv (.pointer (some ⟨g1, 1, none⟩)) ?_
   replace B1 := B1.ext E2
   refine wld (v := .int .i16 y) g1 (1) scal_int16 (B1.get (rfl)) ?_
   refine wi64 y ?_
   refine wcl (l00In_any y 0 100 _) ?_
   intro w3 E3
   refine wv (.bool (inB y 0 100)) ?_
   refine wv (.bool (inB y 0 100)) ?_
   refine split_bool (inB y 0 100) (fun h2 => ?_) (fun h2 => ?_)
   · skip
     refine wbl 13 true h2 ?_
     have h2d := inT h2
     refine wv (.pointer (some ⟨g1, 2, none⟩)) ?_
     replace B1 := B1.ext E3
     refine wld (v := .int .i16 z) g1 (2) scal_int16 (B1.get (rfl)) ?_
     refine wi64 z ?_
     refine wcl (l00In_any z 0 100 _) ?_
     intro w4 E4
     refine wv (.bool (inB z 0 100)) ?_
     refine wv (.bool (inB z 0 100)) ?_
     have H2 := (H1.trans E3).trans E4
     refine split_bool (inB z 0 100) (fun h3 => ?_) (fun h3 => ?_)
     · skip
       refine wbl 19 true h3 ?_
       have h3d := inT h3
       replace B1 := B1.ext E4
       refine wrow row_impl_Prices B1 (by rfl) ?_
       refine wv (.agg #[.int .i16 0, .int .i16 0, .int .i16 0]) ?_
       refine wneA trit_impl_Prices.eg (equalIn_tri trit_impl_Prices 9998 x y z 0 0 0) ?_
       refine wv (.bool (!(eq3 x y z 0 0 0))) ?_
       refine wv (.bool (!(eq3 x y z 0 0 0))) ?_
       refine wpList_nil (then_normal ?_)
       refine wp_ret ?_
       refine ret1 (.bool (prB x y z)) rfl ?_ rfl ?_
       · refine (resT (v := .bool (!(eq3 x y z 0 0 0))) (by kernel_rfl)).trans ?_
         refine congrArg Value.bool ?_
         first | exact (prB_1 (by assumption)).symm | exact (prB_2 (by assumption)).symm | exact (prB_3 (by assumption)).symm | exact (prB_t (by assumption) (by assumption) (by assumption)).symm
       exact ⟨rfl, H2⟩
     · skip
       refine wbl 19 false h3 ?_
       have h3d := inF h3
       refine wsk ?_
       refine wsk ?_
       refine wsk ?_
       refine wv (.bool false) ?_
       refine wv (.bool false) ?_
       refine wpList_nil (then_normal ?_)
       refine wp_ret ?_
       refine ret1 (.bool (prB x y z)) rfl ?_ rfl ?_
       · refine (resT (v := .bool false) (by kernel_rfl)).trans ?_
         refine congrArg Value.bool ?_
         first | exact (prB_1 (by assumption)).symm | exact (prB_2 (by assumption)).symm | exact (prB_3 (by assumption)).symm | exact (prB_t (by assumption) (by assumption) (by assumption)).symm
       exact ⟨rfl, H2⟩
   · skip
     refine wbl 13 false h2 ?_
     have h2d := inF h2
     refine wsk ?_
     refine wsk ?_
     refine wsk ?_
     refine wsk ?_
     refine wv (.bool false) ?_
     refine wv (.bool false) ?_
     refine wsk ?_
     refine wsk ?_
     refine wsk ?_
     refine wv (.bool false) ?_
     refine wv (.bool false) ?_
     refine wpList_nil (then_normal ?_)
     refine wp_ret ?_
     have H3 := H1.trans E3
     refine ret1 (.bool (prB x y z)) rfl ?_ rfl ?_
     · refine (resT (v := .bool false) (by kernel_rfl)).trans ?_
       refine congrArg Value.bool ?_
       first | exact (prB_1 (by assumption)).symm | exact (prB_2 (by assumption)).symm | exact (prB_3 (by assumption)).symm | exact (prB_t (by assumption) (by assumption) (by assumption)).symm
     exact ⟨rfl, H3⟩
 · skip
   refine wbl 7 false h1 ?_
   have h1d := inF h1
   refine wsk ?_
   refine wsk ?_
   refine wsk ?_
   refine wsk ?_
   refine wv (.bool false) ?_
   refine wv (.bool false) ?_
   refine wsk ?_
   refine wsk ?_
   refine wsk ?_
   refine wsk ?_
   refine wv (.bool false) ?_
   refine wv (.bool false) ?_
   refine wsk ?_
   refine wsk ?_
   refine wsk ?_
   refine wv (.bool false) ?_
   refine wv (.bool false) ?_
   refine wpList_nil (then_normal ?_)
   refine wp_ret ?_
   refine ret1 (.bool (prB x y z)) rfl ?_ rfl ?_
   · refine (resT (v := .bool false) (by kernel_rfl)).trans ?_
     refine congrArg Value.bool ?_
     first | exact (prB_1 (by assumption)).symm | exact (prB_2 (by assumption)).symm | exact (prB_3 (by assumption)).symm | exact (prB_t (by assumption) (by assumption) (by assumption)).symm
   exact ⟨rfl, H1⟩


--# sValidPrices_any
theorem sValidPrices_any (x y z : Int) (hx : -32768 ≤ x ∧ x ≤ 32767) (hy : -32768 ≤ y ∧ y ≤ 32767) (hz : -32768 ≤ z ∧ z ≤ 32767) (w : World) :
 Calls Try.prog 50 #[.agg #[.int .i16 x, .int .i16 y, .int .i16 z]] w fun e w' => e = .returned (.bool (prB x y z)) ∧ Ext w w' := by
 refine calls_of_wp Try.func50 rfl ?_
 refine wp_frame (a' := ⟨#[.agg #[.int .i16 x, .int .i16 y, .int .i16 z], undef, undef, undef, undef], []⟩) (by kernel_rfl) ?_
 refine wsr ?_
 refine wbox #[.int .i16 x, .int .i16 y, .int .i16 z] ?_
 intro g1 w1 B1 E1 _
 refine wv (.bool false) ?_
 refine wpList_nil (then_normal ?_)
 refine wsr ?_
 refine wrow row_impl_Prices B1 (by rfl) ?_
 refine wcl (l04Prices_any x y z (by omega) (by omega) (by omega) _) ?_
 intro w2 E2
 refine wv (.bool (prB x y z)) ?_
 refine wpList_nil (then_normal ?_)
 refine wp_ret ?_
 have H1 := ((Ext.refl w).trans E1).trans E2
 refine ret1 (.bool (prB x y z)) rfl ?_ rfl ?_
 · exact resT (by kernel_rfl)
 exact ⟨rfl, H1⟩


--# iValidPrices_any
theorem iValidPrices_any (x y z : Int) (hx : -32768 ≤ x ∧ x ≤ 32767) (hy : -32768 ≤ y ∧ y ≤ 32767) (hz : -32768 ≤ z ∧ z ≤ 32767) (w : World) :
 Calls Try.prog 52 #[.agg #[.int .i16 x, .int .i16 y, .int .i16 z]] w fun e w' => e = .returned (.bool (prB x y z)) ∧ Ext w w' := by
 refine calls_of_wp Try.func52 rfl ?_
 refine wp_frame (a' := ⟨#[.agg #[.int .i16 x, .int .i16 y, .int .i16 z], undef, undef, undef, undef, undef, undef, undef, undef, undef, undef, undef, undef, undef, undef, undef, undef, undef, undef, undef, undef, undef, undef, undef, undef], []⟩) (by kernel_rfl) ?_
 refine wsr ?_
 refine wbox #[.int .i16 x, .int .i16 y, .int .i16 z] ?_
 intro g1 w1 B1 E1 _
 refine wv (.bool false) ?_
 refine wpList_nil (then_normal ?_)
 refine wp_seq ?_
 refine wsr ?_
 refine wv (.pointer (some ⟨g1, 0, none⟩)) ?_
 refine wld (v := .int .i16 x) g1 (0) scal_int16 (B1.get (rfl)) ?_
 refine wv (.pointer (some ⟨g1, 1, none⟩)) ?_
 refine wld (v := .int .i16 y) g1 (1) scal_int16 (B1.get (rfl)) ?_
 refine wv (.pointer (some ⟨g1, 2, none⟩)) ?_
 refine wld (v := .int .i16 z) g1 (2) scal_int16 (B1.get (rfl)) ?_
 refine wbsl 3 #[.int .i16 x, .int .i16 y, .int .i16 z] slt__int16 ?_
 intro g2 w2 B2 E2 _
 refine wv (.int .i64 3) ?_
 refine wv (.int .i64 0) ?_
 refine wpList_nil (then_normal ?_)
 refine wp_block ?_
 refine wp_loop_rounds 4 ?_
 refine rounds_s ?_
 refine wsr ?_
 refine wv (.bool true) ?_
 refine wpList_nil (then_normal ?_)
 refine wp_seq ?_
 refine wct ?_
 refine wp_skip ?_
 refine then_normal ?_
 refine wp_seq ?_
 refine wp_block ?_
 refine wsr ?_
 refine wsix1 g2 0 3 3 0 .i64 slit__int16 ?_
 refine wld (v := .int .i16 x) g2 (0 + 0) scal_int16 (B2.get (rfl)) ?_
 refine wv (.int .i16 x) ?_
 refine wpList_nil (then_normal ?_)
 refine wsr ?_
 refine wv (.int .i16 x) ?_
 refine wi64 x ?_
 refine wcl (within_any x 0 100 _) ?_
 intro w3 E3
 refine wv (.bool (!(inB x 0 100))) ?_
 refine wpList_nil (then_normal ?_)
 have H1 := (((Ext.refl w).trans E1).trans E2).trans E3
 refine wsplit (!(inB x 0 100)) (fun h1 => ?_) (fun h1 => ?_)
 · skip
   replace h1 := nbT h1
   have h1d := inF h1
   refine wsr ?_
   refine wv (.bool false) ?_
   refine wpList_nil (then_normal ?_)
   refine wp_ret ?_
   refine block_ret (then_ret (then_ret (block_ret (then_ret ?_))))
   refine ret1 (.bool (prB x y z)) rfl ?_ rfl ?_
   · refine (resT (v := .bool false) (by kernel_rfl)).trans ?_
     refine congrArg Value.bool ?_
     first | exact (prB_1 (by assumption)).symm | exact (prB_2 (by assumption)).symm | exact (prB_3 (by assumption)).symm | exact (prB_t (by assumption) (by assumption) (by assumption)).symm
   exact ⟨rfl, H1⟩
 · skip
   replace h1 := nbF h1
   have h1d := inT h1
   refine wp_skip ?_
   refine block_normal (then_normal ?_)
   refine wp_region_lit ?_
   refine wv (.int .i64 1) ?_
   refine wv (.int .i64 1) ?_
   refine wpList_nil (then_normal ?_)
   refine rounds_s ?_
   refine wp_frame (a' := ⟨#[.agg #[.int .i16 x, .int .i16 y, .int .i16 z], .pointer (some ⟨g1, 0, none⟩), .bool false, undef, .int .i16 x, .pointer (some ⟨g1, 0, none⟩), .int .i16 x, .pointer (some ⟨g1, 1, none⟩), .int .i16 y, .pointer (some ⟨g1, 2, none⟩), .int .i16 z, .slice (some ⟨g2, 0, none⟩) 3 3, .int .i64 3, .int .i64 1, .bool true, .pointer (some ⟨g2, 0 + 0, none⟩), .int .i16 x, .int .i16 x, .int .i64 x, .bool (inB x 0 100), .bool (!(inB x 0 100)), .int .i64 1, undef, undef, undef], []⟩) (by kernel_rfl) ?_
   refine wsr ?_
   refine wv (.bool true) ?_
   refine wpList_nil (then_normal ?_)
   refine wp_seq ?_
   refine wct ?_
   refine wp_skip ?_
   refine then_normal ?_
   refine wp_seq ?_
   refine wp_block ?_
   refine wsr ?_
   refine wsix1 g2 0 3 3 1 .i64 slit__int16 ?_
   replace B2 := B2.ext E3
   refine wld (v := .int .i16 y) g2 (0 + 1) scal_int16 (B2.get (rfl)) ?_
   refine wv (.int .i16 y) ?_
   refine wpList_nil (then_normal ?_)
   refine wsr ?_
   refine wv (.int .i16 y) ?_
   refine wi64 y ?_
   refine wcl (within_any y 0 100 _) ?_
   intro w4 E4
   refine wv (.bool (!(inB y 0 100))) ?_
   refine wpList_nil (then_normal ?_)
   refine wsplit (!(inB y 0 100)) (fun h2 => ?_) (fun h2 => ?_)
   · skip
     replace h2 := nbT h2
     have h2d := inF h2
     refine wsr ?_
     refine wv (.bool false) ?_
     refine wpList_nil (then_normal ?_)
     refine wp_ret ?_
     refine block_ret (then_ret (then_ret (block_ret (then_ret ?_))))
     have H2 := H1.trans E4
     refine ret1 (.bool (prB x y z)) rfl ?_ rfl ?_
     · refine (resT (v := .bool false) (by kernel_rfl)).trans ?_
       refine congrArg Value.bool ?_
       first | exact (prB_1 (by assumption)).symm | exact (prB_2 (by assumption)).symm | exact (prB_3 (by assumption)).symm | exact (prB_t (by assumption) (by assumption) (by assumption)).symm
     exact ⟨rfl, H2⟩
   · skip
     replace h2 := nbF h2
     have h2d := inT h2
     refine wp_skip ?_
     refine block_normal (then_normal ?_)
     refine wp_region_lit ?_
     refine wv (.int .i64 2) ?_
     refine wv (.int .i64 2) ?_
     refine wpList_nil (then_normal ?_)
     refine rounds_s ?_
     refine wp_frame (a' := ⟨#[.agg #[.int .i16 x, .int .i16 y, .int .i16 z], .pointer (some ⟨g1, 0, none⟩), .bool false, undef, .int .i16 y, .pointer (some ⟨g1, 0, none⟩), .int .i16 x, .pointer (some ⟨g1, 1, none⟩), .int .i16 y, .pointer (some ⟨g1, 2, none⟩), .int .i16 z, .slice (some ⟨g2, 0, none⟩) 3 3, .int .i64 3, .int .i64 2, .bool true, .pointer (some ⟨g2, 0 + 1, none⟩), .int .i16 y, .int .i16 y, .int .i64 y, .bool (inB y 0 100), .bool (!(inB y 0 100)), .int .i64 2, undef, undef, undef], []⟩) (by kernel_rfl) ?_
     refine wsr ?_
     refine wv (.bool true) ?_
     refine wpList_nil (then_normal ?_)
     refine wp_seq ?_
     refine wct ?_
     refine wp_skip ?_
     refine then_normal ?_
     refine wp_seq ?_
     refine wp_block ?_
     refine wsr ?_
     refine wsix1 g2 0 3 3 2 .i64 slit__int16 ?_
     replace B2 := B2.ext E4
     refine wld (v := .int .i16 z) g2 (0 + 2) scal_int16 (B2.get (rfl)) ?_
     refine wv (.int .i16 z) ?_
     refine wpList_nil (then_normal ?_)
     refine wsr ?_
     refine wv (.int .i16 z) ?_
     refine wi64 z ?_
     refine wcl (within_any z 0 100 _) ?_
     intro w5 E5
     refine wv (.bool (!(inB z 0 100))) ?_
     refine wpList_nil (then_normal ?_)
     have H3 := (H1.trans E4).trans E5
     refine wsplit (!(inB z 0 100)) (fun h3 => ?_) (fun h3 => ?_)
     · skip
       replace h3 := nbT h3
       have h3d := inF h3
       refine wsr ?_
       refine wv (.bool false) ?_
       refine wpList_nil (then_normal ?_)
       refine wp_ret ?_
       refine block_ret (then_ret (then_ret (block_ret (then_ret ?_))))
       refine ret1 (.bool (prB x y z)) rfl ?_ rfl ?_
       · refine (resT (v := .bool false) (by kernel_rfl)).trans ?_
         refine congrArg Value.bool ?_
         first | exact (prB_1 (by assumption)).symm | exact (prB_2 (by assumption)).symm | exact (prB_3 (by assumption)).symm | exact (prB_t (by assumption) (by assumption) (by assumption)).symm
       exact ⟨rfl, H3⟩
     · skip
       replace h3 := nbF h3
       have h3d := inT h3
       refine wp_skip ?_
       refine block_normal (then_normal ?_)
       refine wp_region_lit ?_
       refine wv (.int .i64 3) ?_
       refine wv (.int .i64 3) ?_
       refine wpList_nil (then_normal ?_)
       refine rounds_s ?_
       refine wp_frame (a' := ⟨#[.agg #[.int .i16 x, .int .i16 y, .int .i16 z], .pointer (some ⟨g1, 0, none⟩), .bool false, undef, .int .i16 z, .pointer (some ⟨g1, 0, none⟩), .int .i16 x, .pointer (some ⟨g1, 1, none⟩), .int .i16 y, .pointer (some ⟨g1, 2, none⟩), .int .i16 z, .slice (some ⟨g2, 0, none⟩) 3 3, .int .i64 3, .int .i64 3, .bool true, .pointer (some ⟨g2, 0 + 2, none⟩), .int .i16 z, .int .i16 z, .int .i64 z, .bool (inB z 0 100), .bool (!(inB z 0 100)), .int .i64 3, undef, undef, undef], []⟩) (by kernel_rfl) ?_
       refine wsr ?_
       refine wv (.bool false) ?_
       refine wpList_nil (then_normal ?_)
       refine wp_seq ?_
       refine wcf ?_
       refine wp_exit ?_
       refine then_exit ?_
       refine then_exit ?_
       refine block_exit ?_
       refine then_normal ?_
       refine wsr ?_
       replace B1 := (((B1.ext E2).ext E3).ext E4).ext E5
       refine wrow row_impl_Prices B1 (by rfl) ?_
       refine wv (.agg #[.int .i16 0, .int .i16 0, .int .i16 0]) ?_
       refine wneA trit_impl_Prices.eg (equalIn_tri trit_impl_Prices 9998 x y z 0 0 0) ?_
       refine wv (.bool (!(eq3 x y z 0 0 0))) ?_
       refine wpList_nil (then_normal ?_)
       refine wp_ret ?_
       refine ret1 (.bool (prB x y z)) rfl ?_ rfl ?_
       · refine (resT (v := .bool (!(eq3 x y z 0 0 0))) (by kernel_rfl)).trans ?_
         refine congrArg Value.bool ?_
         first | exact (prB_1 (by assumption)).symm | exact (prB_2 (by assumption)).symm | exact (prB_3 (by assumption)).symm | exact (prB_t (by assumption) (by assumption) (by assumption)).symm
       exact ⟨rfl, H3⟩

end Go.Proofs.Ythmdcnoockoggaa
