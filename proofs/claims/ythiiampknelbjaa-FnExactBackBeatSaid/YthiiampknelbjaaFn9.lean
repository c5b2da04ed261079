/-
  Contracts: beats, covers. No conditions.
-/
import Derived.Test.YthiiampknelbjaaTy
import Derived.Test.YthiiampknelbjaaSl
import Derived.Test.YthiiampknelbjaaMth
import Derived.Test.YthiiampknelbjaaFn7
import Derived.Test.YthiiampknelbjaaSl2
namespace Go.Proofs.Ythiiampknelbjaa
open Go.RowKit
set_option linter.unusedSimpArgs false
set_option linter.unusedVariables false
set_option maxHeartbeats 4000000
set_option maxRecDepth 100000
attribute [local irreducible] wpList Code.wp
--# isWay_any
theorem isWay_any (F : Fld) (hF : F.wf) (b : Nat) (t : TypeId) (c : Int) (w : World) (hb : Blk w b t F.cells) :
 Calls Try.prog 112 #[.pointer (some ⟨b, 0, none⟩), .int .i64 c] w fun e w' => e = .returned (.bool (wayB F c)) ∧ Ext w w' := by
 refine calls_of_wp Try.func112 rfl ?_
 refine wp_frame (a' := ⟨#[.pointer (some ⟨b, 0, none⟩), .int .i64 c, undef, undef, undef, undef, undef, undef, undef, undef, undef, undef, undef, undef, undef, undef, undef, undef, undef, undef, undef, undef, undef, undef, undef, undef], []⟩) (by kernel_rfl) ?_
 refine wsr ?_
 refine wv (.bool false) ?_
 refine wpList_nil (then_normal ?_)
 refine wsr ?_
 refine wv (.pointer (some ⟨b, 0, none⟩)) ?_
 refine wv (.int .i64 c) ?_
 refine wcl (has_any F hF b _ c _ hb) ?_
 intro w1 E1
 refine wv (.bool (isB F c)) ?_
 refine split_bool (isB F c) (fun h1 => ?_) (fun h1 => ?_)
 · skip
   refine wbl 8 true h1 ?_
   have h1d := isB_true.1 h1
   refine wv (.pointer (some ⟨b, 0, none⟩)) ?_
   refine wv (.int .i64 c) ?_
   refine wv (.pointer (some ⟨b, 0, none⟩)) ?_
   refine wv (.pointer (some ⟨b, 2, none⟩)) ?_
   refine wix b 2 c .i64 arrt__100_uint8 ?_
   replace hb := hb.ext E1
   have ce1 := hF.k1 ((c).toNat) (by omega)
   refine wld b (2 + (c).toNat) scal_uint8 (hb.get (Fld.getk _ _ (by omega))) ?_
   refine wv (.bool ((F.k ((c).toNat)) == 0)) ?_
   refine wv (.bool ((F.k ((c).toNat)) == 0)) ?_
   refine split_bool ((F.k ((c).toNat)) == 0) (fun h2 => ?_) (fun h2 => ?_)
   · skip
     refine wbl 16 true h2 ?_
     have h2d := eT h2
     refine wsk ?_
     refine wsk ?_
     refine wsk ?_
     refine wsk ?_
     refine wsk ?_
     refine wsk ?_
     refine wsk ?_
     refine wv (.bool true) ?_
     refine wv (.bool true) ?_
     refine wv (.bool true) ?_
     refine wpList_nil (then_normal ?_)
     refine wp_ret ?_
     have H1 := (Ext.refl w).trans E1
     refine ret1 (.bool (wayB F c)) rfl ?_ rfl ?_
     · refine (resT (v := .bool true) (by kernel_rfl)).trans ?_
       refine congrArg Value.bool ?_
       first | exact (wayB_1 (by assumption)).symm | exact (wayB_2 (by assumption) (by assumption)).symm | exact (wayB_3 (by assumption) (by assumption)).symm
     exact ⟨rfl, H1⟩
   · skip
     refine wbl 16 false h2 ?_
     have h2d := eF h2
     refine wv (.pointer (some ⟨b, 0, none⟩)) ?_
     refine wv (.int .i64 c) ?_
     refine wv (.pointer (some ⟨b, 0, none⟩)) ?_
     refine wv (.pointer (some ⟨b, 2, none⟩)) ?_
     refine wix b 2 c .i64 arrt__100_uint8 ?_
     have ce2 := hF.k1 ((c).toNat) (by omega)
     refine wld b (2 + (c).toNat) scal_uint8 (hb.get (Fld.getk _ _ (by omega))) ?_
     refine wv (.bool ((F.k ((c).toNat)) == 2)) ?_
     refine wv (.bool ((F.k ((c).toNat)) == 2)) ?_
     refine wv (.bool ((F.k ((c).toNat)) == 2)) ?_
     refine wv (.bool ((F.k ((c).toNat)) == 2)) ?_
     refine wpList_nil (then_normal ?_)
     refine wp_ret ?_
     have H2 := (Ext.refl w).trans E1
     refine ret1 (.bool (wayB F c)) rfl ?_ rfl ?_
     · refine (resT (v := .bool ((F.k ((c).toNat)) == 2)) (by kernel_rfl)).trans ?_
       refine congrArg Value.bool ?_
       first | exact (wayB_1 (by assumption)).symm | exact (wayB_2 (by assumption) (by assumption)).symm | exact (wayB_3 (by assumption) (by assumption)).symm
     exact ⟨rfl, H2⟩
 · skip
   refine wbl 8 false h1 ?_
   refine wsk ?_
   refine wsk ?_
   refine wsk ?_
   refine wsk ?_
   refine wsk ?_
   refine wsk ?_
   refine wsk ?_
   refine wsk ?_
   refine wsk ?_
   refine wsk ?_
   refine wsk ?_
   refine wsk ?_
   refine wsk ?_
   refine wsk ?_
   refine wsk ?_
   refine wsk ?_
   refine wv (.bool false) ?_
   refine wv (.bool false) ?_
   refine wpList_nil (then_normal ?_)
   refine wp_ret ?_
   have H3 := (Ext.refl w).trans E1
   refine ret1 (.bool (wayB F c)) rfl ?_ rfl ?_
   · refine (resT (v := .bool false) (by kernel_rfl)).trans ?_
     refine congrArg Value.bool ?_
     first | exact (wayB_1 (by assumption)).symm | exact (wayB_2 (by assumption) (by assumption)).symm | exact (wayB_3 (by assumption) (by assumption)).symm
   exact ⟨rfl, H3⟩


--# l05Walk_any
theorem l05Walk_any (F : Fld) (hF : F.wf) (b : Nat) (t : TypeId) (c : Int) (w : World) (hb : Blk w b t F.cells) :
 Calls Try.prog 111 #[.pointer (some ⟨b, 0, none⟩), .int .i64 c] w fun e w' => e = .returned (.bool (wayB F c)) ∧ Ext w w' := by
 refine calls_of_wp Try.func111 rfl ?_
 refine wp_frame (a' := ⟨#[.pointer (some ⟨b, 0, none⟩), .int .i64 c, undef, undef, undef, undef, undef, undef, undef, undef, undef, undef, undef, undef, undef, undef, undef, undef, undef, undef, undef, undef, undef, undef, undef, undef], []⟩) (by kernel_rfl) ?_
 refine wsr ?_
 refine wv (.bool false) ?_
 refine wpList_nil (then_normal ?_)
 refine wsr ?_
 refine wv (.pointer (some ⟨b, 0, none⟩)) ?_
 refine wv (.int .i64 c) ?_
 refine wcl (l01Is_any F hF b _ c _ hb) ?_
 intro w1 E1
 refine wv (.bool (isB F c)) ?_
 refine split_bool (isB F c) (fun h1 => ?_) (fun h1 => ?_)
 · skip
   refine wbl 8 true h1 ?_
   have h1d := isB_true.1 h1
   refine wv (.pointer (some ⟨b, 0, none⟩)) ?_
   refine wv (.int .i64 c) ?_
   refine wv (.pointer (some ⟨b, 0, none⟩)) ?_
   refine wv (.pointer (some ⟨b, 2, none⟩)) ?_
   refine wix b 2 c .i64 arrt__100_uint8 ?_
   replace hb := hb.ext E1
   have ce1 := hF.k1 ((c).toNat) (by omega)
   refine wld b (2 + (c).toNat) scal_uint8 (hb.get (Fld.getk _ _ (by omega))) ?_
   refine wv (.bool ((F.k ((c).toNat)) == 0)) ?_
   refine wv (.bool ((F.k ((c).toNat)) == 0)) ?_
   refine split_bool ((F.k ((c).toNat)) == 0) (fun h2 => ?_) (fun h2 => ?_)
   · skip
     refine wbl 16 true h2 ?_
     have h2d := eT h2
     refine wsk ?_
     refine wsk ?_
     refine wsk ?_
     refine wsk ?_
     refine wsk ?_
     refine wsk ?_
     refine wsk ?_
     refine wv (.bool true) ?_
     refine wv (.bool true) ?_
     refine wv (.bool true) ?_
     refine wpList_nil (then_normal ?_)
     refine wp_ret ?_
     have H1 := (Ext.refl w).trans E1
     refine ret1 (.bool (wayB F c)) rfl ?_ rfl ?_
     · refine (resT (v := .bool true) (by kernel_rfl)).trans ?_
       refine congrArg Value.bool ?_
       first | exact (wayB_1 (by assumption)).symm | exact (wayB_2 (by assumption) (by assumption)).symm | exact (wayB_3 (by assumption) (by assumption)).symm
     exact ⟨rfl, H1⟩
   · skip
     refine wbl 16 false h2 ?_
     have h2d := eF h2
     refine wv (.pointer (some ⟨b, 0, none⟩)) ?_
     refine wv (.int .i64 c) ?_
     refine wv (.pointer (some ⟨b, 0, none⟩)) ?_
     refine wv (.pointer (some ⟨b, 2, none⟩)) ?_
     refine wix b 2 c .i64 arrt__100_uint8 ?_
     have ce2 := hF.k1 ((c).toNat) (by omega)
     refine wld b (2 + (c).toNat) scal_uint8 (hb.get (Fld.getk _ _ (by omega))) ?_
     refine wv (.bool ((F.k ((c).toNat)) == 2)) ?_
     refine wv (.bool ((F.k ((c).toNat)) == 2)) ?_
     refine wv (.bool ((F.k ((c).toNat)) == 2)) ?_
     refine wv (.bool ((F.k ((c).toNat)) == 2)) ?_
     refine wpList_nil (then_normal ?_)
     refine wp_ret ?_
     have H2 := (Ext.refl w).trans E1
     refine ret1 (.bool (wayB F c)) rfl ?_ rfl ?_
     · refine (resT (v := .bool ((F.k ((c).toNat)) == 2)) (by kernel_rfl)).trans ?_
       refine congrArg Value.bool ?_
       first | exact (wayB_1 (by assumption)).symm | exact (wayB_2 (by assumption) (by assumption)).symm | exact (wayB_3 (by assumption) (by assumption)).symm
     exact ⟨rfl, H2⟩
 · skip
   refine wbl 8 false h1 ?_
   refine wsk ?_
   refine wsk ?_
   refine wsk ?_
   refine wsk ?_
   refine wsk ?_
   refine wsk ?_
   refine wsk ?_
   refine wsk ?_
   refine wsk ?_
   refine wsk ?_
   refine wsk ?_
   refine wsk ?_
   refine wsk ?_
   refine wsk ?_
   refine wsk ?_
   refine wsk ?_
   refine wv (.bool false) ?_
   refine wv (.bool false) ?_
   refine wpList_nil (then_normal ?_)
   refine wp_ret ?_
   have H3 := (Ext.refl w).trans E1
   refine ret1 (.bool (wayB F c)) rfl ?_ rfl ?_
   · refine (resT (v := .bool false) (by kernel_rfl)).trans ?_
     refine congrArg Value.bool ?_
     first | exact (wayB_1 (by assumption)).symm | exact (wayB_2 (by assumption) (by assumption)).symm | exact (wayB_3 (by assumption) (by assumption)).symm
   exact ⟨rfl, H3⟩


--# areNear_any
theorem areNear_any (a : Int) (b : Int) (ha : 0 ≤ a ∧ a ≤ 1000) (hb : 0 ≤ b ∧ b ≤ 1000) (w : World) :
 Calls Try.prog 113 #[.int .i64 a, .int .i64 b] w fun e w' => e = .returned (.bool (decide (sqr a b ≤ 1))) ∧ Ext w w' := by
 refine calls_of_wp Try.func113 rfl ?_
 refine wp_frame (a' := ⟨#[.int .i64 a, .int .i64 b, undef, undef, undef, undef, undef, undef, undef], []⟩) (by kernel_rfl) ?_
 refine wsr ?_
 refine wv (.bool false) ?_
 refine wpList_nil (then_normal ?_)
 refine wsr ?_
 refine wv (.int .i64 a) ?_
 refine wv (.int .i64 b) ?_
 refine wcl (square_any a b (by omega) (by omega) _) ?_
 intro w1 E1
 refine wv (.bool (decide ((sqr a b) ≤ 1))) ?_
 refine wv (.bool (decide ((sqr a b) ≤ 1))) ?_
 refine wpList_nil (then_normal ?_)
 refine wp_ret ?_
 have H1 := (Ext.refl w).trans E1
 refine ret1 (.bool (decide (sqr a b ≤ 1))) rfl ?_ rfl ?_
 · refine (resT (v := .bool (decide ((sqr a b) ≤ 1))) (by kernel_rfl)).trans ?_
   refine congrArg Value.bool ?_
   rfl
 exact ⟨rfl, H1⟩


--# isBeat_any
theorem isBeat_any (F : Fld) (hF : F.wf) (b : Nat) (t : TypeId) (xs : List Int) (n b2 cap : Nat) (cs : Array Value) (hS : SlI cs n cap .i16 xs) (hn : n ≤ 1048576) (hw16 : ∀ i, -32768 ≤ atI xs i ∧ atI xs i ≤ 32767) (w : World) (hb : Blk w b t F.cells) (hb2 : Blk w b2 24 cs) :
 Calls Try.prog 90 #[.pointer (some ⟨b, 0, none⟩), .slice (some ⟨b2, 0, none⟩) n cap] w fun e w' => e = .returned (.bool (beatB F xs)) ∧ Ext w w' := by
 have hn_ := hS.len
 refine calls_of_wp Try.func90 rfl ?_
 refine wp_frame (a' := ⟨#[.pointer (some ⟨b, 0, none⟩), .slice (some ⟨b2, 0, none⟩) n cap, undef, undef, undef, undef, undef, undef, undef, undef, undef, undef, undef, undef, undef, undef, undef, undef, undef, undef, undef, undef, undef, undef, undef, undef, undef, undef, undef, undef, undef, undef, undef, undef, undef, undef, undef, undef, undef, undef, undef, undef, undef, undef, undef, undef, undef, undef, undef, undef, undef], []⟩) (by kernel_rfl) ?_
 refine wsr ?_
 refine wv (.bool false) ?_
 refine wpList_nil (then_normal ?_)
 refine wp_seq ?_
 refine wsr ?_
 refine wv (.slice (some ⟨b2, 0, none⟩) n cap) ?_
 refine wv (.int .i64 (n : Int)) ?_
 refine wcl (within_any (n : Int) 1 40 _) ?_
 intro w1 E1
 refine wv (.bool (!(inB (n : Int) 1 40))) ?_
 refine wpList_nil (then_normal ?_)
 refine wsplit (!(inB (n : Int) 1 40)) (fun h1 => ?_) (fun h1 => ?_)
 · skip
   replace h1 := nbT h1
   have h1d := inF h1
   refine wsr ?_
   refine wv (.bool false) ?_
   refine wpList_nil (then_normal ?_)
   refine wp_ret ?_
   refine then_ret ?_
   have H1 := (Ext.refl w).trans E1
   refine ret1 (.bool (beatB F xs)) rfl ?_ rfl ?_
   · refine (resT (v := .bool false) (by kernel_rfl)).trans ?_
     refine congrArg Value.bool ?_
     first | exact (beatB_0 hn_ (by assumption)).symm | exact (beatB_t hn_ (by assumption) (fun j hj => hall j (by omega))).symm | exact (beatB_f hn_ i (by omega) (btC_1 (by assumption))).symm | exact (beatB_f hn_ i (by omega) (btC_2 (by assumption))).symm | exact (beatB_f hn_ i (by omega) (btC_3 (dF (by assumption)))).symm
   exact ⟨rfl, H1⟩
 · skip
   replace h1 := nbF h1
   have h1d := inT h1
   refine wp_skip ?_
   refine then_normal ?_
   refine wp_seq ?_
   refine wsr ?_
   refine wv (.slice (some ⟨b2, 0, none⟩) n cap) ?_
   refine wv (.int .i64 (n : Int)) ?_
   refine wv (.int .i64 0) ?_
   refine wpList_nil (then_normal ?_)
   refine wp_block ?_
   replace hb := hb.ext E1
   replace hb2 := hb2.ext E1
   have H2 := (Ext.refl w).trans E1
   refine wp_loop_k (fun m1 a wl1 => ∃ (i : Nat), m1 = n - i ∧ i ≤ n ∧ (∀ j, j < i → btC F xs n j = true) ∧ Ext w wl1 ∧ Blk wl1 b t F.cells ∧ Blk wl1 b2 24 cs ∧ (∃ J1 : Nat → Value, a = ⟨#[.pointer (some ⟨b, 0, none⟩), .slice (some ⟨b2, 0, none⟩) n cap, undef, undef, J1 4, J1 5, J1 6, J1 7, .slice (some ⟨b2, 0, none⟩) n cap, .int .i64 (n : Int), .bool (inB (n : Int) 1 40), .bool (!(inB (n : Int) 1 40)), .slice (some ⟨b2, 0, none⟩) n cap, .int .i64 (n : Int), .int .i64 (i : Int), J1 15, J1 16, J1 17, J1 18, J1 19, J1 20, J1 21, J1 22, J1 23, J1 24, J1 25, J1 26, J1 27, J1 28, J1 29, J1 30, J1 31, J1 32, J1 33, J1 34, J1 35, J1 36, J1 37, J1 38, J1 39, J1 40, J1 41, J1 42, J1 43, J1 44, J1 45, J1 46, J1 47, J1 48, J1 49, J1 50], []⟩)) (n) ?_ ?_
   · refine ⟨0, rfl, ?_, ?_, H2, hb, hb2, exJ (by kernel_rfl)⟩
     · omega
     · intro j hj; omega
   intro m1 a wl1 hI
   obtain ⟨i, rfl, hi_, hall, HL1, hb, hb2, J1, rfl⟩ := hI
   have wi_ := hw16 i
   have wp_ := hw16 (prv n i)
   have ep_ : (((i : Int) + (n : Int) - 1) % (n : Int)).toNat = prv n i := rfl
   refine wsr ?_
   refine wv (.bool (decide ((i : Int) < (n : Int)))) ?_
   refine wpList_nil (then_normal ?_)
   refine wp_seq ?_
   refine wsplit (decide ((i : Int) < (n : Int))) (fun h2 => ?_) (fun h2 => ?_)
   · skip
     have h2d := dT h2
     refine wp_skip ?_
     refine then_normal ?_
     refine wp_seq ?_
     refine wp_block ?_
     refine wsr ?_
     refine wv (.int .i64 (i : Int)) ?_
     refine wsix1 b2 0 n cap i .i64 slit_impl_Beat ?_
     refine wld b2 (0 + i) scal_int16 (hb2.get (SlI.get hS (by omega))) ?_
     have lw1 := hw16 (i)
     refine wv (.int .i64 (i : Int)) ?_
     refine wv (.int .i16 (atI xs i)) ?_
     refine wpList_nil (then_normal ?_)
     refine wsr ?_
     refine wv (.slice (some ⟨b2, 0, none⟩) n cap) ?_
     refine wv (.int .i64 (i : Int)) ?_
     refine wv (.slice (some ⟨b2, 0, none⟩) n cap) ?_
     refine wv (.int .i64 (n : Int)) ?_
     refine wi64 ((i : Int) + (n : Int)) ?_
     refine wi64 (((i : Int) + (n : Int)) - 1) ?_
     refine wv (.slice (some ⟨b2, 0, none⟩) n cap) ?_
     refine wv (.int .i64 (n : Int)) ?_
     have em1 := Int.emod_nonneg (((i : Int) + (n : Int)) - 1) (show (n : Int) ≠ 0 by omega)
     have em2 := Int.emod_lt_of_pos (((i : Int) + (n : Int)) - 1) (show 0 < (n : Int) by omega)
     refine wremz .i64 (((i : Int) + (n : Int)) - 1) (n : Int) ?_
     refine wsix1z b2 0 n cap ((((i : Int) + (n : Int)) - 1) % (n : Int)) .i64 slit_impl_Beat ?_
     refine wld b2 (0 + ((((i : Int) + (n : Int)) - 1) % (n : Int)).toNat) scal_int16 (hb2.get (SlI.get hS (by omega))) ?_
     have lw2 := hw16 ((((((i : Int) + (n : Int)) - 1) % (n : Int)).toNat))
     refine wv (.int .i16 (atI xs (((((i : Int) + (n : Int)) - 1) % (n : Int)).toNat))) ?_
     refine wpList_nil (then_normal ?_)
     refine wsr ?_
     refine wv (.pointer (some ⟨b, 0, none⟩)) ?_
     refine wv (.int .i16 (atI xs i)) ?_
     refine wi64 (atI xs i) ?_
     refine wcl (isWay_any F hF b _ (atI xs i) _ hb) ?_
     intro w2 E2
     refine wv (.bool (!(wayB F (atI xs i)))) ?_
     refine wv (.bool (!(wayB F (atI xs i)))) ?_
     refine split_bool (wayB F (atI xs i)) (fun h3 => ?_) (fun h3 => ?_)
     · skip
       refine wbl 35 false (bnT h3) ?_
       have h3i := wayB_is h3
       have h3d := isB_true.1 h3i
       refine wv (.pointer (some ⟨b, 0, none⟩)) ?_
       refine wv (.int .i16 (atI xs (((((i : Int) + (n : Int)) - 1) % (n : Int)).toNat))) ?_
       refine wi64 (atI xs (((((i : Int) + (n : Int)) - 1) % (n : Int)).toNat)) ?_
       replace hb := hb.ext E2
       refine wcl (isWay_any F hF b _ (atI xs (((((i : Int) + (n : Int)) - 1) % (n : Int)).toNat)) _ hb) ?_
       intro w3 E3
       refine wv (.bool (!(wayB F (atI xs (((((i : Int) + (n : Int)) - 1) % (n : Int)).toNat))))) ?_
       refine wv (.bool (!(wayB F (atI xs (((((i : Int) + (n : Int)) - 1) % (n : Int)).toNat))))) ?_
       refine wv (.bool (!(wayB F (atI xs (((((i : Int) + (n : Int)) - 1) % (n : Int)).toNat))))) ?_
       have H3 := (HL1.trans E2).trans E3
       refine split_bool (wayB F (atI xs (((((i : Int) + (n : Int)) - 1) % (n : Int)).toNat))) (fun h4 => ?_) (fun h4 => ?_)
       · skip
         refine wbl 42 false (bnT h4) ?_
         have h4i := wayB_is h4
         have h4d := isB_true.1 h4i
         refine wv (.int .i16 (atI xs i)) ?_
         refine wi64 (atI xs i) ?_
         refine wv (.int .i16 (atI xs (((((i : Int) + (n : Int)) - 1) % (n : Int)).toNat))) ?_
         refine wi64 (atI xs (((((i : Int) + (n : Int)) - 1) % (n : Int)).toNat)) ?_
         refine wcl (areNear_any (atI xs i) (atI xs (((((i : Int) + (n : Int)) - 1) % (n : Int)).toNat)) (by omega) (by omega) _) ?_
         intro w4 E4
         refine wv (.bool (!(decide (sqr (atI xs i) (atI xs (((((i : Int) + (n : Int)) - 1) % (n : Int)).toNat)) ≤ 1)))) ?_
         refine wv (.bool (!(decide (sqr (atI xs i) (atI xs (((((i : Int) + (n : Int)) - 1) % (n : Int)).toNat)) ≤ 1)))) ?_
         refine wpList_nil (then_normal ?_)
         refine wp_frame (a' := ⟨#[.pointer (some ⟨b, 0, none⟩), .slice (some ⟨b2, 0, none⟩) n cap, undef, undef, J1 4, .int .i64 (i : Int), .int .i16 (atI xs i), .int .i16 (atI xs (((((i : Int) + (n : Int)) - 1) % (n : Int)).toNat)), .slice (some ⟨b2, 0, none⟩) n cap, .int .i64 (n : Int), .bool (inB (n : Int) 1 40), .bool (!(inB (n : Int) 1 40)), .slice (some ⟨b2, 0, none⟩) n cap, .int .i64 (n : Int), .int .i64 (i : Int), .bool (decide ((i : Int) < (n : Int))), .int .i64 (i : Int), .pointer (some ⟨b2, 0 + i, none⟩), .int .i16 (atI xs i), .slice (some ⟨b2, 0, none⟩) n cap, .int .i64 (i : Int), .slice (some ⟨b2, 0, none⟩) n cap, .int .i64 (n : Int), .int .i64 ((i : Int) + (n : Int)), .int .i64 (((i : Int) + (n : Int)) - 1), .slice (some ⟨b2, 0, none⟩) n cap, .int .i64 (n : Int), .int .i64 ((((i : Int) + (n : Int)) - 1) % (n : Int)), .pointer (some ⟨b2, 0 + ((((i : Int) + (n : Int)) - 1) % (n : Int)).toNat, none⟩), .int .i16 (atI xs (((((i : Int) + (n : Int)) - 1) % (n : Int)).toNat)), .pointer (some ⟨b, 0, none⟩), .int .i16 (atI xs i), .int .i64 (atI xs i), .bool (wayB F (atI xs i)), .bool (!(wayB F (atI xs i))), .bool false, .pointer (some ⟨b, 0, none⟩), .int .i16 (atI xs (((((i : Int) + (n : Int)) - 1) % (n : Int)).toNat)), .int .i64 (atI xs (((((i : Int) + (n : Int)) - 1) % (n : Int)).toNat)), .bool (wayB F (atI xs (((((i : Int) + (n : Int)) - 1) % (n : Int)).toNat))), .bool (!(wayB F (atI xs (((((i : Int) + (n : Int)) - 1) % (n : Int)).toNat)))), .bool (!(wayB F (atI xs (((((i : Int) + (n : Int)) - 1) % (n : Int)).toNat)))), .bool false, .int .i16 (atI xs i), .int .i64 (atI xs i), .int .i16 (atI xs (((((i : Int) + (n : Int)) - 1) % (n : Int)).toNat)), .int .i64 (atI xs (((((i : Int) + (n : Int)) - 1) % (n : Int)).toNat)), .bool (decide (sqr (atI xs i) (atI xs (((((i : Int) + (n : Int)) - 1) % (n : Int)).toNat)) ≤ 1)), .bool (!(decide (sqr (atI xs i) (atI xs (((((i : Int) + (n : Int)) - 1) % (n : Int)).toNat)) ≤ 1))), .bool (!(decide (sqr (atI xs i) (atI xs (((((i : Int) + (n : Int)) - 1) % (n : Int)).toNat)) ≤ 1))), J1 50], []⟩) (by kernel_rfl) ?_
         refine wsplit (!(decide (sqr (atI xs i) (atI xs (((((i : Int) + (n : Int)) - 1) % (n : Int)).toNat)) ≤ 1))) (fun h5 => ?_) (fun h5 => ?_)
         · skip
           replace h5 := nbT h5
           have h5d := dF h5
           refine wsr ?_
           refine wv (.bool false) ?_
           refine wpList_nil (then_normal ?_)
           refine wp_ret ?_
           refine block_ret (then_ret (then_ret (block_ret (then_ret ?_))))
           have H4 := H3.trans E4
           refine ret1 (.bool (beatB F xs)) rfl ?_ rfl ?_
           · refine (resT (v := .bool false) (by kernel_rfl)).trans ?_
             refine congrArg Value.bool ?_
             first | exact (beatB_0 hn_ (by assumption)).symm | exact (beatB_t hn_ (by assumption) (fun j hj => hall j (by omega))).symm | exact (beatB_f hn_ i (by omega) (btC_1 (by assumption))).symm | exact (beatB_f hn_ i (by omega) (btC_2 (by assumption))).symm | exact (beatB_f hn_ i (by omega) (btC_3 (dF (by assumption)))).symm
           exact ⟨rfl, H4⟩
         · skip
           replace h5 := nbF h5
           have h5d := dT h5
           refine wp_skip ?_
           refine block_normal (then_normal ?_)
           refine wp_region_lit ?_
           refine wi64 ((i : Int) + 1) ?_
           refine wv (.int .i64 ((i : Int) + 1)) ?_
           refine wpList_nil (then_normal ?_)
           replace hb := (hb.ext E3).ext E4
           replace hb2 := ((hb2.ext E2).ext E3).ext E4
           have H5 := H3.trans E4
           refine ⟨_, ?_, i + 1, rfl, ?_, ?_, H5, hb, hb2, exJ (by kernel_rfl)⟩
           · omega
           · omega
           · intro j hj
             rcases (by omega : j < i ∨ j = i) with h_ | h_
             · exact hall j h_
             · subst h_; exact btC_t (by assumption) (by assumption) (dT (by assumption))
       · skip
         refine wbl 42 true (bnF h4) ?_
         refine wsk ?_
         refine wsk ?_
         refine wsk ?_
         refine wsk ?_
         refine wsk ?_
         refine wsk ?_
         refine wv (.bool true) ?_
         refine wpList_nil (then_normal ?_)
         refine wp_frame (a' := ⟨#[.pointer (some ⟨b, 0, none⟩), .slice (some ⟨b2, 0, none⟩) n cap, undef, undef, J1 4, .int .i64 (i : Int), .int .i16 (atI xs i), .int .i16 (atI xs (((((i : Int) + (n : Int)) - 1) % (n : Int)).toNat)), .slice (some ⟨b2, 0, none⟩) n cap, .int .i64 (n : Int), .bool (inB (n : Int) 1 40), .bool (!(inB (n : Int) 1 40)), .slice (some ⟨b2, 0, none⟩) n cap, .int .i64 (n : Int), .int .i64 (i : Int), .bool (decide ((i : Int) < (n : Int))), .int .i64 (i : Int), .pointer (some ⟨b2, 0 + i, none⟩), .int .i16 (atI xs i), .slice (some ⟨b2, 0, none⟩) n cap, .int .i64 (i : Int), .slice (some ⟨b2, 0, none⟩) n cap, .int .i64 (n : Int), .int .i64 ((i : Int) + (n : Int)), .int .i64 (((i : Int) + (n : Int)) - 1), .slice (some ⟨b2, 0, none⟩) n cap, .int .i64 (n : Int), .int .i64 ((((i : Int) + (n : Int)) - 1) % (n : Int)), .pointer (some ⟨b2, 0 + ((((i : Int) + (n : Int)) - 1) % (n : Int)).toNat, none⟩), .int .i16 (atI xs (((((i : Int) + (n : Int)) - 1) % (n : Int)).toNat)), .pointer (some ⟨b, 0, none⟩), .int .i16 (atI xs i), .int .i64 (atI xs i), .bool (wayB F (atI xs i)), .bool (!(wayB F (atI xs i))), .bool false, .pointer (some ⟨b, 0, none⟩), .int .i16 (atI xs (((((i : Int) + (n : Int)) - 1) % (n : Int)).toNat)), .int .i64 (atI xs (((((i : Int) + (n : Int)) - 1) % (n : Int)).toNat)), .bool (wayB F (atI xs (((((i : Int) + (n : Int)) - 1) % (n : Int)).toNat))), .bool (!(wayB F (atI xs (((((i : Int) + (n : Int)) - 1) % (n : Int)).toNat)))), .bool (!(wayB F (atI xs (((((i : Int) + (n : Int)) - 1) % (n : Int)).toNat)))), .bool true, undef, undef, undef, undef, undef, undef, .bool true, J1 50], []⟩) (by kernel_rfl) ?_
         refine wct ?_
         refine wsr ?_
         refine wv (.bool false) ?_
         refine wpList_nil (then_normal ?_)
         refine wp_ret ?_
         refine block_ret (then_ret (then_ret (block_ret (then_ret ?_))))
         refine ret1 (.bool (beatB F xs)) rfl ?_ rfl ?_
         · refine (resT (v := .bool false) (by kernel_rfl)).trans ?_
           refine congrArg Value.bool ?_
           first | exact (beatB_0 hn_ (by assumption)).symm | exact (beatB_t hn_ (by assumption) (fun j hj => hall j (by omega))).symm | exact (beatB_f hn_ i (by omega) (btC_1 (by assumption))).symm | exact (beatB_f hn_ i (by omega) (btC_2 (by assumption))).symm | exact (beatB_f hn_ i (by omega) (btC_3 (dF (by assumption)))).symm
         exact ⟨rfl, H3⟩
     · skip
       refine wbl 35 true (bnF h3) ?_
       refine wsk ?_
       refine wsk ?_
       refine wsk ?_
       refine wsk ?_
       refine wsk ?_
       refine wv (.bool true) ?_
       refine wv (.bool true) ?_
       refine wsk ?_
       refine wsk ?_
       refine wsk ?_
       refine wsk ?_
       refine wsk ?_
       refine wsk ?_
       refine wv (.bool true) ?_
       refine wpList_nil (then_normal ?_)
       refine wp_frame (a' := ⟨#[.pointer (some ⟨b, 0, none⟩), .slice (some ⟨b2, 0, none⟩) n cap, undef, undef, J1 4, .int .i64 (i : Int), .int .i16 (atI xs i), .int .i16 (atI xs (((((i : Int) + (n : Int)) - 1) % (n : Int)).toNat)), .slice (some ⟨b2, 0, none⟩) n cap, .int .i64 (n : Int), .bool (inB (n : Int) 1 40), .bool (!(inB (n : Int) 1 40)), .slice (some ⟨b2, 0, none⟩) n cap, .int .i64 (n : Int), .int .i64 (i : Int), .bool (decide ((i : Int) < (n : Int))), .int .i64 (i : Int), .pointer (some ⟨b2, 0 + i, none⟩), .int .i16 (atI xs i), .slice (some ⟨b2, 0, none⟩) n cap, .int .i64 (i : Int), .slice (some ⟨b2, 0, none⟩) n cap, .int .i64 (n : Int), .int .i64 ((i : Int) + (n : Int)), .int .i64 (((i : Int) + (n : Int)) - 1), .slice (some ⟨b2, 0, none⟩) n cap, .int .i64 (n : Int), .int .i64 ((((i : Int) + (n : Int)) - 1) % (n : Int)), .pointer (some ⟨b2, 0 + ((((i : Int) + (n : Int)) - 1) % (n : Int)).toNat, none⟩), .int .i16 (atI xs (((((i : Int) + (n : Int)) - 1) % (n : Int)).toNat)), .pointer (some ⟨b, 0, none⟩), .int .i16 (atI xs i), .int .i64 (atI xs i), .bool (wayB F (atI xs i)), .bool (!(wayB F (atI xs i))), .bool true, undef, undef, undef, undef, undef, .bool true, .bool true, undef, undef, undef, undef, undef, undef, .bool true, J1 50], []⟩) (by kernel_rfl) ?_
       refine wct ?_
       refine wsr ?_
       refine wv (.bool false) ?_
       refine wpList_nil (then_normal ?_)
       refine wp_ret ?_
       refine block_ret (then_ret (then_ret (block_ret (then_ret ?_))))
       have H6 := HL1.trans E2
       refine ret1 (.bool (beatB F xs)) rfl ?_ rfl ?_
       · refine (resT (v := .bool false) (by kernel_rfl)).trans ?_
         refine congrArg Value.bool ?_
         first | exact (beatB_0 hn_ (by assumption)).symm | exact (beatB_t hn_ (by assumption) (fun j hj => hall j (by omega))).symm | exact (beatB_f hn_ i (by omega) (btC_1 (by assumption))).symm | exact (beatB_f hn_ i (by omega) (btC_2 (by assumption))).symm | exact (beatB_f hn_ i (by omega) (btC_3 (dF (by assumption)))).symm
       exact ⟨rfl, H6⟩
   · skip
     have h2d := dF h2
     refine wp_exit ?_
     refine then_exit ?_
     refine then_exit ?_
     refine block_exit ?_
     refine then_normal ?_
     refine wsr ?_
     refine wv (.bool true) ?_
     refine wpList_nil (then_normal ?_)
     refine wp_ret ?_
     refine ret1 (.bool (beatB F xs)) rfl ?_ rfl ?_
     · refine (resT (v := .bool true) (by kernel_rfl)).trans ?_
       refine congrArg Value.bool ?_
       first | exact (beatB_0 hn_ (by assumption)).symm | exact (beatB_t hn_ (by assumption) (fun j hj => hall j (by omega))).symm | exact (beatB_f hn_ i (by omega) (btC_1 (by assumption))).symm | exact (beatB_f hn_ i (by omega) (btC_2 (by assumption))).symm | exact (beatB_f hn_ i (by omega) (btC_3 (dF (by assumption)))).symm
     exact ⟨rfl, HL1⟩


--# l05Ok_any
theorem l05Ok_any (F : Fld) (hF : F.wf) (b : Nat) (t : TypeId) (xs : List Int) (n b2 cap : Nat) (cs : Array Value) (hS : SlI cs n cap .i16 xs) (hn : n ≤ 1048576) (hw16 : ∀ i, -32768 ≤ atI xs i ∧ atI xs i ≤ 32767) (w : World) (hb : Blk w b t F.cells) (hb2 : Blk w b2 24 cs) :
 Calls Try.prog 89 #[.pointer (some ⟨b, 0, none⟩), .slice (some ⟨b2, 0, none⟩) n cap] w fun e w' => e = .returned (.bool (okB F && beatB F xs)) ∧ Ext w w' := by
 have hn_ := hS.len
 refine calls_of_wp Try.func89 rfl ?_
 refine wp_frame (a' := ⟨#[.pointer (some ⟨b, 0, none⟩), .slice (some ⟨b2, 0, none⟩) n cap, undef, undef, undef, undef, undef, undef, undef, undef, undef, undef, undef, undef, undef, undef, undef, undef, undef, undef, undef, undef, undef, undef, undef, undef, undef, undef, undef, undef, undef, undef, undef, undef, undef, undef, undef, undef, undef, undef, undef, undef, undef, undef, undef, undef, undef, undef, undef, undef, undef, undef, undef, undef, undef, undef, undef, undef], []⟩) (by kernel_rfl) ?_
 refine wsr ?_
 refine wv (.bool false) ?_
 refine wpList_nil (then_normal ?_)
 refine wp_seq ?_
 refine wsr ?_
 refine wv (.pointer (some ⟨b, 0, none⟩)) ?_
 refine wcl (l01Ok_any F hF b _ _ hb) ?_
 intro w1 E1
 refine wv (.bool (!(okB F))) ?_
 refine wv (.bool (!(okB F))) ?_
 refine split_bool (okB F) (fun h1 => ?_) (fun h1 => ?_)
 · skip
   refine wbl 10 false (bnT h1) ?_
   refine wv (.slice (some ⟨b2, 0, none⟩) n cap) ?_
   refine wv (.int .i64 (n : Int)) ?_
   refine wcl (l00In_any (n : Int) 1 40 _) ?_
   intro w2 E2
   refine wv (.bool (!(inB (n : Int) 1 40))) ?_
   refine wv (.bool (!(inB (n : Int) 1 40))) ?_
   refine wpList_nil (then_normal ?_)
   have H1 := ((Ext.refl w).trans E1).trans E2
   refine wsplit (!(inB (n : Int) 1 40)) (fun h2 => ?_) (fun h2 => ?_)
   · skip
     replace h2 := nbT h2
     have h2d := inF h2
     refine wsr ?_
     refine wv (.bool false) ?_
     refine wpList_nil (then_normal ?_)
     refine wp_ret ?_
     refine then_ret ?_
     refine ret1 (.bool (okB F && beatB F xs)) rfl ?_ rfl ?_
     · refine (resT (v := .bool false) (by kernel_rfl)).trans ?_
       refine congrArg Value.bool ?_
       first | (rw [show okB F = false by assumption]; rfl) | (rw [beatB_0 hn_ (by assumption), Bool.and_false]) | (rw [show okB F = true by assumption, beatB_w hn_ (by assumption) (fun j hj => hall j (by omega))]; rfl) | (rw [beatB_f hn_ i (by omega) (btC_1 (by assumption)), Bool.and_false]) | (rw [beatB_f hn_ i (by omega) (btC_2 (wayB_1 (by assumption))), Bool.and_false]) | (rw [beatB_f hn_ i (by omega) (btC_3 (by rw [sqr_comm]; exact Int.not_le.2 (dT (by assumption)))), Bool.and_false])
     exact ⟨rfl, H1⟩
   · skip
     replace h2 := nbF h2
     have h2d := inT h2
     refine wp_skip ?_
     refine then_normal ?_
     refine wp_seq ?_
     refine wsr ?_
     refine wv (.int .i64 0) ?_
     refine wpList_nil (then_normal ?_)
     refine wp_block ?_
     replace hb := (hb.ext E1).ext E2
     replace hb2 := (hb2.ext E1).ext E2
     refine wp_loop_k (fun m1 a wl1 => ∃ (i : Nat), m1 = n - i ∧ i ≤ n ∧ (∀ j, j < i → wayB F (atI xs j) = true ∧ sqr (atI xs (prv n j)) (atI xs j) ≤ 1) ∧ Ext w wl1 ∧ Blk wl1 b t F.cells ∧ Blk wl1 b2 24 cs ∧ (∃ J1 : Nat → Value, a = ⟨#[.pointer (some ⟨b, 0, none⟩), .slice (some ⟨b2, 0, none⟩) n cap, undef, undef, J1 4, .int .i64 (i : Int), J1 6, .pointer (some ⟨b, 0, none⟩), .bool (okB F), .bool (!(okB F)), .bool false, .slice (some ⟨b2, 0, none⟩) n cap, .int .i64 (n : Int), .bool (inB (n : Int) 1 40), .bool (!(inB (n : Int) 1 40)), .bool (!(inB (n : Int) 1 40)), J1 16, J1 17, J1 18, J1 19, J1 20, J1 21, J1 22, J1 23, J1 24, J1 25, J1 26, J1 27, J1 28, J1 29, J1 30, J1 31, J1 32, J1 33, J1 34, J1 35, J1 36, J1 37, J1 38, J1 39, J1 40, J1 41, J1 42, J1 43, J1 44, J1 45, J1 46, J1 47, J1 48, J1 49, J1 50, J1 51, J1 52, J1 53, J1 54, J1 55, J1 56, J1 57], []⟩)) (n) ?_ ?_
     · refine ⟨0, rfl, ?_, ?_, H1, hb, hb2, exJ (by kernel_rfl)⟩
       · omega
       · intro j hj; omega
     intro m1 a wl1 hI
     obtain ⟨i, rfl, hi_, hall, HL1, hb, hb2, J1, rfl⟩ := hI
     have wi_ := hw16 i
     have wp_ := hw16 (prv n i)
     have ep_ : (((i : Int) + (n : Int) - 1) % (n : Int)).toNat = prv n i := rfl
     refine wp_seq ?_
     refine wsr ?_
     refine wv (.int .i64 (i : Int)) ?_
     refine wv (.slice (some ⟨b2, 0, none⟩) n cap) ?_
     refine wv (.int .i64 (n : Int)) ?_
     refine wv (.bool (decide ((i : Int) < (n : Int)))) ?_
     refine wpList_nil (then_normal ?_)
     refine wsplit (decide ((i : Int) < (n : Int))) (fun h3 => ?_) (fun h3 => ?_)
     · skip
       have h3d := dT h3
       refine wp_skip ?_
       refine then_normal ?_
       refine wp_seq ?_
       refine wp_block ?_
       refine wsr ?_
       refine wv (.slice (some ⟨b2, 0, none⟩) n cap) ?_
       refine wv (.int .i64 (i : Int)) ?_
       refine wv (.slice (some ⟨b2, 0, none⟩) n cap) ?_
       refine wv (.int .i64 (n : Int)) ?_
       refine wi64 ((i : Int) + (n : Int)) ?_
       refine wi64 (((i : Int) + (n : Int)) - 1) ?_
       refine wv (.slice (some ⟨b2, 0, none⟩) n cap) ?_
       refine wv (.int .i64 (n : Int)) ?_
       have em1 := Int.emod_nonneg (((i : Int) + (n : Int)) - 1) (show (n : Int) ≠ 0 by omega)
       have em2 := Int.emod_lt_of_pos (((i : Int) + (n : Int)) - 1) (show 0 < (n : Int) by omega)
       refine wremz .i64 (((i : Int) + (n : Int)) - 1) (n : Int) ?_
       refine wsix1z b2 0 n cap ((((i : Int) + (n : Int)) - 1) % (n : Int)) .i64 slit_impl_Beat ?_
       refine wld b2 (0 + ((((i : Int) + (n : Int)) - 1) % (n : Int)).toNat) scal_int16 (hb2.get (SlI.get hS (by omega))) ?_
       have lw1 := hw16 ((((((i : Int) + (n : Int)) - 1) % (n : Int)).toNat))
       refine wi64 (atI xs (((((i : Int) + (n : Int)) - 1) % (n : Int)).toNat)) ?_
       refine wv (.int .i64 (atI xs (((((i : Int) + (n : Int)) - 1) % (n : Int)).toNat))) ?_
       refine wpList_nil (then_normal ?_)
       refine wsr ?_
       refine wv (.pointer (some ⟨b, 0, none⟩)) ?_
       refine wv (.slice (some ⟨b2, 0, none⟩) n cap) ?_
       refine wv (.int .i64 (i : Int)) ?_
       refine wsix1 b2 0 n cap i .i64 slit_impl_Beat ?_
       refine wld b2 (0 + i) scal_int16 (hb2.get (SlI.get hS (by omega))) ?_
       have lw2 := hw16 (i)
       refine wi64 (atI xs i) ?_
       refine wcl (l05Walk_any F hF b _ (atI xs i) _ hb) ?_
       intro w3 E3
       refine wv (.bool (!(wayB F (atI xs i)))) ?_
       refine wv (.bool (!(wayB F (atI xs i)))) ?_
       refine split_bool (wayB F (atI xs i)) (fun h4 => ?_) (fun h4 => ?_)
       · skip
         refine wbl 42 false (bnT h4) ?_
         have h4i := wayB_is h4
         have h4d := isB_true.1 h4i
         refine wv (.pointer (some ⟨b, 0, none⟩)) ?_
         refine wv (.int .i64 (atI xs (((((i : Int) + (n : Int)) - 1) % (n : Int)).toNat))) ?_
         replace hb := hb.ext E3
         refine wcl (l01Is_any F hF b _ (atI xs (((((i : Int) + (n : Int)) - 1) % (n : Int)).toNat)) _ hb) ?_
         intro w4 E4
         refine wv (.bool (!(isB F (atI xs (((((i : Int) + (n : Int)) - 1) % (n : Int)).toNat))))) ?_
         refine wv (.bool (!(isB F (atI xs (((((i : Int) + (n : Int)) - 1) % (n : Int)).toNat))))) ?_
         refine wv (.bool (!(isB F (atI xs (((((i : Int) + (n : Int)) - 1) % (n : Int)).toNat))))) ?_
         have H2 := (HL1.trans E3).trans E4
         refine split_bool (isB F (atI xs (((((i : Int) + (n : Int)) - 1) % (n : Int)).toNat))) (fun h5 => ?_) (fun h5 => ?_)
         · skip
           refine wbl 48 false (bnT h5) ?_
           have h5d := isB_true.1 h5
           refine wv (.int .i64 (atI xs (((((i : Int) + (n : Int)) - 1) % (n : Int)).toNat))) ?_
           refine wv (.slice (some ⟨b2, 0, none⟩) n cap) ?_
           refine wv (.int .i64 (i : Int)) ?_
           refine wsix1 b2 0 n cap i .i64 slit_impl_Beat ?_
           replace hb2 := (hb2.ext E3).ext E4
           refine wld b2 (0 + i) scal_int16 (hb2.get (SlI.get hS (by omega))) ?_
           have lw3 := hw16 (i)
           refine wi64 (atI xs i) ?_
           refine wcl (l01Square_any (atI xs (((((i : Int) + (n : Int)) - 1) % (n : Int)).toNat)) (atI xs i) (by omega) (by omega) _) ?_
           intro w5 E5
           refine wv (.bool (decide (1 < sqr (atI xs (((((i : Int) + (n : Int)) - 1) % (n : Int)).toNat)) (atI xs i)))) ?_
           refine wv (.bool (decide (1 < sqr (atI xs (((((i : Int) + (n : Int)) - 1) % (n : Int)).toNat)) (atI xs i)))) ?_
           refine wpList_nil (then_normal ?_)
           refine wp_frame (a' := ⟨#[.pointer (some ⟨b, 0, none⟩), .slice (some ⟨b2, 0, none⟩) n cap, undef, undef, J1 4, .int .i64 (i : Int), .int .i64 (atI xs (((((i : Int) + (n : Int)) - 1) % (n : Int)).toNat)), .pointer (some ⟨b, 0, none⟩), .bool (okB F), .bool (!(okB F)), .bool false, .slice (some ⟨b2, 0, none⟩) n cap, .int .i64 (n : Int), .bool (inB (n : Int) 1 40), .bool (!(inB (n : Int) 1 40)), .bool (!(inB (n : Int) 1 40)), .int .i64 (i : Int), .slice (some ⟨b2, 0, none⟩) n cap, .int .i64 (n : Int), .bool (decide ((i : Int) < (n : Int))), J1 20, J1 21, .slice (some ⟨b2, 0, none⟩) n cap, .int .i64 (i : Int), .slice (some ⟨b2, 0, none⟩) n cap, .int .i64 (n : Int), .int .i64 ((i : Int) + (n : Int)), .int .i64 (((i : Int) + (n : Int)) - 1), .slice (some ⟨b2, 0, none⟩) n cap, .int .i64 (n : Int), .int .i64 ((((i : Int) + (n : Int)) - 1) % (n : Int)), .pointer (some ⟨b2, 0 + ((((i : Int) + (n : Int)) - 1) % (n : Int)).toNat, none⟩), .int .i16 (atI xs (((((i : Int) + (n : Int)) - 1) % (n : Int)).toNat)), .int .i64 (atI xs (((((i : Int) + (n : Int)) - 1) % (n : Int)).toNat)), .pointer (some ⟨b, 0, none⟩), .slice (some ⟨b2, 0, none⟩) n cap, .int .i64 (i : Int), .pointer (some ⟨b2, 0 + i, none⟩), .int .i16 (atI xs i), .int .i64 (atI xs i), .bool (wayB F (atI xs i)), .bool (!(wayB F (atI xs i))), .bool false, .pointer (some ⟨b, 0, none⟩), .int .i64 (atI xs (((((i : Int) + (n : Int)) - 1) % (n : Int)).toNat)), .bool (isB F (atI xs (((((i : Int) + (n : Int)) - 1) % (n : Int)).toNat))), .bool (!(isB F (atI xs (((((i : Int) + (n : Int)) - 1) % (n : Int)).toNat)))), .bool (!(isB F (atI xs (((((i : Int) + (n : Int)) - 1) % (n : Int)).toNat)))), .bool false, .int .i64 (atI xs (((((i : Int) + (n : Int)) - 1) % (n : Int)).toNat)), .slice (some ⟨b2, 0, none⟩) n cap, .int .i64 (i : Int), .pointer (some ⟨b2, 0 + i, none⟩), .int .i16 (atI xs i), .int .i64 (atI xs i), .int .i64 (sqr (atI xs (((((i : Int) + (n : Int)) - 1) % (n : Int)).toNat)) (atI xs i)), .bool (decide (1 < sqr (atI xs (((((i : Int) + (n : Int)) - 1) % (n : Int)).toNat)) (atI xs i))), .bool (decide (1 < sqr (atI xs (((((i : Int) + (n : Int)) - 1) % (n : Int)).toNat)) (atI xs i)))], []⟩) (by kernel_rfl) ?_
           refine wsplit (decide (1 < sqr (atI xs (((((i : Int) + (n : Int)) - 1) % (n : Int)).toNat)) (atI xs i))) (fun h6 => ?_) (fun h6 => ?_)
           · skip
             have h6d := dT h6
             refine wsr ?_
             refine wv (.bool false) ?_
             refine wpList_nil (then_normal ?_)
             refine wp_ret ?_
             refine block_ret (then_ret (then_ret (block_ret (then_ret ?_))))
             have H3 := H2.trans E5
             refine ret1 (.bool (okB F && beatB F xs)) rfl ?_ rfl ?_
             · refine (resT (v := .bool false) (by kernel_rfl)).trans ?_
               refine congrArg Value.bool ?_
               first | (rw [show okB F = false by assumption]; rfl) | (rw [beatB_0 hn_ (by assumption), Bool.and_false]) | (rw [show okB F = true by assumption, beatB_w hn_ (by assumption) (fun j hj => hall j (by omega))]; rfl) | (rw [beatB_f hn_ i (by omega) (btC_1 (by assumption)), Bool.and_false]) | (rw [beatB_f hn_ i (by omega) (btC_2 (wayB_1 (by assumption))), Bool.and_false]) | (rw [beatB_f hn_ i (by omega) (btC_3 (by rw [sqr_comm]; exact Int.not_le.2 (dT (by assumption)))), Bool.and_false])
             exact ⟨rfl, H3⟩
           · skip
             have h6d := dF h6
             refine wp_skip ?_
             refine block_normal (then_normal ?_)
             refine wp_region_lit ?_
             refine wv (.int .i64 (i : Int)) ?_
             refine wi64 ((i : Int) + 1) ?_
             refine wv (.int .i64 ((i : Int) + 1)) ?_
             refine wpList_nil (then_normal ?_)
             replace hb := (hb.ext E4).ext E5
             replace hb2 := hb2.ext E5
             have H4 := H2.trans E5
             refine ⟨_, ?_, i + 1, rfl, ?_, ?_, H4, hb, hb2, exJ (by kernel_rfl)⟩
             · omega
             · omega
             · intro j hj
               rcases (by omega : j < i ∨ j = i) with h_ | h_
               · exact hall j h_
               · subst h_; exact ⟨by assumption, Int.not_lt.1 (dF (by assumption))⟩
         · skip
           refine wbl 48 true (bnF h5) ?_
           refine wsk ?_
           refine wsk ?_
           refine wsk ?_
           refine wsk ?_
           refine wsk ?_
           refine wsk ?_
           refine wsk ?_
           refine wsk ?_
           refine wv (.bool true) ?_
           refine wpList_nil (then_normal ?_)
           refine wp_frame (a' := ⟨#[.pointer (some ⟨b, 0, none⟩), .slice (some ⟨b2, 0, none⟩) n cap, undef, undef, J1 4, .int .i64 (i : Int), .int .i64 (atI xs (((((i : Int) + (n : Int)) - 1) % (n : Int)).toNat)), .pointer (some ⟨b, 0, none⟩), .bool (okB F), .bool (!(okB F)), .bool false, .slice (some ⟨b2, 0, none⟩) n cap, .int .i64 (n : Int), .bool (inB (n : Int) 1 40), .bool (!(inB (n : Int) 1 40)), .bool (!(inB (n : Int) 1 40)), .int .i64 (i : Int), .slice (some ⟨b2, 0, none⟩) n cap, .int .i64 (n : Int), .bool (decide ((i : Int) < (n : Int))), J1 20, J1 21, .slice (some ⟨b2, 0, none⟩) n cap, .int .i64 (i : Int), .slice (some ⟨b2, 0, none⟩) n cap, .int .i64 (n : Int), .int .i64 ((i : Int) + (n : Int)), .int .i64 (((i : Int) + (n : Int)) - 1), .slice (some ⟨b2, 0, none⟩) n cap, .int .i64 (n : Int), .int .i64 ((((i : Int) + (n : Int)) - 1) % (n : Int)), .pointer (some ⟨b2, 0 + ((((i : Int) + (n : Int)) - 1) % (n : Int)).toNat, none⟩), .int .i16 (atI xs (((((i : Int) + (n : Int)) - 1) % (n : Int)).toNat)), .int .i64 (atI xs (((((i : Int) + (n : Int)) - 1) % (n : Int)).toNat)), .pointer (some ⟨b, 0, none⟩), .slice (some ⟨b2, 0, none⟩) n cap, .int .i64 (i : Int), .pointer (some ⟨b2, 0 + i, none⟩), .int .i16 (atI xs i), .int .i64 (atI xs i), .bool (wayB F (atI xs i)), .bool (!(wayB F (atI xs i))), .bool false, .pointer (some ⟨b, 0, none⟩), .int .i64 (atI xs (((((i : Int) + (n : Int)) - 1) % (n : Int)).toNat)), .bool (isB F (atI xs (((((i : Int) + (n : Int)) - 1) % (n : Int)).toNat))), .bool (!(isB F (atI xs (((((i : Int) + (n : Int)) - 1) % (n : Int)).toNat)))), .bool (!(isB F (atI xs (((((i : Int) + (n : Int)) - 1) % (n : Int)).toNat)))), .bool true, undef, undef, undef, undef, undef, undef, undef, undef, .bool true], []⟩) (by kernel_rfl) ?_
           refine wct ?_
           refine wsr ?_
           refine wv (.bool false) ?_
           refine wpList_nil (then_normal ?_)
           refine wp_ret ?_
           refine block_ret (then_ret (then_ret (block_ret (then_ret ?_))))
           refine ret1 (.bool (okB F && beatB F xs)) rfl ?_ rfl ?_
           · refine (resT (v := .bool false) (by kernel_rfl)).trans ?_
             refine congrArg Value.bool ?_
             first | (rw [show okB F = false by assumption]; rfl) | (rw [beatB_0 hn_ (by assumption), Bool.and_false]) | (rw [show okB F = true by assumption, beatB_w hn_ (by assumption) (fun j hj => hall j (by omega))]; rfl) | (rw [beatB_f hn_ i (by omega) (btC_1 (by assumption)), Bool.and_false]) | (rw [beatB_f hn_ i (by omega) (btC_2 (wayB_1 (by assumption))), Bool.and_false]) | (rw [beatB_f hn_ i (by omega) (btC_3 (by rw [sqr_comm]; exact Int.not_le.2 (dT (by assumption)))), Bool.and_false])
           exact ⟨rfl, H2⟩
       · skip
         refine wbl 42 true (bnF h4) ?_
         refine wsk ?_
         refine wsk ?_
         refine wsk ?_
         refine wsk ?_
         refine wv (.bool true) ?_
         refine wv (.bool true) ?_
         refine wsk ?_
         refine wsk ?_
         refine wsk ?_
         refine wsk ?_
         refine wsk ?_
         refine wsk ?_
         refine wsk ?_
         refine wsk ?_
         refine wv (.bool true) ?_
         refine wpList_nil (then_normal ?_)
         refine wp_frame (a' := ⟨#[.pointer (some ⟨b, 0, none⟩), .slice (some ⟨b2, 0, none⟩) n cap, undef, undef, J1 4, .int .i64 (i : Int), .int .i64 (atI xs (((((i : Int) + (n : Int)) - 1) % (n : Int)).toNat)), .pointer (some ⟨b, 0, none⟩), .bool (okB F), .bool (!(okB F)), .bool false, .slice (some ⟨b2, 0, none⟩) n cap, .int .i64 (n : Int), .bool (inB (n : Int) 1 40), .bool (!(inB (n : Int) 1 40)), .bool (!(inB (n : Int) 1 40)), .int .i64 (i : Int), .slice (some ⟨b2, 0, none⟩) n cap, .int .i64 (n : Int), .bool (decide ((i : Int) < (n : Int))), J1 20, J1 21, .slice (some ⟨b2, 0, none⟩) n cap, .int .i64 (i : Int), .slice (some ⟨b2, 0, none⟩) n cap, .int .i64 (n : Int), .int .i64 ((i : Int) + (n : Int)), .int .i64 (((i : Int) + (n : Int)) - 1), .slice (some ⟨b2, 0, none⟩) n cap, .int .i64 (n : Int), .int .i64 ((((i : Int) + (n : Int)) - 1) % (n : Int)), .pointer (some ⟨b2, 0 + ((((i : Int) + (n : Int)) - 1) % (n : Int)).toNat, none⟩), .int .i16 (atI xs (((((i : Int) + (n : Int)) - 1) % (n : Int)).toNat)), .int .i64 (atI xs (((((i : Int) + (n : Int)) - 1) % (n : Int)).toNat)), .pointer (some ⟨b, 0, none⟩), .slice (some ⟨b2, 0, none⟩) n cap, .int .i64 (i : Int), .pointer (some ⟨b2, 0 + i, none⟩), .int .i16 (atI xs i), .int .i64 (atI xs i), .bool (wayB F (atI xs i)), .bool (!(wayB F (atI xs i))), .bool true, undef, undef, undef, undef, .bool true, .bool true, undef, undef, undef, undef, undef, undef, undef, undef, .bool true], []⟩) (by kernel_rfl) ?_
         refine wct ?_
         refine wsr ?_
         refine wv (.bool false) ?_
         refine wpList_nil (then_normal ?_)
         refine wp_ret ?_
         refine block_ret (then_ret (then_ret (block_ret (then_ret ?_))))
         have H5 := HL1.trans E3
         refine ret1 (.bool (okB F && beatB F xs)) rfl ?_ rfl ?_
         · refine (resT (v := .bool false) (by kernel_rfl)).trans ?_
           refine congrArg Value.bool ?_
           first | (rw [show okB F = false by assumption]; rfl) | (rw [beatB_0 hn_ (by assumption), Bool.and_false]) | (rw [show okB F = true by assumption, beatB_w hn_ (by assumption) (fun j hj => hall j (by omega))]; rfl) | (rw [beatB_f hn_ i (by omega) (btC_1 (by assumption)), Bool.and_false]) | (rw [beatB_f hn_ i (by omega) (btC_2 (wayB_1 (by assumption))), Bool.and_false]) | (rw [beatB_f hn_ i (by omega) (btC_3 (by rw [sqr_comm]; exact Int.not_le.2 (dT (by assumption)))), Bool.and_false])
         exact ⟨rfl, H5⟩
     · skip
       have h3d := dF h3
       refine wp_exit ?_
       refine then_exit ?_
       refine then_exit ?_
       refine block_exit ?_
       refine then_normal ?_
       refine wsr ?_
       refine wv (.bool true) ?_
       refine wpList_nil (then_normal ?_)
       refine wp_ret ?_
       refine ret1 (.bool (okB F && beatB F xs)) rfl ?_ rfl ?_
       · refine (resT (v := .bool true) (by kernel_rfl)).trans ?_
         refine congrArg Value.bool ?_
         first | (rw [show okB F = false by assumption]; rfl) | (rw [beatB_0 hn_ (by assumption), Bool.and_false]) | (rw [show okB F = true by assumption, beatB_w hn_ (by assumption) (fun j hj => hall j (by omega))]; rfl) | (rw [beatB_f hn_ i (by omega) (btC_1 (by assumption)), Bool.and_false]) | (rw [beatB_f hn_ i (by omega) (btC_2 (wayB_1 (by assumption))), Bool.and_false]) | (rw [beatB_f hn_ i (by omega) (btC_3 (by rw [sqr_comm]; exact Int.not_le.2 (dT (by assumption)))), Bool.and_false])
       exact ⟨rfl, HL1⟩
 · skip
   refine wbl 10 true (bnF h1) ?_
   refine wsk ?_
   refine wsk ?_
   refine wsk ?_
   refine wsk ?_
   refine wv (.bool true) ?_
   refine wpList_nil (then_normal ?_)
   refine wct ?_
   refine wsr ?_
   refine wv (.bool false) ?_
   refine wpList_nil (then_normal ?_)
   refine wp_ret ?_
   refine then_ret ?_
   have H6 := (Ext.refl w).trans E1
   refine ret1 (.bool (okB F && beatB F xs)) rfl ?_ rfl ?_
   · refine (resT (v := .bool false) (by kernel_rfl)).trans ?_
     refine congrArg Value.bool ?_
     first | (rw [show okB F = false by assumption]; rfl) | (rw [beatB_0 hn_ (by assumption), Bool.and_false]) | (rw [show okB F = true by assumption, beatB_w hn_ (by assumption) (fun j hj => hall j (by omega))]; rfl) | (rw [beatB_f hn_ i (by omega) (btC_1 (by assumption)), Bool.and_false]) | (rw [beatB_f hn_ i (by omega) (btC_2 (wayB_1 (by assumption))), Bool.and_false]) | (rw [beatB_f hn_ i (by omega) (btC_3 (by rw [sqr_comm]; exact Int.not_le.2 (dT (by assumption)))), Bool.and_false])
   exact ⟨rfl, H6⟩


--# sValidBeat_any
theorem sValidBeat_any (F : Fld) (hF : F.wf) (xs : List Int) (n b2 cap : Nat) (cs : Array Value) (hS : SlI cs n cap .i16 xs) (hn : n ≤ 1048576) (hw16 : ∀ i, -32768 ≤ atI xs i ∧ atI xs i ≤ 32767) (w : World) (hb2 : Blk w b2 24 cs) :
 Calls Try.prog 37 #[.agg F.cells, .slice (some ⟨b2, 0, none⟩) n cap] w fun e w' => e = .returned (.bool (okB F && beatB F xs)) ∧ Ext w w' := by
 have hn_ := hS.len
 refine calls_of_wp Try.func37 rfl ?_
 refine wp_frame (a' := ⟨#[.agg F.cells, .slice (some ⟨b2, 0, none⟩) n cap, undef, undef, undef, undef, undef], []⟩) (by kernel_rfl) ?_
 refine wsr ?_
 refine wbox F.cells ?_
 intro g1 w1 B1 E1 _
 refine wv (.bool false) ?_
 refine wpList_nil (then_normal ?_)
 refine wsr ?_
 refine wv (.slice (some ⟨b2, 0, none⟩) n cap) ?_
 replace hb2 := hb2.ext E1
 refine wcl (l05Ok_any F hF g1 _ xs n b2 cap cs hS (by omega) hw16 _ B1 hb2) ?_
 intro w2 E2
 refine wv (.bool (okB F && beatB F xs)) ?_
 refine wpList_nil (then_normal ?_)
 refine wp_ret ?_
 have H1 := ((Ext.refl w).trans E1).trans E2
 refine ret1 (.bool (okB F && beatB F xs)) rfl ?_ rfl ?_
 · exact resT (by kernel_rfl)
 exact ⟨rfl, H1⟩


--# iValidBeat_any
theorem iValidBeat_any (F : Fld) (hF : F.wf) (xs : List Int) (n b2 cap : Nat) (cs : Array Value) (hS : SlI cs n cap .i16 xs) (hn : n ≤ 1048576) (hw16 : ∀ i, -32768 ≤ atI xs i ∧ atI xs i ≤ 32767) (w : World) (hb2 : Blk w b2 24 cs) :
 Calls Try.prog 39 #[.agg F.cells, .slice (some ⟨b2, 0, none⟩) n cap] w fun e w' => e = .returned (.bool (okB F && beatB F xs)) ∧ Ext w w' := by
 have hn_ := hS.len
 refine calls_of_wp Try.func39 rfl ?_
 refine wp_frame (a' := ⟨#[.agg F.cells, .slice (some ⟨b2, 0, none⟩) n cap, undef, undef, undef, undef, undef, undef, undef, undef, undef], []⟩) (by kernel_rfl) ?_
 refine wsr ?_
 refine wbox F.cells ?_
 intro g1 w1 B1 E1 _
 refine wv (.bool false) ?_
 refine wpList_nil (then_normal ?_)
 refine wsr ?_
 refine wrow row_impl_Field B1 (by exact Fld.size_cells _) ?_
 refine wcl (iValidField_any F hF _) ?_
 intro w2 E2
 refine wv (.bool (okB F)) ?_
 have H1 := ((Ext.refl w).trans E1).trans E2
 refine split_bool (okB F) (fun h1 => ?_) (fun h1 => ?_)
 · skip
   refine wbl 7 true h1 ?_
   refine wv (.slice (some ⟨b2, 0, none⟩) n cap) ?_
   replace B1 := B1.ext E2
   replace hb2 := (hb2.ext E1).ext E2
   refine wcl (isBeat_any F hF g1 _ xs n b2 cap cs hS (by omega) hw16 _ B1 hb2) ?_
   intro w3 E3
   refine wv (.bool (beatB F xs)) ?_
   refine wv (.bool (beatB F xs)) ?_
   refine wpList_nil (then_normal ?_)
   refine wp_ret ?_
   have H2 := H1.trans E3
   refine ret1 (.bool (okB F && beatB F xs)) rfl ?_ rfl ?_
   · refine (resT (v := .bool (beatB F xs)) (by kernel_rfl)).trans ?_
     refine congrArg Value.bool ?_
     simp [*]
   exact ⟨rfl, H2⟩
 · skip
   refine wbl 7 false h1 ?_
   refine wsk ?_
   refine wsk ?_
   refine wv (.bool false) ?_
   refine wv (.bool false) ?_
   refine wpList_nil (then_normal ?_)
   refine wp_ret ?_
   refine ret1 (.bool (okB F && beatB F xs)) rfl ?_ rfl ?_
   · refine (resT (v := .bool false) (by kernel_rfl)).trans ?_
     refine congrArg Value.bool ?_
     simp [*]
   exact ⟨rfl, H1⟩


