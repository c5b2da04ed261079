/-
  Contracts: beats, covers. No conditions.
-/
import Derived.Test.YtldlaohefgianaaTy
import Derived.Test.YtldlaohefgianaaSl
import Derived.Test.YtldlaohefgianaaMth
import Derived.Test.YtldlaohefgianaaFn7
import Derived.Test.YtldlaohefgianaaSl2
namespace Go.Proofs.Ytldlaohefgianaa
open Go.RowKit
set_option linter.unusedSimpArgs false
set_option linter.unusedVariables false
set_option maxHeartbeats 4000000
set_option maxRecDepth 100000
attribute [local irreducible] wpList Code.wp
--# isWay_any
theorem isWay_any (F : Fld) (hF : F.wf) (b : Nat) (t : TypeId) (c : Int) (w : World) (hb : Blk w b t F.cells) :
 Calls Try.prog 62 #[.pointer (some ⟨b, 0, none⟩), .int .i64 c] w fun e w' => e = .returned (.bool (wayB F c)) ∧ Ext w w' := by
 refine calls_of_wp Try.func62 rfl ?_
 refine wp_frame (a' := ⟨#[.pointer (some ⟨b, 0, none⟩), .int .i64 c, undef, undef, undef, undef, undef, undef, undef, undef, undef, undef, undef, undef, undef, undef, undef, undef, undef, undef, undef, undef, undef, undef, undef, undef], []⟩) (by kernel_rfl) ?_
 refine wsr ?_
 refine wv (.bool false) ?_
 refine wpList_nil (then_normal ?_)
 refine wsr ?_
 refine wv (.pointer (some ⟨b, 0, none⟩)) ?_
 refine wv (.int .i64 c) ?_
 refine wcl (has_any F hF b _ c _ hb) ?_
 intro w1 E1
 refine wv (.bool (isB F c)) ?_
 refine split_bool (isB F c) (fun h1 => ?_) (fun h1 => ?_)
 · skip
   refine wbl 8 true h1 ?_
   have h1d := isB_true.1 h1
   refine wv (.pointer (some ⟨b, 0, none⟩)) ?_
   refine wv (.int .i64 c) ?_
   refine wv (.pointer (some ⟨b, 0, none⟩)) ?_
   refine wv (.pointer (some ⟨b, 2, none⟩)) ?_
   refine wix b 2 c .i64 arrt__100_uint8 ?_
   replace hb := hb.ext E1
   have ce1 := hF.k1 ((c).toNat) (by omega)
   refine wld b (2 + (c).toNat) scal_uint8 (hb.get (Fld.getk _ _ (by omega))) ?_
   refine wv (.bool ((F.k ((c).toNat)) == 0)) ?_
   refine wv (.bool ((F.k ((c).toNat)) == 0)) ?_
   refine split_bool ((F.k ((c).toNat)) == 0) (fun h2 => ?_) (fun h2 => ?_)
   · skip
     refine wbl 16 true h2 ?_
     have h2d := eT h2
     refine wsk ?_
     refine wsk ?_
     refine wsk ?_
     refine wsk ?_
     refine wsk ?_
     refine wsk ?_
     refine wsk ?_
     refine wv (.bool true) ?_
     refine wv (.bool true) ?_
     refine wv (.bool true) ?_
     refine wpList_nil (then_normal ?_)
     refine wp_ret ?_
     have H1 := (Ext.refl w).trans E1
     refine ret1 (.bool (wayB F c)) rfl ?_ rfl ?_
     · refine (resT (v := .bool true) (by kernel_rfl)).trans ?_
       refine congrArg Value.bool ?_
       first | exact (wayB_1 (by assumption)).symm | exact (wayB_2 (by assumption) (by assumption)).symm | exact (wayB_3 (by assumption) (by assumption)).symm
     exact ⟨rfl, H1⟩
   · skip
     refine wbl 16 false h2 ?_
     have h2d := eF h2
     refine wv (.pointer (some ⟨b, 0, none⟩)) ?_
     refine wv (.int .i64 c) ?_
     refine wv (.pointer (some ⟨b, 0, none⟩)) ?_
     refine wv (.pointer (some ⟨b, 2, none⟩)) ?_
     refine wix b 2 c .i64 arrt__100_uint8 ?_
     have ce2 := hF.k1 ((c).toNat) (by omega)
     refine wld b (2 + (c).toNat) scal_uint8 (hb.get (Fld.getk _ _ (by omega))) ?_
     refine wv (.bool ((F.k ((c).toNat)) == 2)) ?_
     refine wv (.bool ((F.k ((c).toNat)) == 2)) ?_
     refine wv (.bool ((F.k ((c).toNat)) == 2)) ?_
     refine wv (.bool ((F.k ((c).toNat)) == 2)) ?_
     refine wpList_nil (then_normal ?_)
     refine wp_ret ?_
     have H2 := (Ext.refl w).trans E1
     refine ret1 (.bool (wayB F c)) rfl ?_ rfl ?_
     · refine (resT (v := .bool ((F.k ((c).toNat)) == 2)) (by kernel_rfl)).trans ?_
       refine congrArg Value.bool ?_
       first | exact (wayB_1 (by assumption)).symm | exact (wayB_2 (by assumption) (by assumption)).symm | exact (wayB_3 (by assumption) (by assumption)).symm
     exact ⟨rfl, H2⟩
 · skip
   refine wbl 8 false h1 ?_
   refine wsk ?_
   refine wsk ?_
   refine wsk ?_
   refine wsk ?_
   refine wsk ?_
   refine wsk ?_
   refine wsk ?_
   refine wsk ?_
   refine wsk ?_
   refine wsk ?_
   refine wsk ?_
   refine wsk ?_
   refine wsk ?_
   refine wsk ?_
   refine wsk ?_
   refine wsk ?_
   refine wv (.bool false) ?_
   refine wv (.bool false) ?_
   refine wpList_nil (then_normal ?_)
   refine wp_ret ?_
   have H3 := (Ext.refl w).trans E1
   refine ret1 (.bool (wayB F c)) rfl ?_ rfl ?_
   · refine (resT (v := .bool false) (by kernel_rfl)).trans ?_
     refine congrArg Value.bool ?_
     first | exact (wayB_1 (by assumption)).symm | exact (wayB_2 (by assumption) (by assumption)).symm | exact (wayB_3 (by assumption) (by assumption)).symm
   exact ⟨rfl, H3⟩


--# l05Walk_any
theorem l05Walk_any (F : Fld) (hF : F.wf) (b : Nat) (t : TypeId) (c : Int) (w : World) (hb : Blk w b t F.cells) :
 Calls Try.prog 38 #[.pointer (some ⟨b, 0, none⟩), .int .i64 c] w fun e w' => e = .returned (.bool (wayB F c)) ∧ Ext w w' := by
 refine calls_of_wp Try.func38 rfl ?_
 refine wp_frame (a' := ⟨#[.pointer (some ⟨b, 0, none⟩), .int .i64 c, undef, undef, undef, undef, undef, undef, undef, undef, undef, undef, undef, undef, undef, undef, undef, undef, undef, undef, undef, undef, undef, undef, undef, undef], []⟩) (by kernel_rfl) ?_
 refine wsr ?_
 refine wv (.bool false) ?_
 refine wpList_nil (then_normal ?_)
 refine wsr ?_
 refine wv (.pointer (some ⟨b, 0, none⟩)) ?_
 refine wv (.int .i64 c) ?_
 refine wcl (l01Is_any F hF b _ c _ hb) ?_
 intro w1 E1
 refine wv (.bool (isB F c)) ?_
 refine split_bool (isB F c) (fun h1 => ?_) (fun h1 => ?_)
 · skip
   refine wbl 8 true h1 ?_
   have h1d := isB_true.1 h1
   refine wv (.pointer (some ⟨b, 0, none⟩)) ?_
   refine wv (.int .i64 c) ?_
   refine wv (.pointer (some ⟨b, 0, none⟩)) ?_
   refine wv (.pointer (some ⟨b, 2, none⟩)) ?_
   refine wix b 2 c .i64 arrt__100_uint8 ?_
   replace hb := hb.ext E1
   have ce1 := hF.k1 ((c).toNat) (by omega)
   refine wld b (2 + (c).toNat) scal_uint8 (hb.get (Fld.getk _ _ (by omega))) ?_
   refine wv (.bool ((F.k ((c).toNat)) == 0)) ?_
   refine wv (.bool ((F.k ((c).toNat)) == 0)) ?_
   refine split_bool ((F.k ((c).toNat)) == 0) (fun h2 => ?_) (fun h2 => ?_)
   · skip
     refine wbl 16 true h2 ?_
     have h2d := eT h2
     refine wsk ?_
     refine wsk ?_
     refine wsk ?_
     refine wsk ?_
     refine wsk ?_
     refine wsk ?_
     refine wsk ?_
     refine wv (.bool true) ?_
     refine wv (.bool true) ?_
     refine wv (.bool true) ?_
     refine wpList_nil (then_normal ?_)
     refine wp_ret ?_
     have H1 := (Ext.refl w).trans E1
     refine ret1 (.bool (wayB F c)) rfl ?_ rfl ?_
     · refine (resT (v := .bool true) (by kernel_rfl)).trans ?_
       refine congrArg Value.bool ?_
       first | exact (wayB_1 (by assumption)).symm | exact (wayB_2 (by assumption) (by assumption)).symm | exact (wayB_3 (by assumption) (by assumption)).symm
     exact ⟨rfl, H1⟩
   · skip
     refine wbl 16 false h2 ?_
     have h2d := eF h2
     refine wv (.pointer (some ⟨b, 0, none⟩)) ?_
     refine wv (.int .i64 c) ?_
     refine wv (.pointer (some ⟨b, 0, none⟩)) ?_
     refine wv (.pointer (some ⟨b, 2, none⟩)) ?_
     refine wix b 2 c .i64 arrt__100_uint8 ?_
     have ce2 := hF.k1 ((c).toNat) (by omega)
     refine wld b (2 + (c).toNat) scal_uint8 (hb.get (Fld.getk _ _ (by omega))) ?_
     refine wv (.bool ((F.k ((c).toNat)) == 2)) ?_
     refine wv (.bool ((F.k ((c).toNat)) == 2)) ?_
     refine wv (.bool ((F.k ((c).toNat)) == 2)) ?_
     refine wv (.bool ((F.k ((c).toNat)) == 2)) ?_
     refine wpList_nil (then_normal ?_)
     refine wp_ret ?_
     have H2 := (Ext.refl w).trans E1
     refine ret1 (.bool (wayB F c)) rfl ?_ rfl ?_
     · refine (resT (v := .bool ((F.k ((c).toNat)) == 2)) (by kernel_rfl)).trans ?_
       refine congrArg Value.bool ?_
       first | exact (wayB_1 (by assumption)).symm | exact (wayB_2 (by assumption) (by assumption)).symm | exact (wayB_3 (by assumption) (by assumption)).symm
     exact ⟨rfl, H2⟩
 · skip
   refine wbl 8 false h1 ?_
   refine wsk ?_
   refine wsk ?_
   refine wsk ?_
   refine wsk ?_
   refine wsk ?_
   refine wsk ?_
   refine wsk ?_
   refine wsk ?_
   refine wsk ?_
   refine wsk ?_
   refine wsk ?_
   refine wsk ?_
   refine wsk ?_
   refine wsk ?_
   refine wsk ?_
   refine wsk ?_
   refine wv (.bool false) ?_
   refine wv (.bool false) ?_
   refine wpList_nil (then_normal ?_)
   refine wp_ret ?_
   have H3 := (Ext.refl w).trans E1
   refine ret1 (.bool (wayB F c)) rfl ?_ rfl ?_
   · refine (resT (v := .bool false) (by kernel_rfl)).trans ?_
     refine congrArg Value.bool ?_
     first | exact (wayB_1 (by assumption)).symm | exact (wayB_2 (by assumption) (by assumption)).symm | exact (wayB_3 (by assumption) (by assumption)).symm
   exact ⟨rfl, H3⟩


--# areNear_any
theorem areNear_any (a : Int) (b : Int) (ha : 0 ≤ a ∧ a ≤ 1000) (hb : 0 ≤ b ∧ b ≤ 1000) (w : World) :
 Calls Try.prog 63 #[.int .i64 a, .int .i64 b] w fun e w' => e = .returned (.bool (decide (sqr a b ≤ 1))) ∧ Ext w w' := by
 refine calls_of_wp Try.func63 rfl ?_
 refine wp_frame (a' := ⟨#[.int .i64 a, .int .i64 b, undef, undef, undef, undef, undef, undef, undef], []⟩) (by kernel_rfl) ?_
 refine wsr ?_
 refine wv (.bool false) ?_
 refine wpList_nil (then_normal ?_)
 refine wsr ?_
 refine wv (.int .i64 a) ?_
 refine wv (.int .i64 b) ?_
 refine wcl (square_any a b (by omega) (by omega) _) ?_
 intro w1 E1
 refine wv (.bool (decide ((sqr a b) ≤ 1))) ?_
 refine wv (.bool (decide ((sqr a b) ≤ 1))) ?_
 refine wpList_nil (then_normal ?_)
 refine wp_ret ?_
 have H1 := (Ext.refl w).trans E1
 refine ret1 (.bool (decide (sqr a b ≤ 1))) rfl ?_ rfl ?_
 · refine (resT (v := .bool (decide ((sqr a b) ≤ 1))) (by kernel_rfl)).trans ?_
   refine congrArg Value.bool ?_
   rfl
 exact ⟨rfl, H1⟩


--# isBeat_any
theorem isBeat_any (F : Fld) (hF : F.wf) (b : Nat) (t : TypeId) (xs : List Int) (n b2 cap : Nat) (cs : Array Value) (hS : SlI cs n cap .i16 xs) (hn : n ≤ 1048576) (hw16 : ∀ i, -32768 ≤ atI xs i ∧ atI xs i ≤ 32767) (w : World) (hb : Blk w b t F.cells) (hb2 : Blk w b2 24 cs) :
 Calls Try.prog 42 #[.pointer (some ⟨b, 0, none⟩), .slice (some ⟨b2, 0, none⟩) n cap] w fun e w' => e = .returned (.bool (beatB F xs)) ∧ Ext w w' := by
 have hn_ := hS.len
 refine calls_of_wp Try.func42 rfl ?_
 refine wp_frame (a' := ⟨#[.pointer (some ⟨b, 0, none⟩), .slice (some ⟨b2, 0, none⟩) n cap, undef, undef, undef, undef, undef, undef, undef, undef, undef, undef, undef, undef, undef, undef, undef, undef, undef, undef, undef, undef, undef, undef, undef, undef, undef, undef, undef, undef, undef, undef, undef, undef, undef, undef, undef, undef, undef, undef, undef, undef, undef, undef, undef, undef, undef, undef, undef, undef, undef], []⟩) (by kernel_rfl) ?_
 refine wsr ?_
 refine wv (.bool false) ?_
 refine wpList_nil (then_normal ?_)
 refine wp_seq ?_
 refine wsr ?_
 refine wv (.slice (some ⟨b2, 0, none⟩) n cap) ?_
 refine wv (.int .i64 (n : Int)) ?_
 refine wcl (within_any (n : Int) 1 40 _) ?_
 intro w1 E1
 refine wv (.bool (!(inB (n : Int) 1 40))) ?_
 refine wpList_nil (then_normal ?_)
 refine wsplit (!(inB (n : Int) 1 40)) (fun h1 => ?_) (fun h1 => ?_)
 · skip
   replace h1 := nbT h1
   have h1d := inF h1
   refine wsr ?_
   refine wv (.bool false) ?_
   refine wpList_nil (then_normal ?_)
   refine wp_ret ?_
   refine then_ret ?_
   have H1 := (Ext.refl w).trans E1
   refine ret1 (.bool (beatB F xs)) rfl ?_ rfl ?_
   · refine (resT (v := .bool false) (by kernel_rfl)).trans ?_
     refine congrArg Value.bool ?_
     first | exact (beatB_0 hn_ (by assumption)).symm | exact (beatB_t hn_ (by assumption) (fun j hj => hall j (by omega))).symm | exact (beatB_f hn_ i (by omega) (btC_1 (by assumption))).symm | exact (beatB_f hn_ i (by omega) (btC_2 (by assumption))).symm | exact (beatB_f hn_ i (by omega) (btC_3 (dF (by assumption)))).symm
   exact ⟨rfl, H1⟩
 · skip
   replace h1 := nbF h1
   have h1d := inT h1
   refine wp_skip ?_
   refine then_normal ?_
   refine wp_seq ?_
   refine wsr ?_
   refine wv (.slice (some ⟨b2, 0, none⟩) n cap) ?_
   refine wv (.int .i64 (n : Int)) ?_
   refine wv (.int .i64 0) ?_
   refine wpList_nil (then_normal ?_)
   refine wp_block ?_
   replace hb := hb.ext E1
   replace hb2 := hb2.ext E1
   have H2 := (Ext.refl w).trans E1
   refine wp_loop_k (fun m1 a wl1 => ∃ (i : Nat), m1 = n - i ∧ i ≤ n ∧ (∀ j, j < i → btC F xs n j = true) ∧ Ext w wl1 ∧ Blk wl1 b t F.cells ∧ Blk wl1 b2 24 cs ∧ (∃ J1 : Nat → Value, a = ⟨#[.pointer (some ⟨b, 0, none⟩), .slice (some ⟨b2, 0, none⟩) n cap, undef, undef, J1 4, J1 5, J1 6, J1 7, .slice (some ⟨b2, 0, none⟩) n cap, .int .i64 (n : Int), .bool (inB (n : Int) 1 40), .bool (!(inB (n : Int) 1 40)), .slice (some ⟨b2, 0, none⟩) n cap, .int .i64 (n : Int), .int .i64 (i : Int), J1 15, J1 16, J1 17, J1 18, J1 19, J1 20, J1 21, J1 22, J1 23, J1 24, J1 25, J1 26, J1 27, J1 28, J1 29, J1 30, J1 31, J1 32, J1 33, J1 34, J1 35, J1 36, J1 37, J1 38, J1 39, J1 40, J1 41, J1 42, J1 43, J1 44, J1 45, J1 46, J1 47, J1 48, J1 49, J1 50], []⟩)) (n) ?_ ?_
   · refine ⟨0, rfl, ?_, ?_, H2, hb, hb2, exJ (by kernel_rfl)⟩
     · omega
     · intro j hj; omega
   intro m1 a wl1 hI
   obtain ⟨i, rfl, hi_, hall, HL1, hb, hb2, J1, rfl⟩ := hI
   have wi_ := hw16 i
   have wp_ := hw16 (prv n i)
   have ep_ : (((i : Int) + (n : Int) - 1) % (n : Int)).toNat = prv n i := rfl
   refine wsr ?_
   refine wv (.bool (decide ((i : Int) < (n : Int)))) ?_
   refine wpList_nil (then_normal ?_)
   refine wp_seq ?_
   refine wsplit (decide ((i : Int) < (n : Int))) (fun h2 => ?_) (fun h2 => ?_)
   · skip
     have h2d := dT h2
     refine wp_skip ?_
     refine then_normal ?_
     refine wp_seq ?_
     refine wp_block ?_
     refine wsr ?_
     refine wv (.int .i64 (i : Int)) ?_
     refine wsix1 b2 0 n cap i .i64 slit_impl_Beat ?_
     refine wld b2 (0 + i) scal_int16 (hb2.get (SlI.get hS (by omega))) ?_
     have lw1 := hw16 (i)
     refine wv (.int .i64 (i : Int)) ?_
     refine wv (.int .i16 (atI xs i)) ?_
     refine wpList_nil (then_normal ?_)
     refine wsr ?_
     refine wv (.slice (some ⟨b2, 0, none⟩) n cap) ?_
     refine wv (.int .i64 (i : Int)) ?_
     refine wv (.slice (some ⟨b2, 0, none⟩) n cap) ?_
     refine wv (.int .i64 (n : Int)) ?_
     refine wi64 ((i : Int) + (n : Int)) ?_
     refine wi64 (((i : Int) + (n : Int)) - 1) ?_
     refine wv (.slice (some ⟨b2, 0, none⟩) n cap) ?_
     refine wv (.int .i64 (n : Int)) ?_
     have em1 := Int.emod_nonneg (((i : Int) + (n : Int)) - 1) (show (n : Int) ≠ 0 by omega)
     have em2 := Int.emod_lt_of_pos (((i : Int) + (n : Int)) - 1) (show 0 < (n : Int) by omega)
     refine wremz .i64 (((i : Int) + (n : Int)) - 1) (n : Int) ?_
     refine wsix1z b2 0 n cap ((((i : Int) + (n : Int)) - 1) % (n : Int)) .i64 slit_impl_Beat ?_
     refine wld b2 (0 + ((((i : Int) + (n : Int)) - 1) % (n : Int)).toNat) scal_int16 (hb2.get (SlI.get hS (by omega))) ?_
     have lw2 := hw16 ((((((i : Int) + (n : Int)) - 1) % (n : Int)).toNat))
     refine wv (.int .i16 (atI xs (((((i : Int) + (n : Int)) - 1) % (n : Int)).toNat))) ?_
     refine wpList_nil (then_normal ?_)
     refine wsr ?_
     refine wv (.pointer (some ⟨b, 0, none⟩)) ?_
     refine wv (.int .i16 (atI xs i)) ?_
     refine wi64 (atI xs i) ?_
     refine wcl (isWay_any F hF b _ (atI xs i) _ hb) ?_
     intro w2 E2
     refine wv (.bool (!(wayB F (atI xs i)))) ?_
     refine wv (.bool (!(wayB F (atI xs i)))) ?_
     refine split_bool (wayB F (atI xs i)) (fun h3 => ?_) (fun h3 => ?_)
     · skip
       refine wbl 35 false (bnT h3) ?_
       have h3i := wayB_is h3
       have h3d := isB_true.1 h3i
       refine wv (.pointer (some ⟨b, 0, none⟩)) ?_
       refine wv (.int .i16 (atI xs (((((i : Int) + (n : Int)) - 1) % (n : Int)).toNat))) ?_
       refine wi64 (atI xs (((((i : Int) + (n : Int)) - 1) % (n : Int)).toNat)) ?_
       replace hb := hb.ext E2
       refine wcl (isWay_any F hF b _ (atI xs (((((i : Int) + (n : Int)) - 1) % (n : Int)).toNat)) _ hb) ?_
       intro w3 E3
       refine wv (.bool (!(wayB F (atI xs (((((i : Int) + (n : Int)) - 1) % (n : Int)).toNat))))) ?_
       refine wv (.bool (!(wayB F (atI xs (((((i : Int) + (n : Int)) - 1) % (n : Int)).toNat))))) ?_
       refine wv (.bool (!(wayB F (atI xs (((((i : Int) + (n : Int)) - 1) % (n : Int)).toNat))))) ?_
       have H3 := (HL1.trans E2).trans E3
       refine split_bool (wayB F (atI xs (((((i : Int) + (n : Int)) - 1) % (n : Int)).toNat))) (fun h4 => ?_) (fun h4 => ?_)
       · skip
         refine wbl 42 false (bnT h4) ?_
         have h4i := wayB_is h4
         have h4d := isB_true.1 h4i
         refine wv (.int .i16 (atI xs i)) ?_
         refine wi64 (atI xs i) ?_
         refine wv (.int .i16 (atI xs (((((i : Int) + (n : Int)) - 1) % (n : Int)).toNat))) ?_
         refine wi64 (atI xs (((((i : Int) + (n : Int)) - 1) % (n : Int)).toNat)) ?_
         refine wcl (areNear_any (atI xs i) (atI xs (((((i : Int) + (n : Int)) - 1) % (n : Int)).toNat)) (by omega) (by omega) _) ?_
         intro w4 E4
         refine wv (.bool (!(decide (sqr (atI xs i) (atI xs (((((i : Int) + (n : Int)) - 1) % (n : Int)).toNat)) ≤ 1)))) ?_
         refine wv (.bool (!(decide (sqr (atI xs i) (atI xs (((((i : Int) + (n : Int)) - 1) % (n : Int)).toNat)) ≤ 1)))) ?_
         refine wpList_nil (then_normal ?_)
         refine wp_frame (a' := ⟨#[.pointer (some ⟨b, 0, none⟩), .slice (some ⟨b2, 0, none⟩) n cap, undef, undef, J1 4, .int .i64 (i : Int), .int .i16 (atI xs i), .int .i16 (atI xs (((((i : Int) + (n : Int)) - 1) % (n : Int)).toNat)), .slice (some ⟨b2, 0, none⟩) n cap, .int .i64 (n : Int), .bool (inB (n : Int) 1 40), .bool (!(inB (n : Int) 1 40)), .slice (some ⟨b2, 0, none⟩) n cap, .int .i64 (n : Int), .int .i64 (i : Int), .bool (decide ((i : Int) < (n : Int))), .int .i64 (i : Int), .pointer (some ⟨b2, 0 + i, none⟩), .int .i16 (atI xs i), .slice (some ⟨b2, 0, none⟩) n cap, .int .i64 (i : Int), .slice (some ⟨b2, 0, none⟩) n cap, .int .i64 (n : Int), .int .i64 ((i : Int) + (n : Int)), .int .i64 (((i : Int) + (n : Int)) - 1), .slice (some ⟨b2, 0, none⟩) n cap, .int .i64 (n : Int), .int .i64 ((((i : Int) + (n : Int)) - 1) % (n : Int)), .pointer (some ⟨b2, 0 + ((((i : Int) + (n : Int)) - 1) % (n : Int)).toNat, none⟩), .int .i16 (atI xs (((((i : Int) + (n : Int)) - 1) % (n : Int)).toNat)), .pointer (some ⟨b, 0, none⟩), .int .i16 (atI xs i), .int .i64 (atI xs i), .bool (wayB F (atI xs i)), .bool (!(wayB F (atI xs i))), .bool false, .pointer (some ⟨b, 0, none⟩), .int .i16 (atI xs (((((i : Int) + (n : Int)) - 1) % (n : Int)).toNat)), .int .i64 (atI xs (((((i : Int) + (n : Int)) - 1) % (n : Int)).toNat)), .bool (wayB F (atI xs (((((i : Int) + (n : Int)) - 1) % (n : Int)).toNat))), .bool (!(wayB F (atI xs (((((i : Int) + (n : Int)) - 1) % (n : Int)).toNat)))), .bool (!(wayB F (atI xs (((((i : Int) + (n : Int)) - 1) % (n : Int)).toNat)))), .bool false, .int .i16 (atI xs i), .int .i64 (atI xs i), .int .i16 (atI xs (((((i : Int) + (n : Int)) - 1) % (n : Int)).toNat)), .int .i64 (atI xs (((((i : Int) + (n : Int)) - 1) % (n : Int)).toNat)), .bool (decide (sqr (atI xs i) (atI xs (((((i : Int) + (n : Int)) - 1) % (n : Int)).toNat)) ≤ 1)), .bool (!(decide (sqr (atI xs i) (atI xs (((((i : Int) + (n : Int)) - 1) % (n : Int)).toNat)) ≤ 1))), .bool (!(decide (sqr (atI xs i) (atI xs (((((i : Int) + (n : Int)) - 1) % (n : Int)).toNat)) ≤ 1))), J1 50], []⟩) (by kernel_rfl) ?_
         refine wsplit (!(decide (sqr (atI xs i) (atI xs (((((i : Int) + (n : Int)) - 1) % (n : Int)).toNat)) ≤ 1))) (fun h5 => ?_) (fun h5 => ?_)
         · skip
           replace h5 := nbT h5
           have h5d := dF h5
           refine wsr ?_
           refine wv (.bool false) ?_
           refine wpList_nil (then_normal ?_)
           refine wp_ret ?_
           refine block_ret (then_ret (then_ret (block_ret (then_ret ?_))))
           have H4 := H3.trans E4
           refine ret1 (.bool (beatB F xs)) rfl ?_ rfl ?_
           · refine (resT (v := .bool false) (by kernel_rfl)).trans ?_
             refine congrArg Value.bool ?_
             first | exact (beatB_0 hn_ (by assumption)).symm | exact (beatB_t hn_ (by assumption) (fun j hj => hall j (by omega))).symm | exact (beatB_f hn_ i (by omega) (btC_1 (by assumption))).symm | exact (beatB_f hn_ i (by omega) (btC_2 (by assumption))).symm | exact (beatB_f hn_ i (by omega) (btC_3 (dF (by assumption)))).symm
           exact ⟨rfl, H4⟩
         · skip
           replace h5 := nbF h5
           have h5d := dT h5
           refine wp_skip ?_
           refine block_normal (then_normal ?_)
           refine wp_region_lit ?_
           refine wi64 ((i : Int) + 1) ?_
           refine wv (.int .i64 ((i : Int) + 1)) ?_
           refine wpList_nil (then_normal ?_)
           replace hb := (hb.ext E3).ext E4
           replace hb2 := ((hb2.ext E2).ext E3).ext E4
           have H5 := H3.trans E4
           refine ⟨_, ?_, i + 1, rfl, ?_, ?_, H5, hb, hb2, exJ (by kernel_rfl)⟩
           · omega
           · omega
           · intro j hj
             rcases (by omega : j < i ∨ j = i) with h_ | h_
             · exact hall j h_
             · subst h_; exact btC_t (by assumption) (by assumption) (dT (by assumption))
       · skip
         refine wbl 42 true (bnF h4) ?_
         refine wsk ?_
         refine wsk ?_
         refine wsk ?_
         refine wsk ?_
         refine wsk ?_
         refine wsk ?_
         refine wv (.bool true) ?_
         refine wpList_nil (then_normal ?_)
         refine wp_frame (a' := ⟨#[.pointer (some ⟨b, 0, none⟩), .slice (some ⟨b2, 0, none⟩) n cap, undef, undef, J1 4, .int .i64 (i : Int), .int .i16 (atI xs i), .int .i16 (atI xs (((((i : Int) + (n : Int)) - 1) % (n : Int)).toNat)), .slice (some ⟨b2, 0, none⟩) n cap, .int .i64 (n : Int), .bool (inB (n : Int) 1 40), .bool (!(inB (n : Int) 1 40)), .slice (some ⟨b2, 0, none⟩) n cap, .int .i64 (n : Int), .int .i64 (i : Int), .bool (decide ((i : Int) < (n : Int))), .int .i64 (i : Int), .pointer (some ⟨b2, 0 + i, none⟩), .int .i16 (atI xs i), .slice (some ⟨b2, 0, none⟩) n cap, .int .i64 (i : Int), .slice (some ⟨b2, 0, none⟩) n cap, .int .i64 (n : Int), .int .i64 ((i : Int) + (n : Int)), .int .i64 (((i : Int) + (n : Int)) - 1), .slice (some ⟨b2, 0, none⟩) n cap, .int .i64 (n : Int), .int .i64 ((((i : Int) + (n : Int)) - 1) % (n : Int)), .pointer (some ⟨b2, 0 + ((((i : Int) + (n : Int)) - 1) % (n : Int)).toNat, none⟩), .int .i16 (atI xs (((((i : Int) + (n : Int)) - 1) % (n : Int)).toNat)), .pointer (some ⟨b, 0, none⟩), .int .i16 (atI xs i), .int .i64 (atI xs i), .bool (wayB F (atI xs i)), .bool (!(wayB F (atI xs i))), .bool false, .pointer (some ⟨b, 0, none⟩), .int .i16 (atI xs (((((i : Int) + (n : Int)) - 1) % (n : Int)).toNat)), .int .i64 (atI xs (((((i : Int) + (n : Int)) - 1) % (n : Int)).toNat)), .bool (wayB F (atI xs (((((i : Int) + (n : Int)) - 1) % (n : Int)).toNat))), .bool (!(wayB F (atI xs (((((i : Int) + (n : Int)) - 1) % (n : Int)).toNat)))), .bool (!(wayB F (atI xs (((((i : Int) + (n : Int)) - 1) % (n : Int)).toNat)))), .bool true, undef, undef, undef, undef, undef, undef, .bool true, J1 50], []⟩) (by kernel_rfl) ?_
         refine wct ?_
         refine wsr ?_
         refine wv (.bool false) ?_
         refine wpList_nil (then_normal ?_)
         refine wp_ret ?_
         refine block_ret (then_ret (then_ret (block_ret (then_ret ?_))))
         refine ret1 (.bool (beatB F xs)) rfl ?_ rfl ?_
         · refine (resT (v := .bool false) (by kernel_rfl)).trans ?_
           refine congrArg Value.bool ?_
           first | exact (beatB_0 hn_ (by assumption)).symm | exact (beatB_t hn_ (by assumption) (fun j hj => hall j (by omega))).symm | exact (beatB_f hn_ i (by omega) (btC_1 (by assumption))).symm | exact (beatB_f hn_ i (by omega) (btC_2 (by assumption))).symm | exact (beatB_f hn_ i (by omega) (btC_3 (dF (by assumption)))).symm
         exact ⟨rfl, H3⟩
     · skip
       refine wbl 35 true (bnF h3) ?_
       refine wsk ?_
       refine wsk ?_
       refine wsk ?_
       refine wsk ?_
       refine wsk ?_
       refine wv (.bool true) ?_
       refine wv (.bool true) ?_
       refine wsk ?_
       refine wsk ?_
       refine wsk ?_
       refine wsk ?_
       refine wsk ?_
       refine wsk ?_
       refine wv (.bool true) ?_
       refine wpList_nil (then_normal ?_)
       refine wp_frame (a' := ⟨#[.pointer (some ⟨b, 0, none⟩), .slice (some ⟨b2, 0, none⟩) n cap, undef, undef, J1 4, .int .i64 (i : Int), .int .i16 (atI xs i), .int .i16 (atI xs (((((i : Int) + (n : Int)) - 1) % (n : Int)).toNat)), .slice (some ⟨b2, 0, none⟩) n cap, .int .i64 (n : Int), .bool (inB (n : Int) 1 40), .bool (!(inB (n : Int) 1 40)), .slice (some ⟨b2, 0, none⟩) n cap, .int .i64 (n : Int), .int .i64 (i : Int), .bool (decide ((i : Int) < (n : Int))), .int .i64 (i : Int), .pointer (some ⟨b2, 0 + i, none⟩), .int .i16 (atI xs i), .slice (some ⟨b2, 0, none⟩) n cap, .int .i64 (i : Int), .slice (some ⟨b2, 0, none⟩) n cap, .int .i64 (n : Int), .int .i64 ((i : Int) + (n : Int)), .int .i64 (((i : Int) + (n : Int)) - 1), .slice (some ⟨b2, 0, none⟩) n cap, .int .i64 (n : Int), .int .i64 ((((i : Int) + (n : Int)) - 1) % (n : Int)), .pointer (some ⟨b2, 0 + ((((i : Int) + (n : Int)) - 1) % (n : Int)).toNat, none⟩), .int .i16 (atI xs (((((i : Int) + (n : Int)) - 1) % (n : Int)).toNat)), .pointer (some ⟨b, 0, none⟩), .int .i16 (atI xs i), .int .i64 (atI xs i), .bool (wayB F (atI xs i)), .bool (!(wayB F (atI xs i))), .bool true, undef, undef, undef, undef, undef, .bool true, .bool true, undef, undef, undef, undef, undef, undef, .bool true, J1 50], []⟩) (by kernel_rfl) ?_
       refine wct ?_
       refine wsr ?_
       refine wv (.bool false) ?_
       refine wpList_nil (then_normal ?_)
       refine wp_ret ?_
       refine block_ret (then_ret (then_ret (block_ret (then_ret ?_))))
       have H6 := HL1.trans E2
       refine ret1 (.bool (beatB F xs)) rfl ?_ rfl ?_
       · refine (resT (v := .bool false) (by kernel_rfl)).trans ?_
         refine congrArg Value.bool ?_
         first | exact (beatB_0 hn_ (by assumption)).symm | exact (beatB_t hn_ (by assumption) (fun j hj => hall j (by omega))).symm | exact (beatB_f hn_ i (by omega) (btC_1 (by assumption))).symm | exact (beatB_f hn_ i (by omega) (btC_2 (by assumption))).symm | exact (beatB_f hn_ i (by omega) (btC_3 (dF (by assumption)))).symm
       exact ⟨rfl, H6⟩
   · skip
     have h2d := dF h2
     refine wp_exit ?_
     refine then_exit ?_
     refine then_exit ?_
     refine block_exit ?_
     refine then_normal ?_
     refine wsr ?_
     refine wv (.bool true) ?_
     refine wpList_nil (then_normal ?_)
     refine wp_ret ?_
     refine ret1 (.bool (beatB F xs)) rfl ?_ rfl ?_
     · refine (resT (v := .bool true) (by kernel_rfl)).trans ?_
       refine congrArg Value.bool ?_
       first | exact (beatB_0 hn_ (by assumption)).symm | exact (beatB_t hn_ (by assumption) (fun j hj => hall j (by omega))).symm | exact (beatB_f hn_ i (by omega) (btC_1 (by assumption))).symm | exact (beatB_f hn_ i (by omega) (btC_2 (by assumption))).symm | exact (beatB_f hn_ i (by omega) (btC_3 (dF (by assumption)))).symm
     exact ⟨rfl, HL1⟩


--# l05Ok_any
theorem l05Ok_any (F : Fld) (hF : F.wf) (b : Nat) (t : TypeId) (xs : List Int) (n b2 cap : Nat) (cs : Array Value) (hS : SlI cs n cap .i16 xs) (hn : n ≤ 1048576) (hw16 : ∀ i, -32768 ≤ atI xs i ∧ atI xs i ≤ 32767) (w : World) (hb : Blk w b t F.cells) (hb2 : Blk w b2 24 cs) :
 Calls Try.prog 18 #[.pointer (some ⟨b, 0, none⟩), .slice (some ⟨b2, 0, none⟩) n cap] w fun e w' => e = .returned (.bool (okB F && beatB F xs)) ∧ Ext w w' := by
 have hn_ := hS.len
 refine calls_of_wp Try.func18 rfl ?_
 refine wp_frame (a' := ⟨#[.pointer (some ⟨b, 0, none⟩), .slice (some ⟨b2, 0, none⟩) n cap, undef, undef, undef, undef, undef, undef, undef, undef, undef, undef, undef, undef, undef, undef, undef, undef, undef, undef, undef, undef, undef, undef, undef, undef, undef, undef, undef, undef, undef, undef, undef, undef, undef, undef, undef, undef, undef, undef, undef, undef, undef, undef, undef, undef, undef, undef, undef, undef, undef, undef, undef, undef, undef, undef, undef, undef], []⟩) (by kernel_rfl) ?_
 refine wsr ?_
 refine wv (.bool false) ?_
 refine wpList_nil (then_normal ?_)
 refine wp_seq ?_
 refine wsr ?_
 refine wv (.pointer (some ⟨b, 0, none⟩)) ?_
 refine wcl (l01Ok_any F hF b _ _ hb) ?_
 intro w1 E1
 refine wv (.bool (!(okB F))) ?_
 refine wv (.bool (!(okB F))) ?_
 refine split_bool (okB F) (fun h1 => ?_) (fun h1 => ?_)
 · skip
   refine wbl 10 false (bnT h1) ?_
   refine wv (.slice (some ⟨b2, 0, none⟩) n cap) ?_
   refine wv (.int .i64 (n : Int)) ?_
   refine wcl (l00In_any (n : Int) 1 40 _) ?_
   intro w2 E2
   refine wv (.bool (!(inB (n : Int) 1 40))) ?_
   refine wv (.bool (!(inB (n : Int) 1 40))) ?_
   refine wpList_nil (then_normal ?_)
   have H1 := ((Ext.refl w).trans E1).trans E2
   refine wsplit (!(inB (n : Int) 1 40)) (fun h2 => ?_) (fun h2 => ?_)
   · skip
     replace h2 := nbT h2
     have h2d := inF h2
     refine wsr ?_
     refine wv (.bool false) ?_
     refine wpList_nil (then_normal ?_)
     refine wp_ret ?_
     refine then_ret ?_
     refine ret1 (.bool (okB F && beatB F xs)) rfl ?_ rfl ?_
     · refine (resT (v := .bool false) (by kernel_rfl)).trans ?_
       refine congrArg Value.bool ?_
       first | (rw [show okB F = false by assumption]; rfl) | (rw [beatB_0 hn_ (by assumption), Bool.and_false]) | (rw [show okB F = true by assumption, beatB_w hn_ (by assumption) (fun j hj => hall j (by omega))]; rfl) | (rw [beatB_f hn_ i (by omega) (btC_1 (by assumption)), Bool.and_false]) | (rw [beatB_f hn_ i (by omega) (btC_2 (wayB_1 (by assumption))), Bool.and_false]) | (rw [beatB_f hn_ i (by omega) (btC_3 (by rw [sqr_comm]; exact Int.not_le.2 (dT (by assumption)))), Bool.and_false])
     exact ⟨rfl, H1⟩
   · skip
     replace h2 := nbF h2
     have h2d := inT h2
     refine wp_skip ?_
     refine then_normal ?_
     refine wp_seq ?_
     refine wsr ?_
     refine wv (.int .i64 0) ?_
     refine wpList_nil (then_normal ?_)
     refine wp_block ?_
     replace hb := (hb.ext E1).ext E2
     replace hb2 := (hb2.ext E1).ext E2
     refine wp_loop_k (fun m1 a wl1 => ∃ (i : Nat), m1 = n - i ∧ i ≤ n ∧ (∀ j, j < i → wayB F (atI xs j) = true ∧ sqr (atI xs (prv n j)) (atI xs j) ≤ 1) ∧ Ext w wl1 ∧ Blk wl1 b t F.cells ∧ Blk wl1 b2 24 cs ∧ (∃ J1 : Nat → Value, a = ⟨#[.pointer (some ⟨b, 0, none⟩), .slice (some ⟨b2, 0, none⟩) n cap, undef, undef, J1 4, .int .i64 (i : Int), J1 6, .pointer (some ⟨b, 0, none⟩), .bool (okB F), .bool (!(okB F)), .bool false, .slice (some ⟨b2, 0, none⟩) n cap, .int .i64 (n : Int), .bool (inB (n : Int) 1 40), .bool (!(inB (n : Int) 1 40)), .bool (!(inB (n : Int) 1 40)), J1 16, J1 17, J1 18, J1 19, J1 20, J1 21, J1 22, J1 23, J1 24, J1 25, J1 26, J1 27, J1 28, J1 29, J1 30, J1 31, J1 32, J1 33, J1 34, J1 35, J1 36, J1 37, J1 38, J1 39, J1 40, J1 41, J1 42, J1 43, J1 44, J1 45, J1 46, J1 47, J1 48, J1 49, J1 50, J1 51, J1 52, J1 53, J1 54, J1 55, J1 56, J1 57], []⟩)) (n) ?_ ?_
     · refine ⟨0, rfl, ?_, ?_, H1, hb, hb2, exJ (by kernel_rfl)⟩
       · omega
       · intro j hj; omega
     intro m1 a wl1 hI
     obtain ⟨i, rfl, hi_, hall, HL1, hb, hb2, J1, rfl⟩ := hI
     have wi_ := hw16 i
     have wp_ := hw16 (prv n i)
     have ep_ : (((i : Int) + (n : Int) - 1) % (n : Int)).toNat = prv n i := rfl
     refine wp_seq ?_
     refine wsr ?_
     refine wv (.int .i64 (i : Int)) ?_
     refine wv (.slice (some ⟨b2, 0, none⟩) n cap) ?_
     refine wv (.int .i64 (n : Int)) ?_
     refine wv (.bool (decide ((i : Int) < (n : Int)))) ?_
     refine wpList_nil (then_normal ?_)
     refine wsplit (decide ((i : Int) < (n : Int))) (fun h3 => ?_) (fun h3 => ?_)
     · skip
       have h3d := dT h3
       refine wp_skip ?_
       refine then_normal ?_
       refine wp_seq ?_
       refine wp_block ?_
       refine wsr ?_
       refine wv (.slice (some ⟨b2, 0, none⟩) n cap) ?_
       refine wv (.int .i64 (i : Int)) ?_
       refine wv (.slice (some ⟨b2, 0, none⟩) n cap) ?_
       refine wv (.int .i64 (n : Int)) ?_
       refine wi64 ((i : Int) + (n : Int)) ?_
       refine wi64 (((i : Int) + (n : Int)) - 1) ?_
       refine wv (.slice (some ⟨b2, 0, none⟩) n cap) ?_
       refine wv (.int .i64 (n : Int)) ?_
       have em1 := Int.emod_nonneg (((i : Int) + (n : Int)) - 1) (show (n : Int) ≠ 0 by omega)
       have em2 := Int.emod_lt_of_pos (((i : Int) + (n : Int)) - 1) (show 0 < (n : Int) by omega)
       refine wremz .i64 (((i : Int) + (n : Int)) - 1) (n : Int) ?_
       refine wsix1z b2 0 n cap ((((i : Int) + (n : Int)) - 1) % (n : Int)) .i64 slit_impl_Beat ?_
       refine wld b2 (0 + ((((i : Int) + (n : Int)) - 1) % (n : Int)).toNat) scal_int16 (hb2.get (SlI.get hS (by omega))) ?_
       have lw1 := hw16 ((((((i : Int) + (n : Int)) - 1) % (n : Int)).toNat))
       refine wi64 (atI xs (((((i : Int) + (n : Int)) - 1) % (n : Int)).toNat)) ?_
       refine wv (.int .i64 (atI xs (((((i : Int) + (n : Int)) - 1) % (n : Int)).toNat))) ?_
       refine wpList_nil (then_normal ?_)
       refine wsr ?_
       refine wv (.pointer (some ⟨b, 0, none⟩)) ?_
       refine wv (.slice (some ⟨b2, 0, none⟩) n cap) ?_
       refine wv (.int .i64 (i : Int)) ?_
       refine wsix1 b2 0 n cap i .i64 slit_impl_Beat ?_
       refine wld b2 (0 + i) scal_int16 (hb2.get (SlI.get hS (by omega))) ?_
       have lw2 := hw16 (i)
       refine wi64 (atI xs i) ?_
       refine wcl (l05Walk_any F hF b _ (atI xs i) _ hb) ?_
       intro w3 E3
       refine wv (.bool (!(wayB F (atI xs i)))) ?_
       refine wv (.bool (!(wayB F (atI xs i)))) ?_
       refine split_bool (wayB F (atI xs i)) (fun h4 => ?_) (fun h4 => ?_)
       · skip
         refine wbl 42 false (bnT h4) ?_
         have h4i := wayB_is h4
         have h4d := isB_true.1 h4i
         refine wv (.pointer (some ⟨b, 0, none⟩)) ?_
         refine wv (.int .i64 (atI xs (((((i : Int) + (n : Int)) - 1) % (n : Int)).toNat))) ?_
         replace hb := hb.ext E3
         refine wcl (l01Is_any F hF b _ (atI xs (((((i : Int) + (n : Int)) - 1) % (n : Int)).toNat)) _ hb) ?_
         intro w4 E4
         refine wv (.bool (!(isB F (atI xs (((((i : Int) + (n : Int)) - 1) % (n : Int)).toNat))))) ?_
         refine wv (.bool (!(isB F (atI xs (((((i : Int) + (n : Int)) - 1) % (n : Int)).toNat))))) ?_
         refine wv (.bool (!(isB F (atI xs (((((i : Int) + (n : Int)) - 1) % (n : Int)).toNat))))) ?_
         have H2 := (HL1.trans E3).trans E4
         refine split_bool (isB F (atI xs (((((i : Int) + (n : Int)) - 1) % (n : Int)).toNat))) (fun h5 => ?_) (fun h5 => ?_)
         · skip
           refine wbl 48 false (bnT h5) ?_
           have h5d := isB_true.1 h5
           refine wv (.int .i64 (atI xs (((((i : Int) + (n : Int)) - 1) % (n : Int)).toNat))) ?_
           refine wv (.slice (some ⟨b2, 0, none⟩) n cap) ?_
           refine wv (.int .i64 (i : Int)) ?_
           refine wsix1 b2 0 n cap i .i64 slit_impl_Beat ?_
           replace hb2 := (hb2.ext E3).ext E4
           refine wld b2 (0 + i) scal_int16 (hb2.get (SlI.get hS (by omega))) ?_
           have lw3 := hw16 (i)
           refine wi64 (atI xs i) ?_
           refine wcl (l01Square_any (atI xs (((((i : Int) + (n : Int)) - 1) % (n : Int)).toNat)) (atI xs i) (by omega) (by omega) _) ?_
           intro w5 E5
           refine wv (.bool (decide (1 < sqr (atI xs (((((i : Int) + (n : Int)) - 1) % (n : Int)).toNat)) (atI xs i)))) ?_
           refine wv (.bool (decide (1 < sqr (atI xs (((((i : Int) + (n : Int)) - 1) % (n : Int)).toNat)) (atI xs i)))) ?_
           refine wpList_nil (then_normal ?_)
           refine wp_frame (a' := ⟨#[.pointer (some ⟨b, 0, none⟩), .slice (some ⟨b2, 0, none⟩) n cap, undef, undef, J1 4, .int .i64 (i : Int), .int .i64 (atI xs (((((i : Int) + (n : Int)) - 1) % (n : Int)).toNat)), .pointer (some ⟨b, 0, none⟩), .bool (okB F), .bool (!(okB F)), .bool false, .slice (some ⟨b2, 0, none⟩) n cap, .int .i64 (n : Int), .bool (inB (n : Int) 1 40), .bool (!(inB (n : Int) 1 40)), .bool (!(inB (n : Int) 1 40)), .int .i64 (i : Int), .slice (some ⟨b2, 0, none⟩) n cap, .int .i64 (n : Int), .bool (decide ((i : Int) < (n : Int))), J1 20, J1 21, .slice (some ⟨b2, 0, none⟩) n cap, .int .i64 (i : Int), .slice (some ⟨b2, 0, none⟩) n cap, .int .i64 (n : Int), .int .i64 ((i : Int) + (n : Int)), .int .i64 (((i : Int) + (n : Int)) - 1), .slice (some ⟨b2, 0, none⟩) n cap, .int .i64 (n : Int), .int .i64 ((((i : Int) + (n : Int)) - 1) % (n : Int)), .pointer (some ⟨b2, 0 + ((((i : Int) + (n : Int)) - 1) % (n : Int)).toNat, none⟩), .int .i16 (atI xs (((((i : Int) + (n : Int)) - 1) % (n : Int)).toNat)), .int .i64 (atI xs (((((i : Int) + (n : Int)) - 1) % (n : Int)).toNat)), .pointer (some ⟨b, 0, none⟩), .slice (some ⟨b2, 0, none⟩) n cap, .int .i64 (i : Int), .pointer (some ⟨b2, 0 + i, none⟩), .int .i16 (atI xs i), .int .i64 (atI xs i), .bool (wayB F (atI xs i)), .bool (!(wayB F (atI xs i))), .bool false, .pointer (some ⟨b, 0, none⟩), .int .i64 (atI xs (((((i : Int) + (n : Int)) - 1) % (n : Int)).toNat)), .bool (isB F (atI xs (((((i : Int) + (n : Int)) - 1) % (n : Int)).toNat))), .bool (!(isB F (atI xs (((((i : Int) + (n : Int)) - 1) % (n : Int)).toNat)))), .bool (!(isB F (atI xs (((((i : Int) + (n : Int)) - 1) % (n : Int)).toNat)))), .bool false, .int .i64 (atI xs (((((i : Int) + (n : Int)) - 1) % (n : Int)).toNat)), .slice (some ⟨b2, 0, none⟩) n cap, .int .i64 (i : Int), .pointer (some ⟨b2, 0 + i, none⟩), .int .i16 (atI xs i), .int .i64 (atI xs i), .int .i64 (sqr (atI xs (((((i : Int) + (n : Int)) - 1) % (n : Int)).toNat)) (atI xs i)), .bool (decide (1 < sqr (atI xs (((((i : Int) + (n : Int)) - 1) % (n : Int)).toNat)) (atI xs i))), .bool (decide (1 < sqr (atI xs (((((i : Int) + (n : Int)) - 1) % (n : Int)).toNat)) (atI xs i)))], []⟩) (by kernel_rfl) ?_
           refine wsplit (decide (1 < sqr (atI xs (((((i : Int) + (n : Int)) - 1) % (n : Int)).toNat)) (atI xs i))) (fun h6 => ?_) (fun h6 => ?_)
           · skip
             have h6d := dT h6
             refine wsr ?_
             refine wv (.bool false) ?_
             refine wpList_nil (then_normal ?_)
             refine wp_ret ?_
             refine block_ret (then_ret (then_ret (block_ret (then_ret ?_))))
             have H3 := H2.trans E5
             refine ret1 (.bool (okB F && beatB F xs)) rfl ?_ rfl ?_
             · refine (resT (v := .bool false) (by kernel_rfl)).trans ?_
               refine congrArg Value.bool ?_
               first | (rw [show okB F = false by assumption]; rfl) | (rw [beatB_0 hn_ (by assumption), Bool.and_false]) | (rw [show okB F = true by assumption, beatB_w hn_ (by assumption) (fun j hj => hall j (by omega))]; rfl) | (rw [beatB_f hn_ i (by omega) (btC_1 (by assumption)), Bool.and_false]) | (rw [beatB_f hn_ i (by omega) (btC_2 (wayB_1 (by assumption))), Bool.and_false]) | (rw [beatB_f hn_ i (by omega) (btC_3 (by rw [sqr_comm]; exact Int.not_le.2 (dT (by assumption)))), Bool.and_false])
             exact ⟨rfl, H3⟩
           · skip
             have h6d := dF h6
             refine wp_skip ?_
             refine block_normal (then_normal ?_)
             refine wp_region_lit ?_
             refine wv (.int .i64 (i : Int)) ?_
             refine wi64 ((i : Int) + 1) ?_
             refine wv (.int .i64 ((i : Int) + 1)) ?_
             refine wpList_nil (then_normal ?_)
             replace hb := (hb.ext E4).ext E5
             replace hb2 := hb2.ext E5
             have H4 := H2.trans E5
             refine ⟨_, ?_, i + 1, rfl, ?_, ?_, H4, hb, hb2, exJ (by kernel_rfl)⟩
             · omega
             · omega
             · intro j hj
               rcases (by omega : j < i ∨ j = i) with h_ | h_
               · exact hall j h_
               · subst h_; exact ⟨by assumption, Int.not_lt.1 (dF (by assumption))⟩
         · skip
           refine wbl 48 true (bnF h5) ?_
           refine wsk ?_
           refine wsk ?_
           refine wsk ?_
           refine wsk ?_
           refine wsk ?_
           refine wsk ?_
           refine wsk ?_
           refine wsk ?_
           refine wv (.bool true) ?_
           refine wpList_nil (then_normal ?_)
           refine wp_frame (a' := ⟨#[.pointer (some ⟨b, 0, none⟩), .slice (some ⟨b2, 0, none⟩) n cap, undef, undef, J1 4, .int .i64 (i : Int), .int .i64 (atI xs (((((i : Int) + (n : Int)) - 1) % (n : Int)).toNat)), .pointer (some ⟨b, 0, none⟩), .bool (okB F), .bool (!(okB F)), .bool false, .slice (some ⟨b2, 0, none⟩) n cap, .int .i64 (n : Int), .bool (inB (n : Int) 1 40), .bool (!(inB (n : Int) 1 40)), .bool (!(inB (n : Int) 1 40)), .int .i64 (i : Int), .slice (some ⟨b2, 0, none⟩) n cap, .int .i64 (n : Int), .bool (decide ((i : Int) < (n : Int))), J1 20, J1 21, .slice (some ⟨b2, 0, none⟩) n cap, .int .i64 (i : Int), .slice (some ⟨b2, 0, none⟩) n cap, .int .i64 (n : Int), .int .i64 ((i : Int) + (n : Int)), .int .i64 (((i : Int) + (n : Int)) - 1), .slice (some ⟨b2, 0, none⟩) n cap, .int .i64 (n : Int), .int .i64 ((((i : Int) + (n : Int)) - 1) % (n : Int)), .pointer (some ⟨b2, 0 + ((((i : Int) + (n : Int)) - 1) % (n : Int)).toNat, none⟩), .int .i16 (atI xs (((((i : Int) + (n : Int)) - 1) % (n : Int)).toNat)), .int .i64 (atI xs (((((i : Int) + (n : Int)) - 1) % (n : Int)).toNat)), .pointer (some ⟨b, 0, none⟩), .slice (some ⟨b2, 0, none⟩) n cap, .int .i64 (i : Int), .pointer (some ⟨b2, 0 + i, none⟩), .int .i16 (atI xs i), .int .i64 (atI xs i), .bool (wayB F (atI xs i)), .bool (!(wayB F (atI xs i))), .bool false, .pointer (some ⟨b, 0, none⟩), .int .i64 (atI xs (((((i : Int) + (n : Int)) - 1) % (n : Int)).toNat)), .bool (isB F (atI xs (((((i : Int) + (n : Int)) - 1) % (n : Int)).toNat))), .bool (!(isB F (atI xs (((((i : Int) + (n : Int)) - 1) % (n : Int)).toNat)))), .bool (!(isB F (atI xs (((((i : Int) + (n : Int)) - 1) % (n : Int)).toNat)))), .bool true, undef, undef, undef, undef, undef, undef, undef, undef, .bool true], []⟩) (by kernel_rfl) ?_
           refine wct ?_
           refine wsr ?_
           refine wv (.bool false) ?_
           refine wpList_nil (then_normal ?_)
           refine wp_ret ?_
           refine block_ret (then_ret (then_ret (block_ret (then_ret ?_))))
           refine ret1 (.bool (okB F && beatB F xs)) rfl ?_ rfl ?_
           · refine (resT (v := .bool false) (by kernel_rfl)).trans ?_
             refine congrArg Value.bool ?_
             first | (rw [show okB F = false by assumption]; rfl) | (rw [beatB_0 hn_ (by assumption), Bool.and_false]) | (rw [show okB F = true by assumption, beatB_w hn_ (by assumption) (fun j hj => hall j (by omega))]; rfl) | (rw [beatB_f hn_ i (by omega) (btC_1 (by assumption)), Bool.and_false]) | (rw [beatB_f hn_ i (by omega) (btC_2 (wayB_1 (by assumption))), Bool.and_false]) | (rw [beatB_f hn_ i (by omega) (btC_3 (by rw [sqr_comm]; exact Int.not_le.2 (dT (by assumption)))), Bool.and_false])
           exact ⟨rfl, H2⟩
       · skip
         refine wbl 42 true (bnF h4) ?_
         refine wsk ?_
         refine wsk ?_
         refine wsk ?_
         refine wsk ?_
         refine wv (.bool true) ?_
         refine wv (.bool true) ?_
         refine wsk ?_
         refine wsk ?_
         refine wsk ?_
         refine wsk ?_
         refine wsk ?_
         refine wsk ?_
         refine wsk ?_
         refine wsk ?_
         refine wv (.bool true) ?_
         refine wpList_nil (then_normal ?_)
         refine wp_frame (a' := ⟨#[.pointer (some ⟨b, 0, none⟩), .slice (some ⟨b2, 0, none⟩) n cap, undef, undef, J1 4, .int .i64 (i : Int), .int .i64 (atI xs (((((i : Int) + (n : Int)) - 1) % (n : Int)).toNat)), .pointer (some ⟨b, 0, none⟩), .bool (okB F), .bool (!(okB F)), .bool false, .slice (some ⟨b2, 0, none⟩) n cap, .int .i64 (n : Int), .bool (inB (n : Int) 1 40), .bool (!(inB (n : Int) 1 40)), .bool (!(inB (n : Int) 1 40)), .int .i64 (i : Int), .slice (some ⟨b2, 0, none⟩) n cap, .int .i64 (n : Int), .bool (decide ((i : Int) < (n : Int))), J1 20, J1 21, .slice (some ⟨b2, 0, none⟩) n cap, .int .i64 (i : Int), .slice (some ⟨b2, 0, none⟩) n cap, .int .i64 (n : Int), .int .i64 ((i : Int) + (n : Int)), .int .i64 (((i : Int) + (n : Int)) - 1), .slice (some ⟨b2, 0, none⟩) n cap, .int .i64 (n : Int), .int .i64 ((((i : Int) + (n : Int)) - 1) % (n : Int)), .pointer (some ⟨b2, 0 + ((((i : Int) + (n : Int)) - 1) % (n : Int)).toNat, none⟩), .int .i16 (atI xs (((((i : Int) + (n : Int)) - 1) % (n : Int)).toNat)), .int .i64 (atI xs (((((i : Int) + (n : Int)) - 1) % (n : Int)).toNat)), .pointer (some ⟨b, 0, none⟩), .slice (some ⟨b2, 0, none⟩) n cap, .int .i64 (i : Int), .pointer (some ⟨b2, 0 + i, none⟩), .int .i16 (atI xs i), .int .i64 (atI xs i), .bool (wayB F (atI xs i)), .bool (!(wayB F (atI xs i))), .bool true, undef, undef, undef, undef, .bool true, .bool true, undef, undef, undef, undef, undef, undef, undef, undef, .bool true], []⟩) (by kernel_rfl) ?_
         refine wct ?_
         refine wsr ?_
         refine wv (.bool false) ?_
         refine wpList_nil (then_normal ?_)
         refine wp_ret ?_
         refine block_ret (then_ret (then_ret (block_ret (then_ret ?_))))
         have H5 := HL1.trans E3
         refine ret1 (.bool (okB F && beatB F xs)) rfl ?_ rfl ?_
         · refine (resT (v := .bool false) (by kernel_rfl)).trans ?_
           refine congrArg Value.bool ?_
           first | (rw [show okB F = false by assumption]; rfl) | (rw [beatB_0 hn_ (by assumption), Bool.and_false]) | (rw [show okB F = true by assumption, beatB_w hn_ (by assumption) (fun j hj => hall j (by omega))]; rfl) | (rw [beatB_f hn_ i (by omega) (btC_1 (by assumption)), Bool.and_false]) | (rw [beatB_f hn_ i (by omega) (btC_2 (wayB_1 (by assumption))), Bool.and_false]) | (rw [beatB_f hn_ i (by omega) (btC_3 (by rw [sqr_comm]; exact Int.not_le.2 (dT (by assumption)))), Bool.and_false])
         exact ⟨rfl, H5⟩
     · skip
       have h3d := dF h3
       refine wp_exit ?_
       refine then_exit ?_
       refine then_exit ?_
       refine block_exit ?_
       refine then_normal ?_
       refine wsr ?_
       refine wv (.bool true) ?_
       refine wpList_nil (then_normal ?_)
       refine wp_ret ?_
       refine ret1 (.bool (okB F && beatB F xs)) rfl ?_ rfl ?_
       · refine (resT (v := .bool true) (by kernel_rfl)).trans ?_
         refine congrArg Value.bool ?_
         first | (rw [show okB F = false by assumption]; rfl) | (rw [beatB_0 hn_ (by assumption), Bool.and_false]) | (rw [show okB F = true by assumption, beatB_w hn_ (by assumption) (fun j hj => hall j (by omega))]; rfl) | (rw [beatB_f hn_ i (by omega) (btC_1 (by assumption)), Bool.and_false]) | (rw [beatB_f hn_ i (by omega) (btC_2 (wayB_1 (by assumption))), Bool.and_false]) | (rw [beatB_f hn_ i (by omega) (btC_3 (by rw [sqr_comm]; exact Int.not_le.2 (dT (by assumption)))), Bool.and_false])
       exact ⟨rfl, HL1⟩
 · skip
   refine wbl 10 true (bnF h1) ?_
   refine wsk ?_
   refine wsk ?_
   refine wsk ?_
   refine wsk ?_
   refine wv (.bool true) ?_
   refine wpList_nil (then_normal ?_)
   refine wct ?_
   refine wsr ?_
   refine wv (.bool false) ?_
   refine wpList_nil (then_normal ?_)
   refine wp_ret ?_
   refine then_ret ?_
   have H6 := (Ext.refl w).trans E1
   refine ret1 (.bool (okB F && beatB F xs)) rfl ?_ rfl ?_
   · refine (resT (v := .bool false) (by kernel_rfl)).trans ?_
     refine congrArg Value.bool ?_
     first | (rw [show okB F = false by assumption]; rfl) | (rw [beatB_0 hn_ (by assumption), Bool.and_false]) | (rw [show okB F = true by assumption, beatB_w hn_ (by assumption) (fun j hj => hall j (by omega))]; rfl) | (rw [beatB_f hn_ i (by omega) (btC_1 (by assumption)), Bool.and_false]) | (rw [beatB_f hn_ i (by omega) (btC_2 (wayB_1 (by assumption))), Bool.and_false]) | (rw [beatB_f hn_ i (by omega) (btC_3 (by rw [sqr_comm]; exact Int.not_le.2 (dT (by assumption)))), Bool.and_false])
   exact ⟨rfl, H6⟩


--# iValidBeat_any
theorem iValidBeat_any (F : Fld) (hF : F.wf) (xs : List Int) (n b2 cap : Nat) (cs : Array Value) (hS : SlI cs n cap .i16 xs) (hn : n ≤ 1048576) (hw16 : ∀ i, -32768 ≤ atI xs i ∧ atI xs i ≤ 32767) (w : World) (hb2 : Blk w b2 24 cs) :
 Calls Try.prog 21 #[.agg F.cells, .slice (some ⟨b2, 0, none⟩) n cap] w fun e w' => e = .returned (.bool (okB F && beatB F xs)) ∧ Ext w w' := by
 have hn_ := hS.len
 refine calls_of_wp Try.func21 rfl ?_
 refine wp_frame (a' := ⟨#[.agg F.cells, .slice (some ⟨b2, 0, none⟩) n cap, undef, undef, undef, undef, undef, undef, undef, undef, undef], []⟩) (by kernel_rfl) ?_
 refine wsr ?_
 refine wbox F.cells ?_
 intro g1 w1 B1 E1 _
 refine wv (.bool false) ?_
 refine wpList_nil (then_normal ?_)
 refine wsr ?_
 refine wrow row_impl_Field B1 (by exact Fld.size_cells _) ?_
 refine wcl (iValidField_any F hF _) ?_
 intro w2 E2
 refine wv (.bool (okB F)) ?_
 have H1 := ((Ext.refl w).trans E1).trans E2
 refine split_bool (okB F) (fun h1 => ?_) (fun h1 => ?_)
 · skip
   refine wbl 7 true h1 ?_
   refine wv (.slice (some ⟨b2, 0, none⟩) n cap) ?_
   replace B1 := B1.ext E2
   replace hb2 := (hb2.ext E1).ext E2
   refine wcl (isBeat_any F hF g1 _ xs n b2 cap cs hS (by omega) hw16 _ B1 hb2) ?_
   intro w3 E3
   refine wv (.bool (beatB F xs)) ?_
   refine wv (.bool (beatB F xs)) ?_
   refine wpList_nil (then_normal ?_)
   refine wp_ret ?_
   have H2 := H1.trans E3
   refine ret1 (.bool (okB F && beatB F xs)) rfl ?_ rfl ?_
   · refine (resT (v := .bool (beatB F xs)) (by kernel_rfl)).trans ?_
     refine congrArg Value.bool ?_
     simp [*]
   exact ⟨rfl, H2⟩
 · skip
   refine wbl 7 false h1 ?_
   refine wsk ?_
   refine wsk ?_
   refine wv (.bool false) ?_
   refine wv (.bool false) ?_
   refine wpList_nil (then_normal ?_)
   refine wp_ret ?_
   refine ret1 (.bool (okB F && beatB F xs)) rfl ?_ rfl ?_
   · refine (resT (v := .bool false) (by kernel_rfl)).trans ?_
     refine congrArg Value.bool ?_
     simp [*]
   exact ⟨rfl, H1⟩


--# isPlace_any
theorem isPlace_any (F : Fld) (hF : F.wf) (b : Nat) (t : TypeId) (c : Int) (w : World) (hb : Blk w b t F.cells) :
 Calls Try.prog 51 #[.pointer (some ⟨b, 0, none⟩), .int .i64 c] w fun e w' => e = .returned (.bool (isB F c && (F.k c.toNat != 3))) ∧ Ext w w' := by
 refine calls_of_wp Try.func51 rfl ?_
 refine wp_frame (a' := ⟨#[.pointer (some ⟨b, 0, none⟩), .int .i64 c, undef, undef, undef, undef, undef, undef, undef, undef, undef, undef, undef, undef, undef, undef, undef], []⟩) (by kernel_rfl) ?_
 refine wsr ?_
 refine wv (.bool false) ?_
 refine wpList_nil (then_normal ?_)
 refine wsr ?_
 refine wv (.pointer (some ⟨b, 0, none⟩)) ?_
 refine wv (.int .i64 c) ?_
 refine wcl (has_any F hF b _ c _ hb) ?_
 intro w1 E1
 refine wv (.bool (isB F c)) ?_
 refine split_bool (isB F c) (fun h1 => ?_) (fun h1 => ?_)
 · skip
   refine wbl 8 true h1 ?_
   have h1d := isB_true.1 h1
   refine wv (.pointer (some ⟨b, 0, none⟩)) ?_
   refine wv (.int .i64 c) ?_
   refine wv (.pointer (some ⟨b, 0, none⟩)) ?_
   refine wv (.pointer (some ⟨b, 2, none⟩)) ?_
   refine wix b 2 c .i64 arrt__100_uint8 ?_
   replace hb := hb.ext E1
   have ce1 := hF.k1 ((c).toNat) (by omega)
   refine wld b (2 + (c).toNat) scal_uint8 (hb.get (Fld.getk _ _ (by omega))) ?_
   refine wv (.bool ((F.k ((c).toNat)) != 3)) ?_
   refine wv (.bool ((F.k ((c).toNat)) != 3)) ?_
   refine wv (.bool ((F.k ((c).toNat)) != 3)) ?_
   refine wpList_nil (then_normal ?_)
   refine wp_ret ?_
   have H1 := (Ext.refl w).trans E1
   refine ret1 (.bool (isB F c && (F.k c.toNat != 3))) rfl ?_ rfl ?_
   · refine (resT (v := .bool ((F.k ((c).toNat)) != 3)) (by kernel_rfl)).trans ?_
     refine congrArg Value.bool ?_
     simp [*]
   exact ⟨rfl, H1⟩
 · skip
   refine wbl 8 false h1 ?_
   refine wsk ?_
   refine wsk ?_
   refine wsk ?_
   refine wsk ?_
   refine wsk ?_
   refine wsk ?_
   refine wsk ?_
   refine wv (.bool false) ?_
   refine wv (.bool false) ?_
   refine wpList_nil (then_normal ?_)
   refine wp_ret ?_
   have H2 := (Ext.refl w).trans E1
   refine ret1 (.bool (isB F c && (F.k c.toNat != 3))) rfl ?_ rfl ?_
   · refine (resT (v := .bool false) (by kernel_rfl)).trans ?_
     refine congrArg Value.bool ?_
     simp [*]
   exact ⟨rfl, H2⟩


--# l03Soil_any
theorem l03Soil_any (F : Fld) (hF : F.wf) (b : Nat) (t : TypeId) (c : Int) (w : World) (hb : Blk w b t F.cells) :
 Calls Try.prog 46 #[.pointer (some ⟨b, 0, none⟩), .int .i64 c] w fun e w' => e = .returned (.bool (isB F c && (F.k c.toNat == 0))) ∧ Ext w w' := by
 refine calls_of_wp Try.func46 rfl ?_
 refine wp_frame (a' := ⟨#[.pointer (some ⟨b, 0, none⟩), .int .i64 c, undef, undef, undef, undef, undef, undef, undef, undef, undef, undef, undef, undef, undef, undef, undef], []⟩) (by kernel_rfl) ?_
 refine wsr ?_
 refine wv (.bool false) ?_
 refine wpList_nil (then_normal ?_)
 refine wsr ?_
 refine wv (.pointer (some ⟨b, 0, none⟩)) ?_
 refine wv (.int .i64 c) ?_
 refine wcl (l01Is_any F hF b _ c _ hb) ?_
 intro w1 E1
 refine wv (.bool (isB F c)) ?_
 refine split_bool (isB F c) (fun h1 => ?_) (fun h1 => ?_)
 · skip
   refine wbl 8 true h1 ?_
   have h1d := isB_true.1 h1
   refine wv (.pointer (some ⟨b, 0, none⟩)) ?_
   refine wv (.int .i64 c) ?_
   refine wv (.pointer (some ⟨b, 0, none⟩)) ?_
   refine wv (.pointer (some ⟨b, 2, none⟩)) ?_
   refine wix b 2 c .i64 arrt__100_uint8 ?_
   replace hb := hb.ext E1
   have ce1 := hF.k1 ((c).toNat) (by omega)
   refine wld b (2 + (c).toNat) scal_uint8 (hb.get (Fld.getk _ _ (by omega))) ?_
   refine wv (.bool ((F.k ((c).toNat)) == 0)) ?_
   refine wv (.bool ((F.k ((c).toNat)) == 0)) ?_
   refine wv (.bool ((F.k ((c).toNat)) == 0)) ?_
   refine wpList_nil (then_normal ?_)
   refine wp_ret ?_
   have H1 := (Ext.refl w).trans E1
   refine ret1 (.bool (isB F c && (F.k c.toNat == 0))) rfl ?_ rfl ?_
   · refine (resT (v := .bool ((F.k ((c).toNat)) == 0)) (by kernel_rfl)).trans ?_
     refine congrArg Value.bool ?_
     simp [*]
   exact ⟨rfl, H1⟩
 · skip
   refine wbl 8 false h1 ?_
   refine wsk ?_
   refine wsk ?_
   refine wsk ?_
   refine wsk ?_
   refine wsk ?_
   refine wsk ?_
   refine wsk ?_
   refine wv (.bool false) ?_
   refine wv (.bool false) ?_
   refine wpList_nil (then_normal ?_)
   refine wp_ret ?_
   have H2 := (Ext.refl w).trans E1
   refine ret1 (.bool (isB F c && (F.k c.toNat == 0))) rfl ?_ rfl ?_
   · refine (resT (v := .bool false) (by kernel_rfl)).trans ?_
     refine congrArg Value.bool ?_
     simp [*]
   exact ⟨rfl, H2⟩


--# fear_any
theorem fear_any (p w0 : Int) (c : Int) (hp : 0 ≤ p ∧ p ≤ 99) (hw0 : 0 ≤ w0 ∧ w0 ≤ 1000) (hc : 0 ≤ c ∧ c ≤ 99) (w : World) :
 Calls Try.prog 74 #[.agg #[.int .i16 p, .int .i16 w0, .int .i8 0], .int .i64 c] w fun e w' => e = .returned (.int .i64 (w0 / (1 + sqr p c))) ∧ Ext w w' := by
 have sb_ := sqr_b p c (by omega) (by omega)
 refine calls_of_wp Try.func74 rfl ?_
 refine wp_frame (a' := ⟨#[.agg #[.int .i16 p, .int .i16 w0, .int .i8 0], .int .i64 c, undef, undef, undef, undef, undef, undef, undef, undef, undef, undef, undef, undef, undef, undef, undef, undef, undef], []⟩) (by kernel_rfl) ?_
 refine wsr ?_
 refine wbox #[.int .i16 p, .int .i16 w0, .int .i8 0] ?_
 intro g1 w1 B1 E1 _
 refine wv (.int .i64 0) ?_
 refine wpList_nil (then_normal ?_)
 refine wp_seq ?_
 refine wp_frame (a' := ⟨#[.agg #[.int .i16 p, .int .i16 w0, .int .i8 0], .int .i64 c, .pointer (some ⟨g1, 0, none⟩), undef, .int .i64 0, undef, undef, undef, undef, undef, undef, undef, undef, undef, undef, undef, undef, undef, undef], []⟩) (by kernel_rfl) ?_
 have ed1 := Int.ediv_nonneg (show 0 ≤ w0 by omega) (show 0 ≤ (1 + (sqr p c)) by omega)
 have ed2 := Int.ediv_le_self (1 + (sqr p c)) (show 0 ≤ w0 by omega)
 refine region_go 15 [5, 6, 7, 8, 9, 10, 11, 12, 13, 14, 15, 16, 17, 18, 4] [[], [0], [1], [], [3], [4], [2, 5], [], [7], [8], [], [9, 10], [11], [6, 12], [13]]
  (fun i_ => ([.val (.pointer (some ⟨g1, 1, none⟩)), .val (.int .i16 w0), .val (.int .i64 w0), .val (.pointer (some ⟨g1, 2, none⟩)), .val (.int .i8 0), .val (.int .i8 0), .val (.int .i64 w0), .val (.pointer (some ⟨g1, 0, none⟩)), .val (.int .i16 p), .val (.int .i64 p), .val (.int .i64 c), .val (.int .i64 (sqr p c)), .val (.int .i64 (1 + (sqr p c))), .val (.int .i64 (w0 / (1 + (sqr p c)))), .val (.int .i64 (w0 / (1 + (sqr p c))))] : List Fct).getD i_ .any)
  (by kernel_rfl) (by kernel_rfl) (by decide) (by simp) rfl (all_succ (all_succ (all_succ (all_succ (all_succ (all_succ (all_succ (all_succ (all_succ (all_succ (all_succ (all_succ (all_succ (all_succ (all_succ all_zero ?_) ?_) ?_) ?_) ?_) ?_) ?_) ?_) ?_) ?_) ?_) ?_) ?_) ?_) ?_) ?_
 · refine step0 rfl rfl rfl (fun wr hw => ?_)
   exact OpRun.val (.pointer (some ⟨g1, 1, none⟩)) (.pointer (some ⟨g1, 1, none⟩)) (by kernel_rfl) rfl ⟨Ext.refl _, rfl⟩
 · refine step1 rfl rfl rfl rfl (fun u0 wr hw h0 => ?_)
   cases h0
   exact OpRun.cell (g := g1) (off := 1) (v := .int .i16 w0) scal_int16 rfl (by kernel_rfl) ((B1.ext hw).get (rfl)) ⟨Ext.refl _, rfl⟩
 · refine step1 rfl rfl rfl rfl (fun u0 wr hw h0 => ?_)
   cases h0
   exact OpRun.val (.int .i64 (IntKind.i64.wrap w0)) (.int .i64 w0) (by kernel_rfl) (by exact congrArg _ (IntWalk.i64_in _ (by omega))) ⟨Ext.refl _, rfl⟩
 · refine step0 rfl rfl rfl (fun wr hw => ?_)
   exact OpRun.val (.pointer (some ⟨g1, 2, none⟩)) (.pointer (some ⟨g1, 2, none⟩)) (by kernel_rfl) rfl ⟨Ext.refl _, rfl⟩
 · refine step1 rfl rfl rfl rfl (fun u0 wr hw h0 => ?_)
   cases h0
   exact OpRun.cell (g := g1) (off := 2) (v := .int .i8 0) scal_int8 rfl (by kernel_rfl) ((B1.ext hw).get (rfl)) ⟨Ext.refl _, rfl⟩
 · refine step1 rfl rfl rfl rfl (fun u0 wr hw h0 => ?_)
   cases h0
   exact OpRun.val (.int .i8 0) (.int .i8 0) (by kernel_rfl) rfl ⟨Ext.refl _, rfl⟩
 · refine step2 rfl rfl rfl rfl rfl (fun u0 u1 wr hw h0 h1 => ?_)
   cases h0
   cases h1
   exact OpRun.shr (k := .i64) (k2 := .i8) (a := w0) (n := 0) rfl (by kernel_rfl) (by kernel_rfl) (by omega) (by simp only [IntKind.bits]; omega) ⟨Ext.refl _, congrArg (Value.int _) (by simp)⟩
 · refine step0 rfl rfl rfl (fun wr hw => ?_)
   exact OpRun.val (.pointer (some ⟨g1, 0, none⟩)) (.pointer (some ⟨g1, 0, none⟩)) (by kernel_rfl) rfl ⟨Ext.refl _, rfl⟩
 · refine step1 rfl rfl rfl rfl (fun u0 wr hw h0 => ?_)
   cases h0
   exact OpRun.cell (g := g1) (off := 0) (v := .int .i16 p) scal_int16 rfl (by kernel_rfl) ((B1.ext hw).get (rfl)) ⟨Ext.refl _, rfl⟩
 · refine step1 rfl rfl rfl rfl (fun u0 wr hw h0 => ?_)
   cases h0
   exact OpRun.val (.int .i64 (IntKind.i64.wrap p)) (.int .i64 p) (by kernel_rfl) (by exact congrArg _ (IntWalk.i64_in _ (by omega))) ⟨Ext.refl _, rfl⟩
 · refine step0 rfl rfl rfl (fun wr hw => ?_)
   exact OpRun.val (.int .i64 c) (.int .i64 c) (by kernel_rfl) rfl ⟨Ext.refl _, rfl⟩
 · refine step2 rfl rfl rfl rfl rfl (fun u0 u1 wr hw h0 h1 => ?_)
   cases h0
   cases h1
   exact OpRun.call 70 #[.int .i64 p, .int .i64 c] (by kernel_rfl) ((square_any p c (by omega) (by omega) _).mono fun e w1 ⟨he, hb⟩ => ⟨_, he, hb, rfl⟩)
 · refine step1 rfl rfl rfl rfl (fun u0 wr hw h0 => ?_)
   cases h0
   exact OpRun.val (.int .i64 (IntKind.i64.wrap (1 + (sqr p c)))) (.int .i64 (1 + (sqr p c))) (by kernel_rfl) (by exact congrArg _ (IntWalk.i64_in _ (by omega))) ⟨Ext.refl _, rfl⟩
 · refine step2 rfl rfl rfl rfl rfl (fun u0 u1 wr hw h0 h1 => ?_)
   cases h0
   cases h1
   exact OpRun.quoz w0 (1 + (sqr p c)) rfl (by kernel_rfl) (by kernel_rfl) (by omega) (by omega) ⟨Ext.refl _, rfl⟩
 · refine step1 rfl rfl rfl rfl (fun u0 wr hw h0 => ?_)
   cases h0
   exact OpRun.val (.int .i64 (w0 / (1 + (sqr p c)))) (.int .i64 (w0 / (1 + (sqr p c)))) (by kernel_rfl) rfl ⟨Ext.refl _, rfl⟩
 refine end15 (fun u0 u1 u2 u3 u4 u5 u6 u7 u8 u9 u10 u11 u12 u13 u14 w2 E2 f0 f1 f2 f3 f4 f5 f6 f7 f8 f9 f10 f11 f12 f13 f14 => ?_)
 cases f0
 cases f1
 cases f2
 cases f3
 cases f4
 cases f5
 cases f6
 cases f7
 cases f8
 cases f9
 cases f10
 cases f11
 cases f12
 cases f13
 cases f14
 refine wpList_nil (then_normal ?_)
 refine wp_ret ?_
 have H1 := ((Ext.refl w).trans E1).trans E2
 refine ret1 (.int .i64 (w0 / (1 + sqr p c))) rfl ?_ rfl ?_
 · refine (resT (v := .int .i64 (w0 / (1 + (sqr p c)))) (by kernel_rfl)).trans ?_
   refine congrArg (Value.int _) ?_
   rfl
 exact ⟨rfl, H1⟩


--# isPower_any
theorem isPower_any (n : Int) (w : World) :
 Calls Try.prog 49 #[.int .i64 n] w fun e w' => e = .returned (.bool (inB n 1 1000)) ∧ Ext w w' := by
 refine calls_of_wp Try.func49 rfl ?_
 refine wp_frame (a' := ⟨#[.int .i64 n, undef, undef, undef, undef], []⟩) (by kernel_rfl) ?_
 refine wsr ?_
 refine wv (.bool false) ?_
 refine wpList_nil (then_normal ?_)
 refine wsr ?_
 refine wv (.int .i64 n) ?_
 refine wcl (within_any n 1 1000 _) ?_
 intro w1 E1
 refine wv (.bool (inB n 1 1000)) ?_
 refine wpList_nil (then_normal ?_)
 refine wp_ret ?_
 have H1 := (Ext.refl w).trans E1
 refine ret1 (.bool (inB n 1 1000)) rfl ?_ rfl ?_
 · exact resT (by kernel_rfl)
 exact ⟨rfl, H1⟩


--# l03Power_any
theorem l03Power_any (n : Int) (w : World) :
 Calls Try.prog 64 #[.int .i64 n] w fun e w' => e = .returned (.bool (inB n 1 1000)) ∧ Ext w w' := by
 refine calls_of_wp Try.func64 rfl ?_
 refine wp_frame (a' := ⟨#[.int .i64 n, undef, undef, undef, undef], []⟩) (by kernel_rfl) ?_
 refine wsr ?_
 refine wv (.bool false) ?_
 refine wpList_nil (then_normal ?_)
 refine wsr ?_
 refine wv (.int .i64 n) ?_
 refine wcl (l00In_any n 1 1000 _) ?_
 intro w1 E1
 refine wv (.bool (inB n 1 1000)) ?_
 refine wpList_nil (then_normal ?_)
 refine wp_ret ?_
 have H1 := (Ext.refl w).trans E1
 refine ret1 (.bool (inB n 1 1000)) rfl ?_ rfl ?_
 · exact resT (by kernel_rfl)
 exact ⟨rfl, H1⟩


--# arePowers_any
theorem arePowers_any (m : Int) (n : Int) (w : World) :
 Calls Try.prog 32 #[.int .i64 m, .int .i64 n] w fun e w' => e = .returned (.bool (inB m 1 1000 && inB n 1 1000)) ∧ Ext w w' := by
 refine calls_of_wp Try.func32 rfl ?_
 refine wp_frame (a' := ⟨#[.int .i64 m, .int .i64 n, undef, undef, undef, undef, undef, undef, undef, undef, undef], []⟩) (by kernel_rfl) ?_
 refine wsr ?_
 refine wv (.bool false) ?_
 refine wpList_nil (then_normal ?_)
 refine wsr ?_
 refine wv (.int .i64 m) ?_
 refine wcl (isPower_any m _) ?_
 intro w1 E1
 refine wv (.bool (inB m 1 1000)) ?_
 refine split_bool (inB m 1 1000) (fun h1 => ?_) (fun h1 => ?_)
 · skip
   refine wbl 7 true h1 ?_
   have h1d := inT h1
   refine wv (.int .i64 n) ?_
   refine wcl (isPower_any n _) ?_
   intro w2 E2
   refine wv (.bool (inB n 1 1000)) ?_
   refine wv (.bool (inB n 1 1000)) ?_
   refine wpList_nil (then_normal ?_)
   refine wp_ret ?_
   have H1 := ((Ext.refl w).trans E1).trans E2
   refine ret1 (.bool (inB m 1 1000 && inB n 1 1000)) rfl ?_ rfl ?_
   · refine (resT (v := .bool (inB n 1 1000)) (by kernel_rfl)).trans ?_
     refine congrArg Value.bool ?_
     simp [*]
   exact ⟨rfl, H1⟩
 · skip
   refine wbl 7 false h1 ?_
   have h1d := inF h1
   refine wsk ?_
   refine wsk ?_
   refine wv (.bool false) ?_
   refine wv (.bool false) ?_
   refine wpList_nil (then_normal ?_)
   refine wp_ret ?_
   have H2 := (Ext.refl w).trans E1
   refine ret1 (.bool (inB m 1 1000 && inB n 1 1000)) rfl ?_ rfl ?_
   · refine (resT (v := .bool false) (by kernel_rfl)).trans ?_
     refine congrArg Value.bool ?_
     simp [*]
   exact ⟨rfl, H2⟩


--# l03Numbers_any
theorem l03Numbers_any (m : Int) (n : Int) (w : World) :
 Calls Try.prog 43 #[.int .i64 m, .int .i64 n] w fun e w' => e = .returned (.bool (inB m 1 1000 && inB n 1 1000)) ∧ Ext w w' := by
 refine calls_of_wp Try.func43 rfl ?_
 refine wp_frame (a' := ⟨#[.int .i64 m, .int .i64 n, undef, undef, undef, undef, undef, undef, undef, undef, undef], []⟩) (by kernel_rfl) ?_
 refine wsr ?_
 refine wv (.bool false) ?_
 refine wpList_nil (then_normal ?_)
 refine wsr ?_
 refine wv (.int .i64 m) ?_
 refine wcl (l03Power_any m _) ?_
 intro w1 E1
 refine wv (.bool (inB m 1 1000)) ?_
 refine split_bool (inB m 1 1000) (fun h1 => ?_) (fun h1 => ?_)
 · skip
   refine wbl 7 true h1 ?_
   have h1d := inT h1
   refine wv (.int .i64 n) ?_
   refine wcl (l03Power_any n _) ?_
   intro w2 E2
   refine wv (.bool (inB n 1 1000)) ?_
   refine wv (.bool (inB n 1 1000)) ?_
   refine wpList_nil (then_normal ?_)
   refine wp_ret ?_
   have H1 := ((Ext.refl w).trans E1).trans E2
   refine ret1 (.bool (inB m 1 1000 && inB n 1 1000)) rfl ?_ rfl ?_
   · refine (resT (v := .bool (inB n 1 1000)) (by kernel_rfl)).trans ?_
     refine congrArg Value.bool ?_
     simp [*]
   exact ⟨rfl, H1⟩
 · skip
   refine wbl 7 false h1 ?_
   have h1d := inF h1
   refine wsk ?_
   refine wsk ?_
   refine wv (.bool false) ?_
   refine wv (.bool false) ?_
   refine wpList_nil (then_normal ?_)
   refine wp_ret ?_
   have H2 := (Ext.refl w).trans E1
   refine ret1 (.bool (inB m 1 1000 && inB n 1 1000)) rfl ?_ rfl ?_
   · refine (resT (v := .bool false) (by kernel_rfl)).trans ?_
     refine congrArg Value.bool ?_
     simp [*]
   exact ⟨rfl, H2⟩


--# l03Covers_any
theorem l03Covers_any (F : Fld) (hF : F.wf) (b : Nat) (t : TypeId) (p : Int) (c : Int) (w0 : Int) (l : Int) (hpc : (0 ≤ p ∧ p ≤ 99) ∧ (0 ≤ c ∧ c ≤ 99)) (hw0 : 0 ≤ w0 ∧ w0 ≤ 1000) (w : World) (hb : Blk w b t F.cells) :
 Calls Try.prog 44 #[.pointer (some ⟨b, 0, none⟩), .int .i64 p, .int .i64 c, .int .i64 w0, .int .i64 l] w fun e w' => e = .returned (.bool (isB F p && cvR F p c w0 l)) ∧ Ext w w' := by
 have sb_ := sqr_b p c (by omega) (by omega)
 refine calls_of_wp Try.func44 rfl ?_
 refine wp_frame (a' := ⟨#[.pointer (some ⟨b, 0, none⟩), .int .i64 p, .int .i64 c, .int .i64 w0, .int .i64 l, undef, undef, undef, undef, undef, undef, undef, undef, undef, undef, undef, undef, undef, undef, undef, undef, undef, undef, undef, undef, undef, undef, undef, undef, undef, undef, undef, undef, undef, undef, undef, undef, undef], []⟩) (by kernel_rfl) ?_
 refine wsr ?_
 refine wv (.bool false) ?_
 refine wpList_nil (then_normal ?_)
 refine wp_seq ?_
 refine wsr ?_
 refine wv (.pointer (some ⟨b, 0, none⟩)) ?_
 refine wv (.int .i64 p) ?_
 refine wcl (l01Is_any F hF b _ p _ hb) ?_
 intro w1 E1
 refine wv (.bool (!(isB F p))) ?_
 refine wv (.bool (!(isB F p))) ?_
 refine split_bool (isB F p) (fun h1 => ?_) (fun h1 => ?_)
 · skip
   refine wbl 15 false (bnT h1) ?_
   have h1d := isB_true.1 h1
   refine wv (.pointer (some ⟨b, 0, none⟩)) ?_
   refine wv (.int .i64 p) ?_
   refine wv (.pointer (some ⟨b, 0, none⟩)) ?_
   refine wv (.pointer (some ⟨b, 2, none⟩)) ?_
   refine wix b 2 p .i64 arrt__100_uint8 ?_
   replace hb := hb.ext E1
   have ce1 := hF.k1 ((p).toNat) (by omega)
   refine wld b (2 + (p).toNat) scal_uint8 (hb.get (Fld.getk _ _ (by omega))) ?_
   refine wv (.bool ((F.k ((p).toNat)) == 3)) ?_
   refine wv (.bool ((F.k ((p).toNat)) == 3)) ?_
   refine wv (.bool ((F.k ((p).toNat)) == 3)) ?_
   refine split_bool ((F.k ((p).toNat)) == 3) (fun h2 => ?_) (fun h2 => ?_)
   · skip
     refine wbl 24 true h2 ?_
     have h2d := eT h2
     refine wsk ?_
     refine wsk ?_
     refine wsk ?_
     refine wsk ?_
     refine wv (.bool true) ?_
     refine wpList_nil (then_normal ?_)
     refine wct ?_
     refine wsr ?_
     refine wv (.bool false) ?_
     refine wpList_nil (then_normal ?_)
     refine wp_ret ?_
     refine then_ret ?_
     have H1 := (Ext.refl w).trans E1
     refine ret1 (.bool (isB F p && cvR F p c w0 l)) rfl ?_ rfl ?_
     · refine (resT (v := .bool false) (by kernel_rfl)).trans ?_
       refine congrArg Value.bool ?_
       first | (rw [show isB F p = false by assumption]; rfl) | (rw [show isB F p = true by assumption, Bool.true_and]; first | exact (cvR_1 (by assumption)).symm | exact (cvR_1 (bneF (by assumption))).symm | exact (cvR_4 (by assumption)).symm | exact (cvR_t (bneT (by assumption)) (by assumption) (by assumption)).symm | skip)
     exact ⟨rfl, H1⟩
   · skip
     refine wbl 24 false h2 ?_
     have h2d := eF h2
     refine wv (.pointer (some ⟨b, 0, none⟩)) ?_
     refine wv (.int .i64 c) ?_
     refine wcl (l03Soil_any F hF b _ c _ hb) ?_
     intro w2 E2
     refine wv (.bool (!(isB F c && (F.k c.toNat == 0)))) ?_
     refine wv (.bool (!(isB F c && (F.k c.toNat == 0)))) ?_
     refine wpList_nil (then_normal ?_)
     have H2 := ((Ext.refl w).trans E1).trans E2
     refine wsplit (!(isB F c && (F.k c.toNat == 0))) (fun h3 => ?_) (fun h3 => ?_)
     · skip
       replace h3 := nbT h3
       refine wsr ?_
       refine wv (.bool false) ?_
       refine wpList_nil (then_normal ?_)
       refine wp_ret ?_
       refine then_ret ?_
       refine ret1 (.bool (isB F p && cvR F p c w0 l)) rfl ?_ rfl ?_
       · refine (resT (v := .bool false) (by kernel_rfl)).trans ?_
         refine congrArg Value.bool ?_
         first | (rw [show isB F p = false by assumption]; rfl) | (rw [show isB F p = true by assumption, Bool.true_and]; first | exact (cvR_1 (by assumption)).symm | exact (cvR_1 (bneF (by assumption))).symm | exact (cvR_4 (by assumption)).symm | exact (cvR_t (bneT (by assumption)) (by assumption) (by assumption)).symm | skip)
       exact ⟨rfl, H2⟩
     · skip
       replace h3 := nbF h3
       obtain ⟨h3a, h3b⟩ := andT h3
       have h3ad := isB_true.1 h3a
       have h3bd := eT h3b
       refine wp_skip ?_
       refine then_normal ?_
       refine wsr ?_
       refine wv (.int .i64 w0) ?_
       refine wv (.int .i64 p) ?_
       refine wv (.int .i64 c) ?_
       refine wcl (l01Square_any p c (by omega) (by omega) _) ?_
       intro w3 E3
       refine wi64 (1 + (sqr p c)) ?_
       have ed1 := Int.ediv_nonneg (show 0 ≤ w0 by omega) (show 0 ≤ (1 + (sqr p c)) by omega)
       have ed2 := Int.ediv_le_self (1 + (sqr p c)) (show 0 ≤ w0 by omega)
       refine wquoz w0 (1 + (sqr p c)) ?_
       refine wv (.int .i64 l) ?_
       refine wv (.bool (decide (l ≤ w0 / (1 + (sqr p c))))) ?_
       refine wv (.bool (decide (l ≤ w0 / (1 + (sqr p c))))) ?_
       refine wpList_nil (then_normal ?_)
       refine wp_frame (a' := ⟨#[.pointer (some ⟨b, 0, none⟩), .int .i64 p, .int .i64 c, .int .i64 w0, .int .i64 l, undef, undef, undef, undef, undef, .bool (decide (l ≤ w0 / (1 + (sqr p c)))), .pointer (some ⟨b, 0, none⟩), .int .i64 p, .bool (isB F p), .bool (!(isB F p)), .bool false, .pointer (some ⟨b, 0, none⟩), .int .i64 p, .pointer (some ⟨b, 0, none⟩), .pointer (some ⟨b, 2, none⟩), .pointer (some ⟨b, 2 + (p).toNat, none⟩), .int .u8 (F.k ((p).toNat)), .bool ((F.k ((p).toNat)) == 3), .bool ((F.k ((p).toNat)) == 3), .bool false, .pointer (some ⟨b, 0, none⟩), .int .i64 c, .bool (isB F c && (F.k c.toNat == 0)), .bool (!(isB F c && (F.k c.toNat == 0))), .bool (!(isB F c && (F.k c.toNat == 0))), .int .i64 w0, .int .i64 p, .int .i64 c, .int .i64 (sqr p c), .int .i64 (1 + (sqr p c)), .int .i64 (w0 / (1 + (sqr p c))), .int .i64 l, .bool (decide (l ≤ w0 / (1 + (sqr p c))))], []⟩) (by kernel_rfl) ?_
       refine wp_ret ?_
       have H3 := H2.trans E3
       refine ret1 (.bool (isB F p && cvR F p c w0 l)) rfl ?_ rfl ?_
       · refine (resT (v := .bool (decide (l ≤ w0 / (1 + (sqr p c))))) (by kernel_rfl)).trans ?_
         refine congrArg Value.bool ?_
         first | (rw [show isB F p = false by assumption]; rfl) | (rw [show isB F p = true by assumption, Bool.true_and]; first | exact (cvR_1 (by assumption)).symm | exact (cvR_1 (bneF (by assumption))).symm | exact (cvR_4 (by assumption)).symm | exact (cvR_t (bneT (by assumption)) (by assumption) (by assumption)).symm | skip)
       exact ⟨rfl, H3⟩
 · skip
   refine wbl 15 true (bnF h1) ?_
   refine wsk ?_
   refine wsk ?_
   refine wsk ?_
   refine wsk ?_
   refine wsk ?_
   refine wsk ?_
   refine wsk ?_
   refine wv (.bool true) ?_
   refine wv (.bool true) ?_
   refine wsk ?_
   refine wsk ?_
   refine wsk ?_
   refine wsk ?_
   refine wv (.bool true) ?_
   refine wpList_nil (then_normal ?_)
   refine wct ?_
   refine wsr ?_
   refine wv (.bool false) ?_
   refine wpList_nil (then_normal ?_)
   refine wp_ret ?_
   refine then_ret ?_
   have H4 := (Ext.refl w).trans E1
   refine ret1 (.bool (isB F p && cvR F p c w0 l)) rfl ?_ rfl ?_
   · refine (resT (v := .bool false) (by kernel_rfl)).trans ?_
     refine congrArg Value.bool ?_
     first | (rw [show isB F p = false by assumption]; rfl) | (rw [show isB F p = true by assumption, Bool.true_and]; first | exact (cvR_1 (by assumption)).symm | exact (cvR_1 (bneF (by assumption))).symm | exact (cvR_4 (by assumption)).symm | exact (cvR_t (bneT (by assumption)) (by assumption) (by assumption)).symm | skip)
   exact ⟨rfl, H4⟩


