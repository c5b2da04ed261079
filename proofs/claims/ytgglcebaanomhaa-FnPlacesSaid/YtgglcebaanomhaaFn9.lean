/-
 Contracts: beats, covers. No conditions.
-/
import Derived.Test.YtgglcebaanomhaaTy
import Derived.Test.YtgglcebaanomhaaSl
import Derived.Test.YtgglcebaanomhaaMth
import Derived.Test.YtgglcebaanomhaaFn7
import Derived.Test.YtgglcebaanomhaaSl2
namespace Go.Proofs.Ytgglcebaanomhaa
open Go.RowKit
set_option linter.unusedSimpArgs false
set_option linter.unusedVariables false
set_option maxHeartbeats 4000000
set_option maxRecDepth 100000
attribute [local irreducible] wpList Code.wp
theorem isPlace_any (F : Fld) (hF : F.wf) (b : Nat) (t : TypeId) (c : Int) (w : World) (hb : Blk w b t F.cells) :
 Calls Try.prog 63 #[.pointer (some ⟨b, 0, none⟩), .int .i64 c] w fun e w' => e = .returned (.bool (isB F c && (F.k c.toNat != 3))) ∧ Ext w w' := by
 refine calls_of_wp Try.func63 rfl ?_
 refine wp_frame (a' := ⟨#[.pointer (some ⟨b, 0, none⟩), .int .i64 c, undef, undef, undef, undef, undef, undef, undef, undef, undef, undef, undef, undef, undef, undef, undef], []⟩) (by kernel_rfl) ?_
 refine wsr ?_
 refine wv (.bool false) ?_
 refine wpList_nil (then_normal ?_)
 refine wsr ?_
 refine wv (.pointer (some ⟨b, 0, none⟩)) ?_
 refine wv (.int .i64 c) ?_
 refine wcl (has_any F hF b _ c _ hb) ?_
 intro w1 E1
 refine wv (.bool (isB F c)) ?_
 refine split_bool (isB F c) (fun h1 => ?_) (fun h1 => ?_)
 ·skip
  refine wbl 8 true h1 ?_
  have h1d := isB_true.1 h1
  refine wv (.pointer (some ⟨b, 0, none⟩)) ?_
  refine wv (.int .i64 c) ?_
  refine wv (.pointer (some ⟨b, 0, none⟩)) ?_
  refine wv (.pointer (some ⟨b, 2, none⟩)) ?_
  refine wix b 2 c .i64 arrt__100_uint8 ?_
  replace hb := hb.ext E1
  have ce1 := hF.k1 ((c).toNat) (by omega)
  refine wld b (2 + (c).toNat) scal_uint8 (hb.get (Fld.getk _ _ (by omega))) ?_
  refine wv (.bool ((F.k ((c).toNat)) != 3)) ?_
  refine wv (.bool ((F.k ((c).toNat)) != 3)) ?_
  refine wv (.bool ((F.k ((c).toNat)) != 3)) ?_
  refine wpList_nil (then_normal ?_)
  refine wp_ret ?_
  have H1 := (Ext.refl w).trans E1
  refine ret1 (.bool (isB F c && (F.k c.toNat != 3))) rfl ?_ rfl ?_
  ·refine (resT (v := .bool ((F.k ((c).toNat)) != 3)) (by kernel_rfl)).trans ?_
   refine congrArg Value.bool ?_
   simp [*]
  exact ⟨rfl, H1⟩
 ·skip
  refine wbl 8 false h1 ?_
  refine wsk ?_
  refine wsk ?_
  refine wsk ?_
  refine wsk ?_
  refine wsk ?_
  refine wsk ?_
  refine wsk ?_
  refine wv (.bool false) ?_
  refine wv (.bool false) ?_
  refine wpList_nil (then_normal ?_)
  refine wp_ret ?_
  have H2 := (Ext.refl w).trans E1
  refine ret1 (.bool (isB F c && (F.k c.toNat != 3))) rfl ?_ rfl ?_
  ·refine (resT (v := .bool false) (by kernel_rfl)).trans ?_
   refine congrArg Value.bool ?_
   simp [*]
  exact ⟨rfl, H2⟩
theorem l03Soil_any (F : Fld) (hF : F.wf) (b : Nat) (t : TypeId) (c : Int) (w : World) (hb : Blk w b t F.cells) :
 Calls Try.prog 61 #[.pointer (some ⟨b, 0, none⟩), .int .i64 c] w fun e w' => e = .returned (.bool (isB F c && (F.k c.toNat == 0))) ∧ Ext w w' := by
 refine calls_of_wp Try.func61 rfl ?_
 refine wp_frame (a' := ⟨#[.pointer (some ⟨b, 0, none⟩), .int .i64 c, undef, undef, undef, undef, undef, undef, undef, undef, undef, undef, undef, undef, undef, undef, undef], []⟩) (by kernel_rfl) ?_
 refine wsr ?_
 refine wv (.bool false) ?_
 refine wpList_nil (then_normal ?_)
 refine wsr ?_
 refine wv (.pointer (some ⟨b, 0, none⟩)) ?_
 refine wv (.int .i64 c) ?_
 refine wcl (l01Is_any F hF b _ c _ hb) ?_
 intro w1 E1
 refine wv (.bool (isB F c)) ?_
 refine split_bool (isB F c) (fun h1 => ?_) (fun h1 => ?_)
 ·skip
  refine wbl 8 true h1 ?_
  have h1d := isB_true.1 h1
  refine wv (.pointer (some ⟨b, 0, none⟩)) ?_
  refine wv (.int .i64 c) ?_
  refine wv (.pointer (some ⟨b, 0, none⟩)) ?_
  refine wv (.pointer (some ⟨b, 2, none⟩)) ?_
  refine wix b 2 c .i64 arrt__100_uint8 ?_
  replace hb := hb.ext E1
  have ce1 := hF.k1 ((c).toNat) (by omega)
  refine wld b (2 + (c).toNat) scal_uint8 (hb.get (Fld.getk _ _ (by omega))) ?_
  refine wv (.bool ((F.k ((c).toNat)) == 0)) ?_
  refine wv (.bool ((F.k ((c).toNat)) == 0)) ?_
  refine wv (.bool ((F.k ((c).toNat)) == 0)) ?_
  refine wpList_nil (then_normal ?_)
  refine wp_ret ?_
  have H1 := (Ext.refl w).trans E1
  refine ret1 (.bool (isB F c && (F.k c.toNat == 0))) rfl ?_ rfl ?_
  ·refine (resT (v := .bool ((F.k ((c).toNat)) == 0)) (by kernel_rfl)).trans ?_
   refine congrArg Value.bool ?_
   simp [*]
  exact ⟨rfl, H1⟩
 ·skip
  refine wbl 8 false h1 ?_
  refine wsk ?_
  refine wsk ?_
  refine wsk ?_
  refine wsk ?_
  refine wsk ?_
  refine wsk ?_
  refine wsk ?_
  refine wv (.bool false) ?_
  refine wv (.bool false) ?_
  refine wpList_nil (then_normal ?_)
  refine wp_ret ?_
  have H2 := (Ext.refl w).trans E1
  refine ret1 (.bool (isB F c && (F.k c.toNat == 0))) rfl ?_ rfl ?_
  ·refine (resT (v := .bool false) (by kernel_rfl)).trans ?_
   refine congrArg Value.bool ?_
   simp [*]
  exact ⟨rfl, H2⟩
theorem fear_any (p w0 : Int) (c : Int) (hp : 0 ≤ p ∧ p ≤ 99) (hw0 : 0 ≤ w0 ∧ w0 ≤ 1000) (hc : 0 ≤ c ∧ c ≤ 99) (w : World) :
 Calls Try.prog 84 #[.agg #[.int .i16 p, .int .i16 w0, .int .i8 0], .int .i64 c] w fun e w' => e = .returned (.int .i64 (w0 / (1 + sqr p c))) ∧ Ext w w' := by
 have sb_ := sqr_b p c (by omega) (by omega)
 refine calls_of_wp Try.func84 rfl ?_
 refine wp_frame (a' := ⟨#[.agg #[.int .i16 p, .int .i16 w0, .int .i8 0], .int .i64 c, undef, undef, undef, undef, undef, undef, undef, undef, undef, undef, undef, undef, undef, undef, undef, undef, undef], []⟩) (by kernel_rfl) ?_
 refine wsr ?_
 refine wbox #[.int .i16 p, .int .i16 w0, .int .i8 0] ?_
 intro g1 w1 B1 E1 _
 refine wv (.int .i64 0) ?_
 refine wpList_nil (then_normal ?_)
 refine wp_seq ?_
 refine wp_frame (a' := ⟨#[.agg #[.int .i16 p, .int .i16 w0, .int .i8 0], .int .i64 c, .pointer (some ⟨g1, 0, none⟩), undef, .int .i64 0, undef, undef, undef, undef, undef, undef, undef, undef, undef, undef, undef, undef, undef, undef], []⟩) (by kernel_rfl) ?_
 have ed1 := Int.ediv_nonneg (show 0 ≤ w0 by omega) (show 0 ≤ (1 + (sqr p c)) by omega)
 have ed2 := Int.ediv_le_self (1 + (sqr p c)) (show 0 ≤ w0 by omega)
 refine region_go 15 [5, 6, 7, 8, 9, 10, 11, 12, 13, 14, 15, 16, 17, 18, 4] [[], [0], [1], [], [3], [4], [2, 5], [], [7], [8], [], [9, 10], [11], [6, 12], [13]]
  (fun i_ => ([.val (.pointer (some ⟨g1, 1, none⟩)), .val (.int .i16 w0), .val (.int .i64 w0), .val (.pointer (some ⟨g1, 2, none⟩)), .val (.int .i8 0), .val (.int .i8 0), .val (.int .i64 w0), .val (.pointer (some ⟨g1, 0, none⟩)), .val (.int .i16 p), .val (.int .i64 p), .val (.int .i64 c), .val (.int .i64 (sqr p c)), .val (.int .i64 (1 + (sqr p c))), .val (.int .i64 (w0 / (1 + (sqr p c)))), .val (.int .i64 (w0 / (1 + (sqr p c))))] : List Fct).getD i_ .any)
  (by kernel_rfl) (by kernel_rfl) (by decide) (by simp) rfl (all_succ (all_succ (all_succ (all_succ (all_succ (all_succ (all_succ (all_succ (all_succ (all_succ (all_succ (all_succ (all_succ (all_succ (all_succ all_zero ?_) ?_) ?_) ?_) ?_) ?_) ?_) ?_) ?_) ?_) ?_) ?_) ?_) ?_) ?_) ?_
 ·refine step0 rfl rfl rfl (fun wr hw => ?_)
  exact OpRun.val (.pointer (some ⟨g1, 1, none⟩)) (.pointer (some ⟨g1, 1, none⟩)) (by kernel_rfl) rfl ⟨Ext.refl _, rfl⟩
 ·refine step1 rfl rfl rfl rfl (fun u0 wr hw h0 => ?_)
  cases h0
  exact OpRun.cell (g := g1) (off := 1) (v := .int .i16 w0) scal_int16 rfl (by kernel_rfl) ((B1.ext hw).get (rfl)) ⟨Ext.refl _, rfl⟩
 ·refine step1 rfl rfl rfl rfl (fun u0 wr hw h0 => ?_)
  cases h0
  exact OpRun.val (.int .i64 (IntKind.i64.wrap w0)) (.int .i64 w0) (by kernel_rfl) (by exact congrArg _ (IntWalk.i64_in _ (by omega))) ⟨Ext.refl _, rfl⟩
 ·refine step0 rfl rfl rfl (fun wr hw => ?_)
  exact OpRun.val (.pointer (some ⟨g1, 2, none⟩)) (.pointer (some ⟨g1, 2, none⟩)) (by kernel_rfl) rfl ⟨Ext.refl _, rfl⟩
 ·refine step1 rfl rfl rfl rfl (fun u0 wr hw h0 => ?_)
  cases h0
  exact OpRun.cell (g := g1) (off := 2) (v := .int .i8 0) scal_int8 rfl (by kernel_rfl) ((B1.ext hw).get (rfl)) ⟨Ext.refl _, rfl⟩
 ·refine step1 rfl rfl rfl rfl (fun u0 wr hw h0 => ?_)
  cases h0
  exact OpRun.val (.int .i8 0) (.int .i8 0) (by kernel_rfl) rfl ⟨Ext.refl _, rfl⟩
 ·refine step2 rfl rfl rfl rfl rfl (fun u0 u1 wr hw h0 h1 => ?_)
  cases h0
  cases h1
  exact OpRun.shr (k := .i64) (k2 := .i8) (a := w0) (n := 0) rfl (by kernel_rfl) (by kernel_rfl) (by omega) (by simp only [IntKind.bits]; omega) ⟨Ext.refl _, congrArg (Value.int _) (by simp)⟩
 ·refine step0 rfl rfl rfl (fun wr hw => ?_)
  exact OpRun.val (.pointer (some ⟨g1, 0, none⟩)) (.pointer (some ⟨g1, 0, none⟩)) (by kernel_rfl) rfl ⟨Ext.refl _, rfl⟩
 ·refine step1 rfl rfl rfl rfl (fun u0 wr hw h0 => ?_)
  cases h0
  exact OpRun.cell (g := g1) (off := 0) (v := .int .i16 p) scal_int16 rfl (by kernel_rfl) ((B1.ext hw).get (rfl)) ⟨Ext.refl _, rfl⟩
 ·refine step1 rfl rfl rfl rfl (fun u0 wr hw h0 => ?_)
  cases h0
  exact OpRun.val (.int .i64 (IntKind.i64.wrap p)) (.int .i64 p) (by kernel_rfl) (by exact congrArg _ (IntWalk.i64_in _ (by omega))) ⟨Ext.refl _, rfl⟩
 ·refine step0 rfl rfl rfl (fun wr hw => ?_)
  exact OpRun.val (.int .i64 c) (.int .i64 c) (by kernel_rfl) rfl ⟨Ext.refl _, rfl⟩
 ·refine step2 rfl rfl rfl rfl rfl (fun u0 u1 wr hw h0 h1 => ?_)
  cases h0
  cases h1
  exact OpRun.call 91 #[.int .i64 p, .int .i64 c] (by kernel_rfl) ((square_any p c (by omega) (by omega) _).mono fun e w1 ⟨he, hb⟩ => ⟨_, he, hb, rfl⟩)
 ·refine step1 rfl rfl rfl rfl (fun u0 wr hw h0 => ?_)
  cases h0
  exact OpRun.val (.int .i64 (IntKind.i64.wrap (1 + (sqr p c)))) (.int .i64 (1 + (sqr p c))) (by kernel_rfl) (by exact congrArg _ (IntWalk.i64_in _ (by omega))) ⟨Ext.refl _, rfl⟩
 ·refine step2 rfl rfl rfl rfl rfl (fun u0 u1 wr hw h0 h1 => ?_)
  cases h0
  cases h1
  exact OpRun.quoz w0 (1 + (sqr p c)) rfl (by kernel_rfl) (by kernel_rfl) (by omega) (by omega) ⟨Ext.refl _, rfl⟩
 ·refine step1 rfl rfl rfl rfl (fun u0 wr hw h0 => ?_)
  cases h0
  exact OpRun.val (.int .i64 (w0 / (1 + (sqr p c)))) (.int .i64 (w0 / (1 + (sqr p c)))) (by kernel_rfl) rfl ⟨Ext.refl _, rfl⟩
 refine end15 (fun u0 u1 u2 u3 u4 u5 u6 u7 u8 u9 u10 u11 u12 u13 u14 w2 E2 f0 f1 f2 f3 f4 f5 f6 f7 f8 f9 f10 f11 f12 f13 f14 => ?_)
 cases f0
 cases f1
 cases f2
 cases f3
 cases f4
 cases f5
 cases f6
 cases f7
 cases f8
 cases f9
 cases f10
 cases f11
 cases f12
 cases f13
 cases f14
 refine wpList_nil (then_normal ?_)
 refine wp_ret ?_
 have H1 := ((Ext.refl w).trans E1).trans E2
 refine ret1 (.int .i64 (w0 / (1 + sqr p c))) rfl ?_ rfl ?_
 ·refine (resT (v := .int .i64 (w0 / (1 + (sqr p c)))) (by kernel_rfl)).trans ?_
  refine congrArg (Value.int _) ?_
  rfl
 exact ⟨rfl, H1⟩
theorem coverers1_any (p : Int) (F : Fld) (hF : F.wf) (b0 : Nat) (t0 : TypeId) (bf : Nat) (tf : TypeId) (c : Int) (b1 : Nat) (t1 : TypeId) (w0 : Int) (b2 : Nat) (t2 : TypeId) (l : Int) (b3 : Nat) (t3 : TypeId) (hp : isB F p = true) (hw0 : 0 ≤ w0 ∧ w0 ≤ 1000) (hc : isB F c = true) (w : World) (hb0 : Blk w b0 t0 #[.pointer (some ⟨bf, 0, none⟩)]) (hbf : Blk w bf tf F.cells) (hb1 : Blk w b1 t1 #[.int .i64 c]) (hb2 : Blk w b2 t2 #[.int .i64 w0]) (hb3 : Blk w b3 t3 #[.int .i64 l]) :
 Calls Try.prog 83 #[.int .i64 p, .pointer (some ⟨b0, 0, none⟩), .pointer (some ⟨b1, 0, none⟩), .pointer (some ⟨b2, 0, none⟩), .pointer (some ⟨b3, 0, none⟩)] w fun e w' => e = .returned (.bool (cvR F p c w0 l)) ∧ Ext w w' := by
 have hp2_ := isB_true.1 hp
 have hc2_ := isB_true.1 hc
 refine calls_of_wp Try.func83 rfl ?_
 refine wp_frame (a' := ⟨#[.int .i64 p, .pointer (some ⟨b0, 0, none⟩), .pointer (some ⟨b1, 0, none⟩), .pointer (some ⟨b2, 0, none⟩), .pointer (some ⟨b3, 0, none⟩), undef, undef, undef, undef, undef, undef, undef, undef, undef, undef, undef, undef, undef, undef, undef, undef, undef, undef, undef, undef, undef, undef, undef, undef, undef], []⟩) (by kernel_rfl) ?_
 refine wsr ?_
 refine wv (.bool false) ?_
 refine wpList_nil (then_normal ?_)
 refine wp_seq ?_
 refine wp_frame (a' := ⟨#[.int .i64 p, .pointer (some ⟨b0, 0, none⟩), .pointer (some ⟨b1, 0, none⟩), .pointer (some ⟨b2, 0, none⟩), .pointer (some ⟨b3, 0, none⟩), undef, .bool false, undef, undef, undef, undef, undef, undef, undef, undef, undef, undef, undef, undef, undef, undef, undef, undef, undef, undef, undef, undef, undef, undef, undef], []⟩) (by kernel_rfl) ?_
 refine split_bool (isB F p && (F.k p.toNat != 3)) (fun h1 => ?_) (fun h1 => ?_)
 ·skip
  obtain ⟨h1a, h1b⟩ := andT h1
  have h1ad := isB_true.1 h1a
  have h1bd := nT h1b
  refine split_bool ((F.k ((c).toNat)) == 0) (fun h2 => ?_) (fun h2 => ?_)
  ·skip
   have h2d := eT h2
   have ce1 := hF.k1 ((c).toNat) (by omega)
   have sb1 := sqr_b p c (by omega) (by omega)
   refine region_go 24 [7, 8, 9, 10, 11, 12, 13, 14, 15, 16, 17, 18, 19, 20, 21, 22, 23, 24, 25, 26, 27, 28, 29, 6] [[], [], [0, 1], [2], [3], [3], [3, 4], [3, 6], [3, 7, 5], [3, 8], [3, 9], [3, 10], [11], [12], [12, 13], [12], [12, 15], [12, 14, 16], [12], [12, 17, 18], [12], [12, 19, 20], [12, 21], [22]]
    (fun i_ => ([.val (.pointer (some ⟨bf, 0, none⟩)), .val (.int .i64 p), .val (.bool true), .val (.bool true), .val (.pointer (some ⟨bf, 0, none⟩)), .val (.int .i64 c), .val (.pointer (some ⟨bf, 0, none⟩)), .val (.pointer (some ⟨bf, 2, none⟩)), .val (.pointer (some ⟨bf, 2 + (c).toNat, none⟩)), .val (.int .u8 (F.k ((c).toNat))), .val (.bool true), .val (.bool true), .val (.bool true), .val (.int .i64 p), .val (.int .i16 p), .val (.int .i64 w0), .val (.int .i16 w0), .val (.agg #[.int .i16 p, .int .i16 w0, .int .i8 0]), .val (.int .i64 c), .val (.int .i64 (w0 / (1 + sqr p c))), .val (.int .i64 l), .val (.bool (decide (l ≤ w0 / (1 + sqr p c)))), .val (.bool (decide (l ≤ w0 / (1 + sqr p c)))), .val (.bool (decide (l ≤ w0 / (1 + sqr p c))))] : List Fct).getD i_ .any)
    (by kernel_rfl) (by kernel_rfl) (by decide) (by simp) rfl (all_succ (all_succ (all_succ (all_succ (all_succ (all_succ (all_succ (all_succ (all_succ (all_succ (all_succ (all_succ (all_succ (all_succ (all_succ (all_succ (all_succ (all_succ (all_succ (all_succ (all_succ (all_succ (all_succ (all_succ all_zero ?_) ?_) ?_) ?_) ?_) ?_) ?_) ?_) ?_) ?_) ?_) ?_) ?_) ?_) ?_) ?_) ?_) ?_) ?_) ?_) ?_) ?_) ?_) ?_) ?_
   ·refine step0 rfl rfl rfl (fun wr hw => ?_)
    exact OpRun.cell (g := b0) (off := 0) (v := .pointer (some ⟨bf, 0, none⟩)) scal__impl_Field rfl (by kernel_rfl) ((hb0.ext hw).get (rfl)) ⟨Ext.refl _, rfl⟩
   ·refine step0 rfl rfl rfl (fun wr hw => ?_)
    exact OpRun.val (.int .i64 p) (.int .i64 p) (by kernel_rfl) rfl ⟨Ext.refl _, rfl⟩
   ·refine step2 rfl rfl rfl rfl rfl (fun u0 u1 wr hw h0 h1 => ?_)
    cases h0
    cases h1
    exact OpRun.call 63 #[.pointer (some ⟨bf, 0, none⟩), .int .i64 p] (by kernel_rfl) ((isPlace_any F hF bf _ p _ (hbf.ext hw)).mono fun e w1 ⟨he, hb⟩ => ⟨_, he, hb, congrArg Value.bool h1⟩)
   ·refine step1 rfl rfl rfl rfl (fun u0 wr hw h0 => ?_)
    cases h0
    exact OpRun.val (.bool true) (.bool true) (by kernel_rfl) rfl ⟨Ext.refl _, rfl⟩
   ·refine gstep1 rfl rfl rfl rfl (fun u wr h => by cases h; rfl) (fun u0 wr hw h0 => ?_)
    cases h0
    exact OpRun.cell (g := b0) (off := 0) (v := .pointer (some ⟨bf, 0, none⟩)) scal__impl_Field rfl (by kernel_rfl) ((hb0.ext hw).get (rfl)) ⟨Ext.refl _, rfl⟩
   ·refine gstep1 rfl rfl rfl rfl (fun u wr h => by cases h; rfl) (fun u0 wr hw h0 => ?_)
    cases h0
    exact OpRun.cell (g := b1) (off := 0) (v := .int .i64 c) scal_int64 rfl (by kernel_rfl) ((hb1.ext hw).get (rfl)) ⟨Ext.refl _, rfl⟩
   ·refine gstep2 rfl rfl rfl rfl rfl (fun u wr h => by cases h; rfl) (fun u0 u1 wr hw h0 h1 => ?_)
    cases h0
    cases h1
    exact OpRun.val (.pointer (some ⟨bf, 0, none⟩)) (.pointer (some ⟨bf, 0, none⟩)) (by kernel_rfl) rfl ⟨Ext.refl _, rfl⟩
   ·refine gstep2 rfl rfl rfl rfl rfl (fun u wr h => by cases h; rfl) (fun u0 u1 wr hw h0 h1 => ?_)
    cases h0
    cases h1
    exact OpRun.val (.pointer (some ⟨bf, 2, none⟩)) (.pointer (some ⟨bf, 2, none⟩)) (by kernel_rfl) rfl ⟨Ext.refl _, rfl⟩
   ·refine gstep3 rfl rfl rfl rfl rfl rfl (fun u wr h => by cases h; rfl) (fun u0 u1 u2 wr hw h0 h1 h2 => ?_)
    cases h0
    cases h1
    cases h2
    exact OpRun.ixa (i := c) (k := .i64) (g := bf) (off := 2) arrt__100_uint8 rfl (by kernel_rfl) (by kernel_rfl) (by omega) (by omega) ⟨Ext.refl _, rfl⟩
   ·refine gstep2 rfl rfl rfl rfl rfl (fun u wr h => by cases h; rfl) (fun u0 u1 wr hw h0 h1 => ?_)
    cases h0
    cases h1
    exact OpRun.cell (g := bf) (off := 2 + (c).toNat) (v := .int .u8 (F.k ((c).toNat))) scal_uint8 rfl (by kernel_rfl) ((hbf.ext hw).get (Fld.getk _ _ (by omega))) ⟨Ext.refl _, rfl⟩
   ·refine gstep2 rfl rfl rfl rfl rfl (fun u wr h => by cases h; rfl) (fun u0 u1 wr hw h0 h1 => ?_)
    cases h0
    cases h1
    exact OpRun.val (.bool ((F.k ((c).toNat)) == 0)) (.bool true) (by kernel_rfl) (congrArg Value.bool h2) ⟨Ext.refl _, rfl⟩
   ·refine step2 rfl rfl rfl rfl rfl (fun u0 u1 wr hw h0 h1 => ?_)
    cases h0
    cases h1
    exact OpRun.val (.bool true) (.bool true) (by kernel_rfl) rfl ⟨Ext.refl _, rfl⟩
   ·refine step1 rfl rfl rfl rfl (fun u0 wr hw h0 => ?_)
    cases h0
    exact OpRun.val (.bool true) (.bool true) (by kernel_rfl) rfl ⟨Ext.refl _, rfl⟩
   ·refine gstep1 rfl rfl rfl rfl (fun u wr h => by cases h; rfl) (fun u0 wr hw h0 => ?_)
    cases h0
    exact OpRun.val (.int .i64 p) (.int .i64 p) (by kernel_rfl) rfl ⟨Ext.refl _, rfl⟩
   ·refine gstep2 rfl rfl rfl rfl rfl (fun u wr h => by cases h; rfl) (fun u0 u1 wr hw h0 h1 => ?_)
    cases h0
    cases h1
    exact OpRun.val (.int .i16 (IntKind.i16.wrap p)) (.int .i16 p) (by kernel_rfl) (by exact congrArg _ (IntWalk.i16_in _ (by omega))) ⟨Ext.refl _, rfl⟩
   ·refine gstep1 rfl rfl rfl rfl (fun u wr h => by cases h; rfl) (fun u0 wr hw h0 => ?_)
    cases h0
    exact OpRun.cell (g := b2) (off := 0) (v := .int .i64 w0) scal_int64 rfl (by kernel_rfl) ((hb2.ext hw).get (rfl)) ⟨Ext.refl _, rfl⟩
   ·refine gstep2 rfl rfl rfl rfl rfl (fun u wr h => by cases h; rfl) (fun u0 u1 wr hw h0 h1 => ?_)
    cases h0
    cases h1
    exact OpRun.val (.int .i16 (IntKind.i16.wrap w0)) (.int .i16 w0) (by kernel_rfl) (by exact congrArg _ (IntWalk.i16_in _ (by omega))) ⟨Ext.refl _, rfl⟩
   ·refine gstep3 rfl rfl rfl rfl rfl rfl (fun u wr h => by cases h; rfl) (fun u0 u1 u2 wr hw h0 h1 h2 => ?_)
    cases h0
    cases h1
    cases h2
    exact OpRun.val (.agg #[.int .i16 p, .int .i16 w0, .int .i8 0]) (.agg #[.int .i16 p, .int .i16 w0, .int .i8 0]) (by kernel_rfl) rfl ⟨Ext.refl _, rfl⟩
   ·refine gstep1 rfl rfl rfl rfl (fun u wr h => by cases h; rfl) (fun u0 wr hw h0 => ?_)
    cases h0
    exact OpRun.cell (g := b1) (off := 0) (v := .int .i64 c) scal_int64 rfl (by kernel_rfl) ((hb1.ext hw).get (rfl)) ⟨Ext.refl _, rfl⟩
   ·refine gstep3 rfl rfl rfl rfl rfl rfl (fun u wr h => by cases h; rfl) (fun u0 u1 u2 wr hw h0 h1 h2 => ?_)
    cases h0
    cases h1
    cases h2
    exact OpRun.call 84 #[.agg #[.int .i16 p, .int .i16 w0, .int .i8 0], .int .i64 c] (by kernel_rfl) ((fear_any p w0 c (by omega) (by omega) (by omega) _).mono fun e w1 ⟨he, hb⟩ => ⟨_, he, hb, rfl⟩)
   ·refine gstep1 rfl rfl rfl rfl (fun u wr h => by cases h; rfl) (fun u0 wr hw h0 => ?_)
    cases h0
    exact OpRun.cell (g := b3) (off := 0) (v := .int .i64 l) scal_int64 rfl (by kernel_rfl) ((hb3.ext hw).get (rfl)) ⟨Ext.refl _, rfl⟩
   ·refine gstep3 rfl rfl rfl rfl rfl rfl (fun u wr h => by cases h; rfl) (fun u0 u1 u2 wr hw h0 h1 h2 => ?_)
    cases h0
    cases h1
    cases h2
    exact OpRun.val (.bool (decide (l ≤ w0 / (1 + sqr p c)))) (.bool (decide (l ≤ w0 / (1 + sqr p c)))) (by kernel_rfl) rfl ⟨Ext.refl _, rfl⟩
   ·refine step2 rfl rfl rfl rfl rfl (fun u0 u1 wr hw h0 h1 => ?_)
    cases h0
    cases h1
    exact OpRun.val (.bool (decide (l ≤ w0 / (1 + sqr p c)))) (.bool (decide (l ≤ w0 / (1 + sqr p c)))) (by kernel_rfl) rfl ⟨Ext.refl _, rfl⟩
   ·refine step1 rfl rfl rfl rfl (fun u0 wr hw h0 => ?_)
    cases h0
    exact OpRun.val (.bool (decide (l ≤ w0 / (1 + sqr p c)))) (.bool (decide (l ≤ w0 / (1 + sqr p c)))) (by kernel_rfl) rfl ⟨Ext.refl _, rfl⟩
   refine end24 (fun u0 u1 u2 u3 u4 u5 u6 u7 u8 u9 u10 u11 u12 u13 u14 u15 u16 u17 u18 u19 u20 u21 u22 u23 w1 E1 f0 f1 f2 f3 f4 f5 f6 f7 f8 f9 f10 f11 f12 f13 f14 f15 f16 f17 f18 f19 f20 f21 f22 f23 => ?_)
   cases f0
   cases f1
   cases f2
   cases f3
   cases f4
   cases f5
   cases f6
   cases f7
   cases f8
   cases f9
   cases f10
   cases f11
   cases f12
   cases f13
   cases f14
   cases f15
   cases f16
   cases f17
   cases f18
   cases f19
   cases f20
   cases f21
   cases f22
   cases f23
   refine wpList_nil (then_normal ?_)
   refine wp_ret ?_
   have H1 := (Ext.refl w).trans E1
   refine ret1 (.bool (cvR F p c w0 l)) rfl ?_ rfl ?_
   ·refine (resT (v := .bool (decide (l ≤ w0 / (1 + sqr p c)))) (by kernel_rfl)).trans ?_
    refine congrArg Value.bool ?_
    first | exact (cvR_5 hp (by assumption)).symm | exact (cvR_1 (by assumption)).symm | exact (cvR_2 (by assumption)).symm | exact (cvR_3 (by assumption)).symm | exact (cvR_t (by assumption) (by assumption) (by assumption)).symm
   exact ⟨rfl, H1⟩
  ·skip
   have h2d := eF h2
   have ce2 := hF.k1 ((c).toNat) (by omega)
   refine region_go 24 [7, 8, 9, 10, 11, 12, 13, 14, 15, 16, 17, 18, 19, 20, 21, 22, 23, 24, 25, 26, 27, 28, 29, 6] [[], [], [0, 1], [2], [3], [3], [3, 4], [3, 6], [3, 7, 5], [3, 8], [3, 9], [3, 10], [11], [12], [12, 13], [12], [12, 15], [12, 14, 16], [12], [12, 17, 18], [12], [12, 19, 20], [12, 21], [22]]
    (fun i_ => ([.val (.pointer (some ⟨bf, 0, none⟩)), .val (.int .i64 p), .val (.bool true), .val (.bool true), .val (.pointer (some ⟨bf, 0, none⟩)), .val (.int .i64 c), .val (.pointer (some ⟨bf, 0, none⟩)), .val (.pointer (some ⟨bf, 2, none⟩)), .val (.pointer (some ⟨bf, 2 + (c).toNat, none⟩)), .val (.int .u8 (F.k ((c).toNat))), .val (.bool false), .val (.bool false), .val (.bool false), .val undef, .val undef, .val undef, .val undef, .val undef, .val undef, .val undef, .val undef, .val undef, .val (.bool false), .val (.bool false)] : List Fct).getD i_ .any)
    (by kernel_rfl) (by kernel_rfl) (by decide) (by simp) rfl (all_succ (all_succ (all_succ (all_succ (all_succ (all_succ (all_succ (all_succ (all_succ (all_succ (all_succ (all_succ (all_succ (all_succ (all_succ (all_succ (all_succ (all_succ (all_succ (all_succ (all_succ (all_succ (all_succ (all_succ all_zero ?_) ?_) ?_) ?_) ?_) ?_) ?_) ?_) ?_) ?_) ?_) ?_) ?_) ?_) ?_) ?_) ?_) ?_) ?_) ?_) ?_) ?_) ?_) ?_) ?_
   ·refine step0 rfl rfl rfl (fun wr hw => ?_)
    exact OpRun.cell (g := b0) (off := 0) (v := .pointer (some ⟨bf, 0, none⟩)) scal__impl_Field rfl (by kernel_rfl) ((hb0.ext hw).get (rfl)) ⟨Ext.refl _, rfl⟩
   ·refine step0 rfl rfl rfl (fun wr hw => ?_)
    exact OpRun.val (.int .i64 p) (.int .i64 p) (by kernel_rfl) rfl ⟨Ext.refl _, rfl⟩
   ·refine step2 rfl rfl rfl rfl rfl (fun u0 u1 wr hw h0 h1 => ?_)
    cases h0
    cases h1
    exact OpRun.call 63 #[.pointer (some ⟨bf, 0, none⟩), .int .i64 p] (by kernel_rfl) ((isPlace_any F hF bf _ p _ (hbf.ext hw)).mono fun e w1 ⟨he, hb⟩ => ⟨_, he, hb, congrArg Value.bool h1⟩)
   ·refine step1 rfl rfl rfl rfl (fun u0 wr hw h0 => ?_)
    cases h0
    exact OpRun.val (.bool true) (.bool true) (by kernel_rfl) rfl ⟨Ext.refl _, rfl⟩
   ·refine gstep1 rfl rfl rfl rfl (fun u wr h => by cases h; rfl) (fun u0 wr hw h0 => ?_)
    cases h0
    exact OpRun.cell (g := b0) (off := 0) (v := .pointer (some ⟨bf, 0, none⟩)) scal__impl_Field rfl (by kernel_rfl) ((hb0.ext hw).get (rfl)) ⟨Ext.refl _, rfl⟩
   ·refine gstep1 rfl rfl rfl rfl (fun u wr h => by cases h; rfl) (fun u0 wr hw h0 => ?_)
    cases h0
    exact OpRun.cell (g := b1) (off := 0) (v := .int .i64 c) scal_int64 rfl (by kernel_rfl) ((hb1.ext hw).get (rfl)) ⟨Ext.refl _, rfl⟩
   ·refine gstep2 rfl rfl rfl rfl rfl (fun u wr h => by cases h; rfl) (fun u0 u1 wr hw h0 h1 => ?_)
    cases h0
    cases h1
    exact OpRun.val (.pointer (some ⟨bf, 0, none⟩)) (.pointer (some ⟨bf, 0, none⟩)) (by kernel_rfl) rfl ⟨Ext.refl _, rfl⟩
   ·refine gstep2 rfl rfl rfl rfl rfl (fun u wr h => by cases h; rfl) (fun u0 u1 wr hw h0 h1 => ?_)
    cases h0
    cases h1
    exact OpRun.val (.pointer (some ⟨bf, 2, none⟩)) (.pointer (some ⟨bf, 2, none⟩)) (by kernel_rfl) rfl ⟨Ext.refl _, rfl⟩
   ·refine gstep3 rfl rfl rfl rfl rfl rfl (fun u wr h => by cases h; rfl) (fun u0 u1 u2 wr hw h0 h1 h2 => ?_)
    cases h0
    cases h1
    cases h2
    exact OpRun.ixa (i := c) (k := .i64) (g := bf) (off := 2) arrt__100_uint8 rfl (by kernel_rfl) (by kernel_rfl) (by omega) (by omega) ⟨Ext.refl _, rfl⟩
   ·refine gstep2 rfl rfl rfl rfl rfl (fun u wr h => by cases h; rfl) (fun u0 u1 wr hw h0 h1 => ?_)
    cases h0
    cases h1
    exact OpRun.cell (g := bf) (off := 2 + (c).toNat) (v := .int .u8 (F.k ((c).toNat))) scal_uint8 rfl (by kernel_rfl) ((hbf.ext hw).get (Fld.getk _ _ (by omega))) ⟨Ext.refl _, rfl⟩
   ·refine gstep2 rfl rfl rfl rfl rfl (fun u wr h => by cases h; rfl) (fun u0 u1 wr hw h0 h1 => ?_)
    cases h0
    cases h1
    exact OpRun.val (.bool ((F.k ((c).toNat)) == 0)) (.bool false) (by kernel_rfl) (congrArg Value.bool h2) ⟨Ext.refl _, rfl⟩
   ·refine step2 rfl rfl rfl rfl rfl (fun u0 u1 wr hw h0 h1 => ?_)
    cases h0
    cases h1
    exact OpRun.val (.bool false) (.bool false) (by kernel_rfl) rfl ⟨Ext.refl _, rfl⟩
   ·refine step1 rfl rfl rfl rfl (fun u0 wr hw h0 => ?_)
    cases h0
    exact OpRun.val (.bool false) (.bool false) (by kernel_rfl) rfl ⟨Ext.refl _, rfl⟩
   ·refine skip_ rfl rfl rfl (fun u wr h => by cases h; rfl) (fun _ => rfl)
   ·refine skip_ rfl rfl rfl (fun u wr h => by cases h; rfl) (fun _ => rfl)
   ·refine skip_ rfl rfl rfl (fun u wr h => by cases h; rfl) (fun _ => rfl)
   ·refine skip_ rfl rfl rfl (fun u wr h => by cases h; rfl) (fun _ => rfl)
   ·refine skip_ rfl rfl rfl (fun u wr h => by cases h; rfl) (fun _ => rfl)
   ·refine skip_ rfl rfl rfl (fun u wr h => by cases h; rfl) (fun _ => rfl)
   ·refine skip_ rfl rfl rfl (fun u wr h => by cases h; rfl) (fun _ => rfl)
   ·refine skip_ rfl rfl rfl (fun u wr h => by cases h; rfl) (fun _ => rfl)
   ·refine skip_ rfl rfl rfl (fun u wr h => by cases h; rfl) (fun _ => rfl)
   ·refine step2 rfl rfl rfl rfl rfl (fun u0 u1 wr hw h0 h1 => ?_)
    cases h0
    cases h1
    exact OpRun.val (.bool false) (.bool false) (by kernel_rfl) rfl ⟨Ext.refl _, rfl⟩
   ·refine step1 rfl rfl rfl rfl (fun u0 wr hw h0 => ?_)
    cases h0
    exact OpRun.val (.bool false) (.bool false) (by kernel_rfl) rfl ⟨Ext.refl _, rfl⟩
   refine end24 (fun u0 u1 u2 u3 u4 u5 u6 u7 u8 u9 u10 u11 u12 u13 u14 u15 u16 u17 u18 u19 u20 u21 u22 u23 w2 E2 f0 f1 f2 f3 f4 f5 f6 f7 f8 f9 f10 f11 f12 f13 f14 f15 f16 f17 f18 f19 f20 f21 f22 f23 => ?_)
   cases f0
   cases f1
   cases f2
   cases f3
   cases f4
   cases f5
   cases f6
   cases f7
   cases f8
   cases f9
   cases f10
   cases f11
   cases f12
   cases f13
   cases f14
   cases f15
   cases f16
   cases f17
   cases f18
   cases f19
   cases f20
   cases f21
   cases f22
   cases f23
   refine wpList_nil (then_normal ?_)
   refine wp_ret ?_
   have H2 := (Ext.refl w).trans E2
   refine ret1 (.bool (cvR F p c w0 l)) rfl ?_ rfl ?_
   ·refine (resT (v := .bool false) (by kernel_rfl)).trans ?_
    refine congrArg Value.bool ?_
    first | exact (cvR_5 hp (by assumption)).symm | exact (cvR_1 (by assumption)).symm | exact (cvR_2 (by assumption)).symm | exact (cvR_3 (by assumption)).symm | exact (cvR_t (by assumption) (by assumption) (by assumption)).symm
   exact ⟨rfl, H2⟩
 ·skip
  refine region_go 24 [7, 8, 9, 10, 11, 12, 13, 14, 15, 16, 17, 18, 19, 20, 21, 22, 23, 24, 25, 26, 27, 28, 29, 6] [[], [], [0, 1], [2], [3], [3], [3, 4], [3, 6], [3, 7, 5], [3, 8], [3, 9], [3, 10], [11], [12], [12, 13], [12], [12, 15], [12, 14, 16], [12], [12, 17, 18], [12], [12, 19, 20], [12, 21], [22]]
   (fun i_ => ([.val (.pointer (some ⟨bf, 0, none⟩)), .val (.int .i64 p), .val (.bool false), .val (.bool false), .val undef, .val undef, .val undef, .val undef, .val undef, .val undef, .val undef, .val (.bool false), .val (.bool false), .val undef, .val undef, .val undef, .val undef, .val undef, .val undef, .val undef, .val undef, .val undef, .val (.bool false), .val (.bool false)] : List Fct).getD i_ .any)
   (by kernel_rfl) (by kernel_rfl) (by decide) (by simp) rfl (all_succ (all_succ (all_succ (all_succ (all_succ (all_succ (all_succ (all_succ (all_succ (all_succ (all_succ (all_succ (all_succ (all_succ (all_succ (all_succ (all_succ (all_succ (all_succ (all_succ (all_succ (all_succ (all_succ (all_succ all_zero ?_) ?_) ?_) ?_) ?_) ?_) ?_) ?_) ?_) ?_) ?_) ?_) ?_) ?_) ?_) ?_) ?_) ?_) ?_) ?_) ?_) ?_) ?_) ?_) ?_
  ·refine step0 rfl rfl rfl (fun wr hw => ?_)
   exact OpRun.cell (g := b0) (off := 0) (v := .pointer (some ⟨bf, 0, none⟩)) scal__impl_Field rfl (by kernel_rfl) ((hb0.ext hw).get (rfl)) ⟨Ext.refl _, rfl⟩
  ·refine step0 rfl rfl rfl (fun wr hw => ?_)
   exact OpRun.val (.int .i64 p) (.int .i64 p) (by kernel_rfl) rfl ⟨Ext.refl _, rfl⟩
  ·refine step2 rfl rfl rfl rfl rfl (fun u0 u1 wr hw h0 h1 => ?_)
   cases h0
   cases h1
   exact OpRun.call 63 #[.pointer (some ⟨bf, 0, none⟩), .int .i64 p] (by kernel_rfl) ((isPlace_any F hF bf _ p _ (hbf.ext hw)).mono fun e w1 ⟨he, hb⟩ => ⟨_, he, hb, congrArg Value.bool h1⟩)
  ·refine step1 rfl rfl rfl rfl (fun u0 wr hw h0 => ?_)
   cases h0
   exact OpRun.val (.bool false) (.bool false) (by kernel_rfl) rfl ⟨Ext.refl _, rfl⟩
  ·refine skip_ rfl rfl rfl (fun u wr h => by cases h; rfl) (fun _ => rfl)
  ·refine skip_ rfl rfl rfl (fun u wr h => by cases h; rfl) (fun _ => rfl)
  ·refine skip_ rfl rfl rfl (fun u wr h => by cases h; rfl) (fun _ => rfl)
  ·refine skip_ rfl rfl rfl (fun u wr h => by cases h; rfl) (fun _ => rfl)
  ·refine skip_ rfl rfl rfl (fun u wr h => by cases h; rfl) (fun _ => rfl)
  ·refine skip_ rfl rfl rfl (fun u wr h => by cases h; rfl) (fun _ => rfl)
  ·refine skip_ rfl rfl rfl (fun u wr h => by cases h; rfl) (fun _ => rfl)
  ·refine step2 rfl rfl rfl rfl rfl (fun u0 u1 wr hw h0 h1 => ?_)
   cases h0
   cases h1
   exact OpRun.val (.bool false) (.bool false) (by kernel_rfl) rfl ⟨Ext.refl _, rfl⟩
  ·refine step1 rfl rfl rfl rfl (fun u0 wr hw h0 => ?_)
   cases h0
   exact OpRun.val (.bool false) (.bool false) (by kernel_rfl) rfl ⟨Ext.refl _, rfl⟩
  ·refine skip_ rfl rfl rfl (fun u wr h => by cases h; rfl) (fun _ => rfl)
  ·refine skip_ rfl rfl rfl (fun u wr h => by cases h; rfl) (fun _ => rfl)
  ·refine skip_ rfl rfl rfl (fun u wr h => by cases h; rfl) (fun _ => rfl)
  ·refine skip_ rfl rfl rfl (fun u wr h => by cases h; rfl) (fun _ => rfl)
  ·refine skip_ rfl rfl rfl (fun u wr h => by cases h; rfl) (fun _ => rfl)
  ·refine skip_ rfl rfl rfl (fun u wr h => by cases h; rfl) (fun _ => rfl)
  ·refine skip_ rfl rfl rfl (fun u wr h => by cases h; rfl) (fun _ => rfl)
  ·refine skip_ rfl rfl rfl (fun u wr h => by cases h; rfl) (fun _ => rfl)
  ·refine skip_ rfl rfl rfl (fun u wr h => by cases h; rfl) (fun _ => rfl)
  ·refine step2 rfl rfl rfl rfl rfl (fun u0 u1 wr hw h0 h1 => ?_)
   cases h0
   cases h1
   exact OpRun.val (.bool false) (.bool false) (by kernel_rfl) rfl ⟨Ext.refl _, rfl⟩
  ·refine step1 rfl rfl rfl rfl (fun u0 wr hw h0 => ?_)
   cases h0
   exact OpRun.val (.bool false) (.bool false) (by kernel_rfl) rfl ⟨Ext.refl _, rfl⟩
  refine end24 (fun u0 u1 u2 u3 u4 u5 u6 u7 u8 u9 u10 u11 u12 u13 u14 u15 u16 u17 u18 u19 u20 u21 u22 u23 w3 E3 f0 f1 f2 f3 f4 f5 f6 f7 f8 f9 f10 f11 f12 f13 f14 f15 f16 f17 f18 f19 f20 f21 f22 f23 => ?_)
  cases f0
  cases f1
  cases f2
  cases f3
  cases f4
  cases f5
  cases f6
  cases f7
  cases f8
  cases f9
  cases f10
  cases f11
  cases f12
  cases f13
  cases f14
  cases f15
  cases f16
  cases f17
  cases f18
  cases f19
  cases f20
  cases f21
  cases f22
  cases f23
  refine wpList_nil (then_normal ?_)
  refine wp_ret ?_
  have H3 := (Ext.refl w).trans E3
  refine ret1 (.bool (cvR F p c w0 l)) rfl ?_ rfl ?_
  ·refine (resT (v := .bool false) (by kernel_rfl)).trans ?_
   refine congrArg Value.bool ?_
   first | exact (cvR_5 hp (by assumption)).symm | exact (cvR_1 (by assumption)).symm | exact (cvR_2 (by assumption)).symm | exact (cvR_3 (by assumption)).symm | exact (cvR_t (by assumption) (by assumption) (by assumption)).symm
  exact ⟨rfl, H3⟩
theorem coverers_any (F : Fld) (hF : F.wf) (b : Nat) (t : TypeId) (c : Int) (w0 : Int) (l : Int) (hw0 : 0 ≤ w0 ∧ w0 ≤ 1000) (hc : isB F c = true) (w : World) (hb : Blk w b t F.cells) :
 Calls Try.prog 52 #[.pointer (some ⟨b, 0, none⟩), .int .i64 c, .int .i64 w0, .int .i64 l] w fun e w' => e = .returned (.agg #[.int .u64 ((setC F (fun c_ => cvR F c_ c w0 l) 100).1), .int .u64 ((setC F (fun c_ => cvR F c_ c w0 l) 100).2)]) ∧ Ext w w' := by
 refine calls_of_wp Try.func52 rfl ?_
 refine wp_frame (a' := ⟨#[.pointer (some ⟨b, 0, none⟩), .int .i64 c, .int .i64 w0, .int .i64 l, undef, undef, undef, undef, undef, undef, undef, undef], []⟩) (by kernel_rfl) ?_
 refine wsr ?_
 refine wboxv (.pointer (some ⟨b, 0, none⟩)) ?_
 intro g1 w1 B1 E1 hg_
 have q_b_g1 := Nat.ne_of_lt (Nat.lt_of_lt_of_le hb.lt hg_)
 have lo_g1 := Nat.le_trans ((Ext.refl w)).size hg_
 have H1 := (Ext.refl w).trans E1
 replace hb := hb.ext E1
 refine wboxv (.int .i64 c) ?_
 intro g2 w2 B2 E2 hg_
 have q_b_g2 := Nat.ne_of_lt (Nat.lt_of_lt_of_le hb.lt hg_)
 have q_g1_g2 := Nat.ne_of_lt (Nat.lt_of_lt_of_le B1.lt hg_)
 have lo_g2 := Nat.le_trans (H1).size hg_
 have H2 := H1.trans E2
 replace hb := hb.ext E2
 replace B1 := B1.ext E2
 refine wboxv (.int .i64 w0) ?_
 intro g3 w3 B3 E3 hg_
 have q_b_g3 := Nat.ne_of_lt (Nat.lt_of_lt_of_le hb.lt hg_)
 have q_g1_g3 := Nat.ne_of_lt (Nat.lt_of_lt_of_le B1.lt hg_)
 have q_g2_g3 := Nat.ne_of_lt (Nat.lt_of_lt_of_le B2.lt hg_)
 have lo_g3 := Nat.le_trans (H2).size hg_
 have H3 := H2.trans E3
 replace hb := hb.ext E3
 replace B1 := B1.ext E3
 replace B2 := B2.ext E3
 refine wboxv (.int .i64 l) ?_
 intro g4 w4 B4 E4 hg_
 have q_b_g4 := Nat.ne_of_lt (Nat.lt_of_lt_of_le hb.lt hg_)
 have q_g1_g4 := Nat.ne_of_lt (Nat.lt_of_lt_of_le B1.lt hg_)
 have q_g2_g4 := Nat.ne_of_lt (Nat.lt_of_lt_of_le B2.lt hg_)
 have q_g3_g4 := Nat.ne_of_lt (Nat.lt_of_lt_of_le B3.lt hg_)
 have lo_g4 := Nat.le_trans (H3).size hg_
 have H4 := H3.trans E4
 replace hb := hb.ext E4
 replace B1 := B1.ext E4
 replace B2 := B2.ext E4
 replace B3 := B3.ext E4
 refine wnew #[.int .u64 0, .int .u64 0] Try.zeroValue33 rfl ?_
 intro g5 w5 B5 E5 hg_
 have q_b_g5 := Nat.ne_of_lt (Nat.lt_of_lt_of_le hb.lt hg_)
 have q_g1_g5 := Nat.ne_of_lt (Nat.lt_of_lt_of_le B1.lt hg_)
 have q_g2_g5 := Nat.ne_of_lt (Nat.lt_of_lt_of_le B2.lt hg_)
 have q_g3_g5 := Nat.ne_of_lt (Nat.lt_of_lt_of_le B3.lt hg_)
 have q_g4_g5 := Nat.ne_of_lt (Nat.lt_of_lt_of_le B4.lt hg_)
 have lo_g5 := Nat.le_trans (H4).size hg_
 refine wpList_nil (then_normal ?_)
 refine wsr ?_
 replace B1 := B1.ext E5
 refine wld (v := .pointer (some ⟨b, 0, none⟩)) g1 (0) scal__impl_Field (B1.get (rfl)) ?_
 refine wv (.func (.func 83) #[] #[.pointer (some ⟨g1, 0, none⟩), .pointer (some ⟨g2, 0, none⟩), .pointer (some ⟨g3, 0, none⟩), .pointer (some ⟨g4, 0, none⟩)]) ?_
 replace hb := hb.ext E5
 replace B2 := B2.ext E5
 replace B3 := B3.ext E5
 replace B4 := B4.ext E5
 refine wcl (those_any F hF b _ (.func (.func 83) #[] #[.pointer (some ⟨g1, 0, none⟩), .pointer (some ⟨g2, 0, none⟩), .pointer (some ⟨g3, 0, none⟩), .pointer (some ⟨g4, 0, none⟩)]) 83 (fun c_ => #[.int .i64 c_, .pointer (some ⟨g1, 0, none⟩), .pointer (some ⟨g2, 0, none⟩), .pointer (some ⟨g3, 0, none⟩), .pointer (some ⟨g4, 0, none⟩)]) (fun c_ => cvR F c_ c w0 l) (fun _ _ => by kernel_rfl) _ hb (fun c_ _ I_ E_ => by have J_ := isB_true.1 I_; exact coverers1_any c_ F hF g1 _ b _ c g2 _ w0 g3 _ l g4 _ (by assumption) (by omega) (by assumption) _ (B1.ext E_) (hb.ext E_) (B2.ext E_) (B3.ext E_) (B4.ext E_))) ?_
 intro w6 E6
 replace B5 := B5.ext E6
 refine wput #[.int .u64 ((setC F (fun c_ => cvR F c_ c w0 l) 100).1), .int .u64 ((setC F (fun c_ => cvR F c_ c w0 l) 100).2)] row_impl_Cells B5 (by rfl) (by rfl) (by kernel_rfl) ?_
 intro w7 B5_ X1
 clear B5; have B5 := B5_; clear B5_
 refine wpList_nil (then_normal ?_)
 refine wp_ret ?_
 have H5 := X1.ext w lo_g5 ((H4.trans E5).trans E6)
 refine ret1 (.agg #[.int .u64 ((setC F (fun c_ => cvR F c_ c w0 l) 100).1), .int .u64 ((setC F (fun c_ => cvR F c_ c w0 l) 100).2)]) rfl ?_ rfl ?_
 ·refine ⟨g5, 33, #[.int .u64 ((setC F (fun c_ => cvR F c_ c w0 l) 100).1), .int .u64 ((setC F (fun c_ => cvR F c_ c w0 l) 100).2)], _, by kernel_rfl, B5, row_impl_Cells, ?_, ?_⟩
  ·rfl
  ·rfl
 exact ⟨rfl, H5⟩
theorem isPower_any (n : Int) (w : World) :
 Calls Try.prog 74 #[.int .i64 n] w fun e w' => e = .returned (.bool (inB n 1 1000)) ∧ Ext w w' := by
 refine calls_of_wp Try.func74 rfl ?_
 refine wp_frame (a' := ⟨#[.int .i64 n, undef, undef, undef, undef], []⟩) (by kernel_rfl) ?_
 refine wsr ?_
 refine wv (.bool false) ?_
 refine wpList_nil (then_normal ?_)
 refine wsr ?_
 refine wv (.int .i64 n) ?_
 refine wcl (within_any n 1 1000 _) ?_
 intro w1 E1
 refine wv (.bool (inB n 1 1000)) ?_
 refine wpList_nil (then_normal ?_)
 refine wp_ret ?_
 have H1 := (Ext.refl w).trans E1
 refine ret1 (.bool (inB n 1 1000)) rfl ?_ rfl ?_
 ·exact resT (by kernel_rfl)
 exact ⟨rfl, H1⟩
theorem l03Power_any (n : Int) (w : World) :
 Calls Try.prog 86 #[.int .i64 n] w fun e w' => e = .returned (.bool (inB n 1 1000)) ∧ Ext w w' := by
 refine calls_of_wp Try.func86 rfl ?_
 refine wp_frame (a' := ⟨#[.int .i64 n, undef, undef, undef, undef], []⟩) (by kernel_rfl) ?_
 refine wsr ?_
 refine wv (.bool false) ?_
 refine wpList_nil (then_normal ?_)
 refine wsr ?_
 refine wv (.int .i64 n) ?_
 refine wcl (l00In_any n 1 1000 _) ?_
 intro w1 E1
 refine wv (.bool (inB n 1 1000)) ?_
 refine wpList_nil (then_normal ?_)
 refine wp_ret ?_
 have H1 := (Ext.refl w).trans E1
 refine ret1 (.bool (inB n 1 1000)) rfl ?_ rfl ?_
 ·exact resT (by kernel_rfl)
 exact ⟨rfl, H1⟩
theorem arePowers_any (m : Int) (n : Int) (w : World) :
 Calls Try.prog 31 #[.int .i64 m, .int .i64 n] w fun e w' => e = .returned (.bool (inB m 1 1000 && inB n 1 1000)) ∧ Ext w w' := by
 refine calls_of_wp Try.func31 rfl ?_
 refine wp_frame (a' := ⟨#[.int .i64 m, .int .i64 n, undef, undef, undef, undef, undef, undef, undef, undef, undef], []⟩) (by kernel_rfl) ?_
 refine wsr ?_
 refine wv (.bool false) ?_
 refine wpList_nil (then_normal ?_)
 refine wsr ?_
 refine wv (.int .i64 m) ?_
 refine wcl (isPower_any m _) ?_
 intro w1 E1
 refine wv (.bool (inB m 1 1000)) ?_
 refine split_bool (inB m 1 1000) (fun h1 => ?_) (fun h1 => ?_)
 ·skip
  refine wbl 7 true h1 ?_
  have h1d := inT h1
  refine wv (.int .i64 n) ?_
  refine wcl (isPower_any n _) ?_
  intro w2 E2
  refine wv (.bool (inB n 1 1000)) ?_
  refine wv (.bool (inB n 1 1000)) ?_
  refine wpList_nil (then_normal ?_)
  refine wp_ret ?_
  have H1 := ((Ext.refl w).trans E1).trans E2
  refine ret1 (.bool (inB m 1 1000 && inB n 1 1000)) rfl ?_ rfl ?_
  ·refine (resT (v := .bool (inB n 1 1000)) (by kernel_rfl)).trans ?_
   refine congrArg Value.bool ?_
   simp [*]
  exact ⟨rfl, H1⟩
 ·skip
  refine wbl 7 false h1 ?_
  have h1d := inF h1
  refine wsk ?_
  refine wsk ?_
  refine wv (.bool false) ?_
  refine wv (.bool false) ?_
  refine wpList_nil (then_normal ?_)
  refine wp_ret ?_
  have H2 := (Ext.refl w).trans E1
  refine ret1 (.bool (inB m 1 1000 && inB n 1 1000)) rfl ?_ rfl ?_
  ·refine (resT (v := .bool false) (by kernel_rfl)).trans ?_
   refine congrArg Value.bool ?_
   simp [*]
  exact ⟨rfl, H2⟩
theorem l03Numbers_any (m : Int) (n : Int) (w : World) :
 Calls Try.prog 67 #[.int .i64 m, .int .i64 n] w fun e w' => e = .returned (.bool (inB m 1 1000 && inB n 1 1000)) ∧ Ext w w' := by
 refine calls_of_wp Try.func67 rfl ?_
 refine wp_frame (a' := ⟨#[.int .i64 m, .int .i64 n, undef, undef, undef, undef, undef, undef, undef, undef, undef], []⟩) (by kernel_rfl) ?_
 refine wsr ?_
 refine wv (.bool false) ?_
 refine wpList_nil (then_normal ?_)
 refine wsr ?_
 refine wv (.int .i64 m) ?_
 refine wcl (l03Power_any m _) ?_
 intro w1 E1
 refine wv (.bool (inB m 1 1000)) ?_
 refine split_bool (inB m 1 1000) (fun h1 => ?_) (fun h1 => ?_)
 ·skip
  refine wbl 7 true h1 ?_
  have h1d := inT h1
  refine wv (.int .i64 n) ?_
  refine wcl (l03Power_any n _) ?_
  intro w2 E2
  refine wv (.bool (inB n 1 1000)) ?_
  refine wv (.bool (inB n 1 1000)) ?_
  refine wpList_nil (then_normal ?_)
  refine wp_ret ?_
  have H1 := ((Ext.refl w).trans E1).trans E2
  refine ret1 (.bool (inB m 1 1000 && inB n 1 1000)) rfl ?_ rfl ?_
  ·refine (resT (v := .bool (inB n 1 1000)) (by kernel_rfl)).trans ?_
   refine congrArg Value.bool ?_
   simp [*]
  exact ⟨rfl, H1⟩
 ·skip
  refine wbl 7 false h1 ?_
  have h1d := inF h1
  refine wsk ?_
  refine wsk ?_
  refine wv (.bool false) ?_
  refine wv (.bool false) ?_
  refine wpList_nil (then_normal ?_)
  refine wp_ret ?_
  have H2 := (Ext.refl w).trans E1
  refine ret1 (.bool (inB m 1 1000 && inB n 1 1000)) rfl ?_ rfl ?_
  ·refine (resT (v := .bool false) (by kernel_rfl)).trans ?_
   refine congrArg Value.bool ?_
   simp [*]
  exact ⟨rfl, H2⟩
theorem CoverersOf1_any (F : Fld) (hF : F.wf) (b0 : Nat) (t0 : TypeId) (c : Int) (b1 : Nat) (t1 : TypeId) (w0 : Int) (b2 : Nat) (t2 : TypeId) (l : Int) (b3 : Nat) (t3 : TypeId) (w : World) (hb0 : Blk w b0 t0 F.cells) (hb1 : Blk w b1 t1 #[.int .i64 c]) (hb2 : Blk w b2 t2 #[.int .i64 w0]) (hb3 : Blk w b3 t3 #[.int .i64 l]) :
 Calls Try.prog 68 #[.pointer (some ⟨b0, 0, none⟩), .pointer (some ⟨b1, 0, none⟩), .pointer (some ⟨b2, 0, none⟩), .pointer (some ⟨b3, 0, none⟩)] w fun e w' => e = .returned (.bool (isB F c && (inB w0 1 1000 && inB l 1 1000))) ∧ Ext w w' := by
 have w1_ := hF.w1
 have w2_ := hF.w2
 have h1_ := hF.h1
 have h2_ := hF.h2
 refine calls_of_wp Try.func68 rfl ?_
 refine wp_frame (a' := ⟨#[.pointer (some ⟨b0, 0, none⟩), .pointer (some ⟨b1, 0, none⟩), .pointer (some ⟨b2, 0, none⟩), .pointer (some ⟨b3, 0, none⟩), undef, undef, undef, undef, undef, undef, undef, undef], []⟩) (by kernel_rfl) ?_
 refine wsr ?_
 refine wv (.bool false) ?_
 refine wpList_nil (then_normal ?_)
 refine wsr ?_
 refine wld (v := .int .i64 c) b1 (0) scal_int64 (hb1.get (rfl)) ?_
 refine wcl (has_any F hF b0 _ c _ hb0) ?_
 intro w1 E1
 refine wv (.bool (isB F c)) ?_
 refine split_bool (isB F c) (fun h1 => ?_) (fun h1 => ?_)
 ·skip
  refine wbl 7 true h1 ?_
  have h1d := isB_true.1 h1
  replace hb2 := hb2.ext E1
  refine wld (v := .int .i64 w0) b2 (0) scal_int64 (hb2.get (rfl)) ?_
  replace hb3 := hb3.ext E1
  refine wld (v := .int .i64 l) b3 (0) scal_int64 (hb3.get (rfl)) ?_
  refine wcl (arePowers_any w0 l _) ?_
  intro w2 E2
  refine wv (.bool (inB w0 1 1000 && inB l 1 1000)) ?_
  refine wv (.bool (inB w0 1 1000 && inB l 1 1000)) ?_
  refine wpList_nil (then_normal ?_)
  refine wp_ret ?_
  have H1 := ((Ext.refl w).trans E1).trans E2
  refine ret1 (.bool (isB F c && (inB w0 1 1000 && inB l 1 1000))) rfl ?_ rfl ?_
  ·refine (resT (v := .bool (inB w0 1 1000 && inB l 1 1000)) (by kernel_rfl)).trans ?_
   refine congrArg Value.bool ?_
   first | (simp [*]; done) | (simp [inB, *]; done) | (simp [inB, *]; omega)
  exact ⟨rfl, H1⟩
 ·skip
  refine wbl 7 false h1 ?_
  refine wsk ?_
  refine wsk ?_
  refine wsk ?_
  refine wv (.bool false) ?_
  refine wv (.bool false) ?_
  refine wpList_nil (then_normal ?_)
  refine wp_ret ?_
  have H2 := (Ext.refl w).trans E1
  refine ret1 (.bool (isB F c && (inB w0 1 1000 && inB l 1 1000))) rfl ?_ rfl ?_
  ·refine (resT (v := .bool false) (by kernel_rfl)).trans ?_
   refine congrArg Value.bool ?_
   first | (simp [*]; done) | (simp [inB, *]; done) | (simp [inB, *]; omega)
  exact ⟨rfl, H2⟩
theorem CoverOf1_any (F : Fld) (hF : F.wf) (b0 : Nat) (t0 : TypeId) (c : Int) (b1 : Nat) (t1 : TypeId) (w0 : Int) (b2 : Nat) (t2 : TypeId) (l : Int) (b3 : Nat) (t3 : TypeId) (w : World) (hb0 : Blk w b0 t0 F.cells) (hb1 : Blk w b1 t1 #[.int .i64 c]) (hb2 : Blk w b2 t2 #[.int .i64 w0]) (hb3 : Blk w b3 t3 #[.int .i64 l]) :
 Calls Try.prog 65 #[.pointer (some ⟨b0, 0, none⟩), .pointer (some ⟨b1, 0, none⟩), .pointer (some ⟨b2, 0, none⟩), .pointer (some ⟨b3, 0, none⟩)] w fun e w' => e = .returned (.bool (isB F c && (inB w0 1 1000 && inB l 1 1000))) ∧ Ext w w' := by
 have w1_ := hF.w1
 have w2_ := hF.w2
 have h1_ := hF.h1
 have h2_ := hF.h2
 refine calls_of_wp Try.func65 rfl ?_
 refine wp_frame (a' := ⟨#[.pointer (some ⟨b0, 0, none⟩), .pointer (some ⟨b1, 0, none⟩), .pointer (some ⟨b2, 0, none⟩), .pointer (some ⟨b3, 0, none⟩), undef, undef, undef, undef, undef, undef, undef, undef], []⟩) (by kernel_rfl) ?_
 refine wsr ?_
 refine wv (.bool false) ?_
 refine wpList_nil (then_normal ?_)
 refine wsr ?_
 refine wld (v := .int .i64 c) b1 (0) scal_int64 (hb1.get (rfl)) ?_
 refine wcl (has_any F hF b0 _ c _ hb0) ?_
 intro w1 E1
 refine wv (.bool (isB F c)) ?_
 refine split_bool (isB F c) (fun h1 => ?_) (fun h1 => ?_)
 ·skip
  refine wbl 7 true h1 ?_
  have h1d := isB_true.1 h1
  replace hb2 := hb2.ext E1
  refine wld (v := .int .i64 w0) b2 (0) scal_int64 (hb2.get (rfl)) ?_
  replace hb3 := hb3.ext E1
  refine wld (v := .int .i64 l) b3 (0) scal_int64 (hb3.get (rfl)) ?_
  refine wcl (arePowers_any w0 l _) ?_
  intro w2 E2
  refine wv (.bool (inB w0 1 1000 && inB l 1 1000)) ?_
  refine wv (.bool (inB w0 1 1000 && inB l 1 1000)) ?_
  refine wpList_nil (then_normal ?_)
  refine wp_ret ?_
  have H1 := ((Ext.refl w).trans E1).trans E2
  refine ret1 (.bool (isB F c && (inB w0 1 1000 && inB l 1 1000))) rfl ?_ rfl ?_
  ·refine (resT (v := .bool (inB w0 1 1000 && inB l 1 1000)) (by kernel_rfl)).trans ?_
   refine congrArg Value.bool ?_
   first | (simp [*]; done) | (simp [inB, *]; done) | (simp [inB, *]; omega)
  exact ⟨rfl, H1⟩
 ·skip
  refine wbl 7 false h1 ?_
  refine wsk ?_
  refine wsk ?_
  refine wsk ?_
  refine wv (.bool false) ?_
  refine wv (.bool false) ?_
  refine wpList_nil (then_normal ?_)
  refine wp_ret ?_
  have H2 := (Ext.refl w).trans E1
  refine ret1 (.bool (isB F c && (inB w0 1 1000 && inB l 1 1000))) rfl ?_ rfl ?_
  ·refine (resT (v := .bool false) (by kernel_rfl)).trans ?_
   refine congrArg Value.bool ?_
   first | (simp [*]; done) | (simp [inB, *]; done) | (simp [inB, *]; omega)
  exact ⟨rfl, H2⟩
theorem l03Covers_any (F : Fld) (hF : F.wf) (b : Nat) (t : TypeId) (p : Int) (c : Int) (w0 : Int) (l : Int) (hpc : (0 ≤ p ∧ p ≤ 99) ∧ (0 ≤ c ∧ c ≤ 99)) (hw0 : 0 ≤ w0 ∧ w0 ≤ 1000) (w : World) (hb : Blk w b t F.cells) :
 Calls Try.prog 69 #[.pointer (some ⟨b, 0, none⟩), .int .i64 p, .int .i64 c, .int .i64 w0, .int .i64 l] w fun e w' => e = .returned (.bool (isB F p && cvR F p c w0 l)) ∧ Ext w w' := by
 have sb_ := sqr_b p c (by omega) (by omega)
 refine calls_of_wp Try.func69 rfl ?_
 refine wp_frame (a' := ⟨#[.pointer (some ⟨b, 0, none⟩), .int .i64 p, .int .i64 c, .int .i64 w0, .int .i64 l, undef, undef, undef, undef, undef, undef, undef, undef, undef, undef, undef, undef, undef, undef, undef, undef, undef, undef, undef, undef, undef, undef, undef, undef, undef, undef, undef, undef, undef, undef, undef, undef, undef], []⟩) (by kernel_rfl) ?_
 refine wsr ?_
 refine wv (.bool false) ?_
 refine wpList_nil (then_normal ?_)
 refine wp_seq ?_
 refine wsr ?_
 refine wv (.pointer (some ⟨b, 0, none⟩)) ?_
 refine wv (.int .i64 p) ?_
 refine wcl (l01Is_any F hF b _ p _ hb) ?_
 intro w1 E1
 refine wv (.bool (!(isB F p))) ?_
 refine wv (.bool (!(isB F p))) ?_
 refine split_bool (isB F p) (fun h1 => ?_) (fun h1 => ?_)
 ·skip
  refine wbl 15 false (bnT h1) ?_
  have h1d := isB_true.1 h1
  refine wv (.pointer (some ⟨b, 0, none⟩)) ?_
  refine wv (.int .i64 p) ?_
  refine wv (.pointer (some ⟨b, 0, none⟩)) ?_
  refine wv (.pointer (some ⟨b, 2, none⟩)) ?_
  refine wix b 2 p .i64 arrt__100_uint8 ?_
  replace hb := hb.ext E1
  have ce1 := hF.k1 ((p).toNat) (by omega)
  refine wld b (2 + (p).toNat) scal_uint8 (hb.get (Fld.getk _ _ (by omega))) ?_
  refine wv (.bool ((F.k ((p).toNat)) == 3)) ?_
  refine wv (.bool ((F.k ((p).toNat)) == 3)) ?_
  refine wv (.bool ((F.k ((p).toNat)) == 3)) ?_
  refine split_bool ((F.k ((p).toNat)) == 3) (fun h2 => ?_) (fun h2 => ?_)
  ·skip
   refine wbl 24 true h2 ?_
   have h2d := eT h2
   refine wsk ?_
   refine wsk ?_
   refine wsk ?_
   refine wsk ?_
   refine wv (.bool true) ?_
   refine wpList_nil (then_normal ?_)
   refine wct ?_
   refine wsr ?_
   refine wv (.bool false) ?_
   refine wpList_nil (then_normal ?_)
   refine wp_ret ?_
   refine then_ret ?_
   have H1 := (Ext.refl w).trans E1
   refine ret1 (.bool (isB F p && cvR F p c w0 l)) rfl ?_ rfl ?_
   ·refine (resT (v := .bool false) (by kernel_rfl)).trans ?_
    refine congrArg Value.bool ?_
    first | (rw [show isB F p = false by assumption]; rfl) | (rw [show isB F p = true by assumption, Bool.true_and]; first | exact (cvR_1 (by assumption)).symm | exact (cvR_1 (bneF (by assumption))).symm | exact (cvR_4 (by assumption)).symm | exact (cvR_t (bneT (by assumption)) (by assumption) (by assumption)).symm | skip)
   exact ⟨rfl, H1⟩
  ·skip
   refine wbl 24 false h2 ?_
   have h2d := eF h2
   refine wv (.pointer (some ⟨b, 0, none⟩)) ?_
   refine wv (.int .i64 c) ?_
   refine wcl (l03Soil_any F hF b _ c _ hb) ?_
   intro w2 E2
   refine wv (.bool (!(isB F c && (F.k c.toNat == 0)))) ?_
   refine wv (.bool (!(isB F c && (F.k c.toNat == 0)))) ?_
   refine wpList_nil (then_normal ?_)
   have H2 := ((Ext.refl w).trans E1).trans E2
   refine wsplit (!(isB F c && (F.k c.toNat == 0))) (fun h3 => ?_) (fun h3 => ?_)
   ·skip
    replace h3 := nbT h3
    refine wsr ?_
    refine wv (.bool false) ?_
    refine wpList_nil (then_normal ?_)
    refine wp_ret ?_
    refine then_ret ?_
    refine ret1 (.bool (isB F p && cvR F p c w0 l)) rfl ?_ rfl ?_
    ·refine (resT (v := .bool false) (by kernel_rfl)).trans ?_
     refine congrArg Value.bool ?_
     first | (rw [show isB F p = false by assumption]; rfl) | (rw [show isB F p = true by assumption, Bool.true_and]; first | exact (cvR_1 (by assumption)).symm | exact (cvR_1 (bneF (by assumption))).symm | exact (cvR_4 (by assumption)).symm | exact (cvR_t (bneT (by assumption)) (by assumption) (by assumption)).symm | skip)
    exact ⟨rfl, H2⟩
   ·skip
    replace h3 := nbF h3
    obtain ⟨h3a, h3b⟩ := andT h3
    have h3ad := isB_true.1 h3a
    have h3bd := eT h3b
    refine wp_skip ?_
    refine then_normal ?_
    refine wsr ?_
    refine wv (.int .i64 w0) ?_
    refine wv (.int .i64 p) ?_
    refine wv (.int .i64 c) ?_
    refine wcl (l01Square_any p c (by omega) (by omega) _) ?_
    intro w3 E3
    refine wi64 (1 + (sqr p c)) ?_
    have ed1 := Int.ediv_nonneg (show 0 ≤ w0 by omega) (show 0 ≤ (1 + (sqr p c)) by omega)
    have ed2 := Int.ediv_le_self (1 + (sqr p c)) (show 0 ≤ w0 by omega)
    refine wquoz w0 (1 + (sqr p c)) ?_
    refine wv (.int .i64 l) ?_
    refine wv (.bool (decide (l ≤ w0 / (1 + (sqr p c))))) ?_
    refine wv (.bool (decide (l ≤ w0 / (1 + (sqr p c))))) ?_
    refine wpList_nil (then_normal ?_)
    refine wp_frame (a' := ⟨#[.pointer (some ⟨b, 0, none⟩), .int .i64 p, .int .i64 c, .int .i64 w0, .int .i64 l, undef, undef, undef, undef, undef, .bool (decide (l ≤ w0 / (1 + (sqr p c)))), .pointer (some ⟨b, 0, none⟩), .int .i64 p, .bool (isB F p), .bool (!(isB F p)), .bool false, .pointer (some ⟨b, 0, none⟩), .int .i64 p, .pointer (some ⟨b, 0, none⟩), .pointer (some ⟨b, 2, none⟩), .pointer (some ⟨b, 2 + (p).toNat, none⟩), .int .u8 (F.k ((p).toNat)), .bool ((F.k ((p).toNat)) == 3), .bool ((F.k ((p).toNat)) == 3), .bool false, .pointer (some ⟨b, 0, none⟩), .int .i64 c, .bool (isB F c && (F.k c.toNat == 0)), .bool (!(isB F c && (F.k c.toNat == 0))), .bool (!(isB F c && (F.k c.toNat == 0))), .int .i64 w0, .int .i64 p, .int .i64 c, .int .i64 (sqr p c), .int .i64 (1 + (sqr p c)), .int .i64 (w0 / (1 + (sqr p c))), .int .i64 l, .bool (decide (l ≤ w0 / (1 + (sqr p c))))], []⟩) (by kernel_rfl) ?_
    refine wp_ret ?_
    have H3 := H2.trans E3
    refine ret1 (.bool (isB F p && cvR F p c w0 l)) rfl ?_ rfl ?_
    ·refine (resT (v := .bool (decide (l ≤ w0 / (1 + (sqr p c))))) (by kernel_rfl)).trans ?_
     refine congrArg Value.bool ?_
     first | (rw [show isB F p = false by assumption]; rfl) | (rw [show isB F p = true by assumption, Bool.true_and]; first | exact (cvR_1 (by assumption)).symm | exact (cvR_1 (bneF (by assumption))).symm | exact (cvR_4 (by assumption)).symm | exact (cvR_t (bneT (by assumption)) (by assumption) (by assumption)).symm | skip)
    exact ⟨rfl, H3⟩
 ·skip
  refine wbl 15 true (bnF h1) ?_
  refine wsk ?_
  refine wsk ?_
  refine wsk ?_
  refine wsk ?_
  refine wsk ?_
  refine wsk ?_
  refine wsk ?_
  refine wv (.bool true) ?_
  refine wv (.bool true) ?_
  refine wsk ?_
  refine wsk ?_
  refine wsk ?_
  refine wsk ?_
  refine wv (.bool true) ?_
  refine wpList_nil (then_normal ?_)
  refine wct ?_
  refine wsr ?_
  refine wv (.bool false) ?_
  refine wpList_nil (then_normal ?_)
  refine wp_ret ?_
  refine then_ret ?_
  have H4 := (Ext.refl w).trans E1
  refine ret1 (.bool (isB F p && cvR F p c w0 l)) rfl ?_ rfl ?_
  ·refine (resT (v := .bool false) (by kernel_rfl)).trans ?_
   refine congrArg Value.bool ?_
   first | (rw [show isB F p = false by assumption]; rfl) | (rw [show isB F p = true by assumption, Bool.true_and]; first | exact (cvR_1 (by assumption)).symm | exact (cvR_1 (bneF (by assumption))).symm | exact (cvR_4 (by assumption)).symm | exact (cvR_t (bneT (by assumption)) (by assumption) (by assumption)).symm | skip)
  exact ⟨rfl, H4⟩
theorem sCoverersOf_any (F : Fld) (hF : F.wf) (c : Int) (w0 : Int) (l : Int) (w : World) :
 Calls Try.prog 23 #[.agg F.cells, .int .i64 c, .int .i64 w0, .int .i64 l] w fun e w' => e = .returned (.tuple #[.agg #[.int .u64 ((cvrS F c w0 l).1), .int .u64 ((cvrS F c w0 l).2)], .int .i64 (code F (isB F c && (inB w0 1 1000 && inB l 1 1000)))]) ∧ Ext w w' := by
 refine calls_of_wp Try.func23 rfl ?_
 refine wp_frame (a' := ⟨#[.agg F.cells, .int .i64 c, .int .i64 w0, .int .i64 l, undef, undef, undef, undef, undef, undef, undef, undef, undef, undef, undef, undef, undef, undef, undef, undef, undef, undef, undef, undef, undef, undef, undef, undef, undef, undef, undef, undef, undef, undef, undef], []⟩) (by kernel_rfl) ?_
 refine wsr ?_
 refine wbox F.cells ?_
 intro g1 w1 B1 E1 hg_
 have lo_g1 := Nat.le_trans ((Ext.refl w)).size hg_
 have H1 := (Ext.refl w).trans E1
 refine wnew #[.int .u64 0, .int .u64 0] Try.zeroValue33 rfl ?_
 intro g2 w2 B2 E2 hg_
 have q_g1_g2 := Nat.ne_of_lt (Nat.lt_of_lt_of_le B1.lt hg_)
 have lo_g2 := Nat.le_trans (H1).size hg_
 refine wv (.int .i64 0) ?_
 refine wpList_nil (then_normal ?_)
 refine wp_seq ?_
 refine wsr ?_
 refine wv (.int .i64 c) ?_
 refine wv (.int .i64 w0) ?_
 refine wv (.int .i64 l) ?_
 refine wcl (l03Numbers_any w0 l _) ?_
 intro w3 E3
 replace B1 := (B1.ext E2).ext E3
 refine wcl (l01Asked_any F hF g1 _ c (inB w0 1 1000 && inB l 1 1000) (isB F c && (inB w0 1 1000 && inB l 1 1000)) rfl _ B1) ?_
 intro w4 E4
 refine wv (.int .i64 (code F (isB F c && (inB w0 1 1000 && inB l 1 1000)))) ?_
 refine wpList_nil (then_normal ?_)
 refine wsr ?_
 refine wv (.int .i64 (code F (isB F c && (inB w0 1 1000 && inB l 1 1000)))) ?_
 refine wv (.bool ((code F (isB F c && (inB w0 1 1000 && inB l 1 1000))) != 0)) ?_
 refine wpList_nil (then_normal ?_)
 have H2 := ((H1.trans E2).trans E3).trans E4
 refine wsplit ((code F (isB F c && (inB w0 1 1000 && inB l 1 1000))) != 0) (fun h1 => ?_) (fun h1 => ?_)
 ·skip
  have h1d := nT h1
  refine wsr ?_
  refine wv (.agg #[.int .u64 0, .int .u64 0]) ?_
  refine wv (.int .i64 (code F (isB F c && (inB w0 1 1000 && inB l 1 1000)))) ?_
  replace B2 := (B2.ext E3).ext E4
  refine wput #[.int .u64 0, .int .u64 0] row_impl_Cells B2 (by rfl) (by rfl) (by kernel_rfl) ?_
  intro w5 B2_ X1
  clear B2; have B2 := B2_; clear B2_
  refine wv (.int .i64 (code F (isB F c && (inB w0 1 1000 && inB l 1 1000)))) ?_
  refine wpList_nil (then_normal ?_)
  refine wp_ret ?_
  refine then_ret ?_
  have H3 := X1.ext w lo_g2 H2
  refine ret2 (.agg #[.int .u64 ((cvrS F c w0 l).1), .int .u64 ((cvrS F c w0 l).2)]) (.int .i64 (code F (isB F c && (inB w0 1 1000 && inB l 1 1000)))) rfl ?_ ?_ rfl ?_
  ·refine ⟨g2, 33, #[.int .u64 0, .int .u64 0], _, by kernel_rfl, B2, row_impl_Cells, ?_, ?_⟩
   ·rfl
   ·show (.agg #[.int .u64 ((cvrS F c w0 l).1), .int .u64 ((cvrS F c w0 l).2)] : Value) = (.agg #[.int .u64 0, .int .u64 0])
    refine congrArg Value.agg ?_
    first | rw [cvrS_f (by assumption)] | (rw [cvrS_t (by assumption), show i = 100 by omega])
  ·exact resT (by kernel_rfl)
  exact ⟨rfl, H3⟩
 ·skip
  have h1d := nF h1
  have h1o := (code_zero h1d).1
  have h1z := (code_zero h1d).2
  obtain ⟨h1za, h1zb⟩ := andT h1z
  have h1zad := isB_true.1 h1za
  obtain ⟨h1zba, h1zbb⟩ := andT h1zb
  have h1zbad := inT h1zba
  have h1zbbd := inT h1zbb
  refine wp_skip ?_
  refine then_normal ?_
  refine wsr ?_
  refine wv (.agg #[.int .u64 0, .int .u64 0]) ?_
  replace B1 := B1.ext E4
  replace B2 := (B2.ext E3).ext E4
  refine wnew #[.int .u64 0, .int .u64 0] Try.zeroValue33 rfl ?_
  intro g3 w6 B3 E5 hg_
  have q_g1_g3 := Nat.ne_of_lt (Nat.lt_of_lt_of_le B1.lt hg_)
  have q_g2_g3 := Nat.ne_of_lt (Nat.lt_of_lt_of_le B2.lt hg_)
  have lo_g3 := Nat.le_trans (H2).size hg_
  refine wput #[.int .u64 0, .int .u64 0] row_impl_Cells B3 (by rfl) (by rfl) (by kernel_rfl) ?_
  intro w7 B3_ X2
  clear B3; have B3 := B3_; clear B3_
  refine wpList_nil (then_normal ?_)
  refine wp_seq ?_
  refine wsr ?_
  refine wv (.int .i64 0) ?_
  refine wpList_nil (then_normal ?_)
  refine wp_block ?_
  replace B1 := X2.blk (B1.ext E5) q_g1_g3
  replace B2 := X2.blk (B2.ext E5) q_g2_g3
  have H4 := X2.ext w lo_g3 (H2.trans E5)
  refine wp_loop_k (fun m1 a wl1 => ∃ (i : Nat), m1 = 100 - i ∧ i ≤ 100 ∧ Ext w wl1 ∧ Blk wl1 g1 29 F.cells ∧ Blk wl1 g2 33 #[.int .u64 0, .int .u64 0] ∧ Blk wl1 g3 33 #[.int .u64 ((setC F (fun c_ => cvR F c_ c w0 l) i).1), .int .u64 ((setC F (fun c_ => cvR F c_ c w0 l) i).2)] ∧ (∃ J1 : Nat → Value, a = ⟨#[.agg F.cells, .int .i64 c, .int .i64 w0, .int .i64 l, .pointer (some ⟨g1, 0, none⟩), undef, undef, undef, .pointer (some ⟨g2, 0, none⟩), .int .i64 0, .int .i64 (code F (isB F c && (inB w0 1 1000 && inB l 1 1000))), .pointer (some ⟨g3, 0, none⟩), .int .i64 (i : Int), .int .i64 c, .int .i64 w0, .int .i64 l, .bool (inB w0 1 1000 && inB l 1 1000), .int .i64 (code F (isB F c && (inB w0 1 1000 && inB l 1 1000))), .int .i64 (code F (isB F c && (inB w0 1 1000 && inB l 1 1000))), .bool ((code F (isB F c && (inB w0 1 1000 && inB l 1 1000))) != 0), undef, undef, .agg #[.int .u64 0, .int .u64 0], J1 23, J1 24, J1 25, J1 26, J1 27, J1 28, J1 29, J1 30, J1 31, J1 32, J1 33, undef], []⟩)) (100) ?_ ?_
  ·refine ⟨0, rfl, ?_, H4, B1, B2, ?_, exJ (by kernel_rfl)⟩
   ·omega
   ·unfold setC; rw [foldC_0]; exact B3
  intro m1 a wl1 hI
  obtain ⟨i, rfl, hi_, HL1, B1, B2, B3, J1, rfl⟩ := hI
  refine wp_seq ?_
  refine wsr ?_
  refine wv (.int .i64 (i : Int)) ?_
  refine wv (.bool (decide ((i : Int) < 100))) ?_
  refine wpList_nil (then_normal ?_)
  refine wsplit (decide ((i : Int) < 100)) (fun h2 => ?_) (fun h2 => ?_)
  ·skip
   have h2d := dT h2
   refine wp_skip ?_
   refine then_normal ?_
   refine wp_seq ?_
   refine wp_block ?_
   refine wsr ?_
   refine wv (.int .i64 (i : Int)) ?_
   refine wv (.int .i64 c) ?_
   refine wv (.int .i64 w0) ?_
   refine wv (.int .i64 l) ?_
   refine wcl (l03Covers_any F hF g1 _ (i : Int) c w0 l (by omega) (by omega) _ B1) ?_
   intro w8 E6
   refine wpList_nil (then_normal ?_)
   have H5 := HL1.trans E6
   refine wsplit (isB F (i : Int) && cvR F (i : Int) c w0 l) (fun h3 => ?_) (fun h3 => ?_)
   ·skip
    obtain ⟨h3a, h3b⟩ := andT h3
    have h3ad := isB_true.1 h3a
    refine wp_region_lit ?_
    refine wv (.int .i64 (i : Int)) ?_
    replace B3 := B3.ext E6
    refine wcl (l01Put_any ((setC F (fun c_ => cvR F c_ c w0 l) i).1) ((setC F (fun c_ => cvR F c_ c w0 l) i).2) g3 _ (i : Int) (by omega) _ B3) ?_
    rintro w9 ⟨B3_, X3⟩
    clear B3; have B3 := B3_; clear B3_
    refine wpList_nil (block_normal (then_normal ?_))
    refine wp_region_lit ?_
    refine wv (.int .i64 (i : Int)) ?_
    refine wi64 ((i : Int) + 1) ?_
    refine wv (.int .i64 ((i : Int) + 1)) ?_
    refine wpList_nil (then_normal ?_)
    replace B1 := X3.blk (B1.ext E6) q_g1_g3
    replace B2 := X3.blk (B2.ext E6) q_g2_g3
    have H6 := X3.ext w lo_g3 H5
    refine ⟨_, ?_, i + 1, rfl, ?_, H6, B1, B2, ?_, exJ (by kernel_rfl)⟩
    ·omega
    ·omega
    ·first | (rw [setC_2 (by assumption)]; exact B3) | (rw [setC_3 (by assumption) (by assumption)]; exact B3) | (rw [setC_1 (by assumption) (by assumption)]; exact B3) | (rw [setC_4 (by assumption)]; exact B3) | (rw [setC_5 (by assumption)]; exact B3)
   ·skip
    refine wp_skip ?_
    refine block_normal (then_normal ?_)
    refine wp_region_lit ?_
    refine wv (.int .i64 (i : Int)) ?_
    refine wi64 ((i : Int) + 1) ?_
    refine wv (.int .i64 ((i : Int) + 1)) ?_
    refine wpList_nil (then_normal ?_)
    replace B1 := B1.ext E6
    replace B2 := B2.ext E6
    replace B3 := B3.ext E6
    refine ⟨_, ?_, i + 1, rfl, ?_, H5, B1, B2, ?_, exJ (by kernel_rfl)⟩
    ·omega
    ·omega
    ·first | (rw [setC_2 (by assumption)]; exact B3) | (rw [setC_3 (by assumption) (by assumption)]; exact B3) | (rw [setC_1 (by assumption) (by assumption)]; exact B3) | (rw [setC_4 (by assumption)]; exact B3) | (rw [setC_5 (by assumption)]; exact B3)
  ·skip
   have h2d := dF h2
   refine wp_exit ?_
   refine then_exit ?_
   refine then_exit ?_
   refine block_exit ?_
   refine then_normal ?_
   refine wsr ?_
   refine wrow row_impl_Cells B3 (by rfl) ?_
   refine wput #[.int .u64 ((setC F (fun c_ => cvR F c_ c w0 l) i).1), .int .u64 ((setC F (fun c_ => cvR F c_ c w0 l) i).2)] row_impl_Cells B2 (by rfl) (by rfl) (by kernel_rfl) ?_
   intro w10 B2_ X4
   clear B2; have B2 := B2_; clear B2_
   refine wv (.int .i64 0) ?_
   refine wpList_nil (then_normal ?_)
   refine wp_ret ?_
   have H7 := X4.ext w lo_g2 HL1
   refine ret2 (.agg #[.int .u64 ((cvrS F c w0 l).1), .int .u64 ((cvrS F c w0 l).2)]) (.int .i64 (code F (isB F c && (inB w0 1 1000 && inB l 1 1000)))) rfl ?_ ?_ rfl ?_
   ·refine ⟨g2, 33, #[.int .u64 ((setC F (fun c_ => cvR F c_ c w0 l) i).1), .int .u64 ((setC F (fun c_ => cvR F c_ c w0 l) i).2)], _, by kernel_rfl, B2, row_impl_Cells, ?_, ?_⟩
    ·rfl
    ·show (.agg #[.int .u64 ((cvrS F c w0 l).1), .int .u64 ((cvrS F c w0 l).2)] : Value) = (.agg #[.int .u64 ((setC F (fun c_ => cvR F c_ c w0 l) i).1), .int .u64 ((setC F (fun c_ => cvR F c_ c w0 l) i).2)])
     refine congrArg Value.agg ?_
     first | rw [cvrS_f (by assumption)] | (rw [cvrS_t (by assumption), show i = 100 by omega])
   ·refine (resT (v := .int .i64 0) (by kernel_rfl)).trans ?_
    refine congrArg (Value.int _) ?_
    first | (rw [if_pos (by assumption)]; done) | (rw [if_neg (by assumption)]; done) | rfl | assumption | (symm; assumption)
   exact ⟨rfl, H7⟩
theorem iCoverersOf_any (F : Fld) (hF : F.wf) (c : Int) (w0 : Int) (l : Int) (w : World) :
 Calls Try.prog 22 #[.agg F.cells, .int .i64 c, .int .i64 w0, .int .i64 l] w fun e w' => e = .returned (.tuple #[.agg #[.int .u64 ((cvrS F c w0 l).1), .int .u64 ((cvrS F c w0 l).2)], .int .i64 (code F (isB F c && (inB w0 1 1000 && inB l 1 1000)))]) ∧ Ext w w' := by
 refine calls_of_wp Try.func22 rfl ?_
 refine wp_frame (a' := ⟨#[.agg F.cells, .int .i64 c, .int .i64 w0, .int .i64 l, undef, undef, undef, undef, undef, undef, undef, undef, undef, undef, undef, undef, undef, undef, undef, undef, undef], []⟩) (by kernel_rfl) ?_
 refine wsr ?_
 refine wbox F.cells ?_
 intro g1 w1 B1 E1 hg_
 have lo_g1 := Nat.le_trans ((Ext.refl w)).size hg_
 have H1 := (Ext.refl w).trans E1
 refine wboxv (.int .i64 c) ?_
 intro g2 w2 B2 E2 hg_
 have q_g1_g2 := Nat.ne_of_lt (Nat.lt_of_lt_of_le B1.lt hg_)
 have lo_g2 := Nat.le_trans (H1).size hg_
 have H2 := H1.trans E2
 replace B1 := B1.ext E2
 refine wboxv (.int .i64 w0) ?_
 intro g3 w3 B3 E3 hg_
 have q_g1_g3 := Nat.ne_of_lt (Nat.lt_of_lt_of_le B1.lt hg_)
 have q_g2_g3 := Nat.ne_of_lt (Nat.lt_of_lt_of_le B2.lt hg_)
 have lo_g3 := Nat.le_trans (H2).size hg_
 have H3 := H2.trans E3
 replace B1 := B1.ext E3
 replace B2 := B2.ext E3
 refine wboxv (.int .i64 l) ?_
 intro g4 w4 B4 E4 hg_
 have q_g1_g4 := Nat.ne_of_lt (Nat.lt_of_lt_of_le B1.lt hg_)
 have q_g2_g4 := Nat.ne_of_lt (Nat.lt_of_lt_of_le B2.lt hg_)
 have q_g3_g4 := Nat.ne_of_lt (Nat.lt_of_lt_of_le B3.lt hg_)
 have lo_g4 := Nat.le_trans (H3).size hg_
 have H4 := H3.trans E4
 replace B1 := B1.ext E4
 replace B2 := B2.ext E4
 replace B3 := B3.ext E4
 refine wnew #[.int .u64 0, .int .u64 0] Try.zeroValue33 rfl ?_
 intro g5 w5 B5 E5 hg_
 have q_g1_g5 := Nat.ne_of_lt (Nat.lt_of_lt_of_le B1.lt hg_)
 have q_g2_g5 := Nat.ne_of_lt (Nat.lt_of_lt_of_le B2.lt hg_)
 have q_g3_g5 := Nat.ne_of_lt (Nat.lt_of_lt_of_le B3.lt hg_)
 have q_g4_g5 := Nat.ne_of_lt (Nat.lt_of_lt_of_le B4.lt hg_)
 have lo_g5 := Nat.le_trans (H4).size hg_
 refine wv (.int .i64 0) ?_
 refine wpList_nil (then_normal ?_)
 refine wp_seq ?_
 refine wsr ?_
 refine wv (.func (.func 68) #[] #[.pointer (some ⟨g1, 0, none⟩), .pointer (some ⟨g2, 0, none⟩), .pointer (some ⟨g3, 0, none⟩), .pointer (some ⟨g4, 0, none⟩)]) ?_
 replace B1 := B1.ext E5
 replace B2 := B2.ext E5
 replace B3 := B3.ext E5
 replace B4 := B4.ext E5
 refine wcl (fieldCode_any F hF g1 _ (.func (.func 68) #[] #[.pointer (some ⟨g1, 0, none⟩), .pointer (some ⟨g2, 0, none⟩), .pointer (some ⟨g3, 0, none⟩), .pointer (some ⟨g4, 0, none⟩)]) 68 #[.pointer (some ⟨g1, 0, none⟩), .pointer (some ⟨g2, 0, none⟩), .pointer (some ⟨g3, 0, none⟩), .pointer (some ⟨g4, 0, none⟩)] (fun _ => by kernel_rfl) (isB F c && (inB w0 1 1000 && inB l 1 1000)) _ B1 (fun _ E_ => CoverersOf1_any F hF g1 _ c g2 _ w0 g3 _ l g4 _ _ (B1.ext E_) (B2.ext E_) (B3.ext E_) (B4.ext E_))) ?_
 intro w6 E6
 refine wv (.int .i64 (code F (isB F c && (inB w0 1 1000 && inB l 1 1000)))) ?_
 refine wpList_nil (then_normal ?_)
 refine wsr ?_
 refine wv (.int .i64 (code F (isB F c && (inB w0 1 1000 && inB l 1 1000)))) ?_
 refine wv (.bool ((code F (isB F c && (inB w0 1 1000 && inB l 1 1000))) != 0)) ?_
 refine wpList_nil (then_normal ?_)
 have H5 := (H4.trans E5).trans E6
 refine wsplit ((code F (isB F c && (inB w0 1 1000 && inB l 1 1000))) != 0) (fun h1 => ?_) (fun h1 => ?_)
 ·skip
  have h1d := nT h1
  refine wsr ?_
  refine wv (.agg #[.int .u64 0, .int .u64 0]) ?_
  refine wv (.int .i64 (code F (isB F c && (inB w0 1 1000 && inB l 1 1000)))) ?_
  replace B5 := B5.ext E6
  refine wput #[.int .u64 0, .int .u64 0] row_impl_Cells B5 (by rfl) (by rfl) (by kernel_rfl) ?_
  intro w7 B5_ X1
  clear B5; have B5 := B5_; clear B5_
  refine wv (.int .i64 (code F (isB F c && (inB w0 1 1000 && inB l 1 1000)))) ?_
  refine wpList_nil (then_normal ?_)
  refine wp_ret ?_
  refine then_ret ?_
  have H6 := X1.ext w lo_g5 H5
  refine ret2 (.agg #[.int .u64 ((cvrS F c w0 l).1), .int .u64 ((cvrS F c w0 l).2)]) (.int .i64 (code F (isB F c && (inB w0 1 1000 && inB l 1 1000)))) rfl ?_ ?_ rfl ?_
  ·refine ⟨g5, 33, #[.int .u64 0, .int .u64 0], _, by kernel_rfl, B5, row_impl_Cells, ?_, ?_⟩
   ·rfl
   ·show (.agg #[.int .u64 ((cvrS F c w0 l).1), .int .u64 ((cvrS F c w0 l).2)] : Value) = (.agg #[.int .u64 0, .int .u64 0])
    refine congrArg Value.agg ?_
    first | rw [cvrS_f (by assumption)] | rw [cvrS_t (by assumption)]
  ·exact resT (by kernel_rfl)
  exact ⟨rfl, H6⟩
 ·skip
  have h1d := nF h1
  have h1o := (code_zero h1d).1
  have h1z := (code_zero h1d).2
  obtain ⟨h1za, h1zb⟩ := andT h1z
  have h1zad := isB_true.1 h1za
  obtain ⟨h1zba, h1zbb⟩ := andT h1zb
  have h1zbad := inT h1zba
  have h1zbbd := inT h1zbb
  refine wp_skip ?_
  refine then_normal ?_
  refine wsr ?_
  replace B2 := B2.ext E6
  refine wld (v := .int .i64 c) g2 (0) scal_int64 (B2.get (rfl)) ?_
  replace B3 := B3.ext E6
  refine wld (v := .int .i64 w0) g3 (0) scal_int64 (B3.get (rfl)) ?_
  replace B4 := B4.ext E6
  refine wld (v := .int .i64 l) g4 (0) scal_int64 (B4.get (rfl)) ?_
  replace B1 := B1.ext E6
  refine wcl (coverers_any F hF g1 _ c w0 l (by omega) (by assumption) _ B1) ?_
  intro w8 E7
  replace B5 := (B5.ext E6).ext E7
  refine wput #[.int .u64 ((setC F (fun c_ => cvR F c_ c w0 l) 100).1), .int .u64 ((setC F (fun c_ => cvR F c_ c w0 l) 100).2)] row_impl_Cells B5 (by rfl) (by rfl) (by kernel_rfl) ?_
  intro w9 B5_ X2
  clear B5; have B5 := B5_; clear B5_
  refine wv (.int .i64 0) ?_
  refine wpList_nil (then_normal ?_)
  refine wp_ret ?_
  have H7 := X2.ext w lo_g5 (H5.trans E7)
  refine ret2 (.agg #[.int .u64 ((cvrS F c w0 l).1), .int .u64 ((cvrS F c w0 l).2)]) (.int .i64 (code F (isB F c && (inB w0 1 1000 && inB l 1 1000)))) rfl ?_ ?_ rfl ?_
  ·refine ⟨g5, 33, #[.int .u64 ((setC F (fun c_ => cvR F c_ c w0 l) 100).1), .int .u64 ((setC F (fun c_ => cvR F c_ c w0 l) 100).2)], _, by kernel_rfl, B5, row_impl_Cells, ?_, ?_⟩
   ·rfl
   ·show (.agg #[.int .u64 ((cvrS F c w0 l).1), .int .u64 ((cvrS F c w0 l).2)] : Value) = (.agg #[.int .u64 ((setC F (fun c_ => cvR F c_ c w0 l) 100).1), .int .u64 ((setC F (fun c_ => cvR F c_ c w0 l) 100).2)])
    refine congrArg Value.agg ?_
    first | rw [cvrS_f (by assumption)] | rw [cvrS_t (by assumption)]
  ·refine (resT (v := .int .i64 0) (by kernel_rfl)).trans ?_
   refine congrArg (Value.int _) ?_
   first | (rw [if_pos (by assumption)]; done) | (rw [if_neg (by assumption)]; done) | rfl | assumption | (symm; assumption)
  exact ⟨rfl, H7⟩
end Go.Proofs.Ytgglcebaanomhaa
