/-
  Contracts: sets and lists. No conditions.
-/
import Derived.Test.YthmdcnoockoggaaTy
import Derived.Test.YthmdcnoockoggaaSl
import Derived.Test.YthmdcnoockoggaaMth
import Derived.Test.YthmdcnoockoggaaFn3
namespace Go.Proofs.Ythmdcnoockoggaa
open Go.RowKit
set_option linter.unusedSimpArgs false
set_option linter.unusedVariables false
set_option maxHeartbeats 4000000
set_option maxRecDepth 100000
attribute [local irreducible] wpList Code.wp
--# iHasCell_any
theorem iHasCell_any (x y : Int) (c : Int) (w : World) :
 Calls Try.prog 22 #[.agg #[.int .u64 x, .int .u64 y], .int .i64 c] w fun e w' => e = .returned (.bool (hasB x y c)) ∧ Ext w w' := by
 refine calls_of_wp Try.func22 rfl ?_
 refine wp_frame (a' := ⟨#[.agg #[.int .u64 x, .int .u64 y], .int .i64 c, undef, undef, undef, undef, undef, undef, undef, undef, undef, undef, undef, undef, undef, undef, undef, undef], []⟩) (by kernel_rfl) ?_
 refine wsr ?_
 refine wbox #[.int .u64 x, .int .u64 y] ?_
 intro g1 w1 B1 E1 _
 refine wv (.bool false) ?_
 refine wpList_nil (then_normal ?_)
 refine wsr ?_
 refine wv (.int .i64 c) ?_
 refine wcl (within_any c 0 99 _) ?_
 intro w2 E2
 refine wv (.bool (inB c 0 99)) ?_
 have H1 := ((Ext.refl w).trans E1).trans E2
 refine split_bool (inB c 0 99) (fun h1 => ?_) (fun h1 => ?_)
 · skip
   refine wbl 7 true h1 ?_
   have h1d := inT h1
   refine wv (.int .i64 c) ?_
   refine wquo c 64 ?_
   refine wix g1 0 (c / 64) .i64 arrt_impl_Cells ?_
   replace B1 := B1.ext E2
   refine wld (v := .int .u64 (wd x y c)) g1 (0 + (c / 64).toNat) scal_uint64 (B1.get (by rw [Nat.zero_add]; exact cells2a _ _ _ (by omega) (by omega))) ?_
   refine wv (.int .i64 c) ?_
   refine wrem c 64 ?_
   refine wshr .u64 .i64 (wd x y c) (c % 64) ?_
   refine wv (.int .u64 (bits BinOp.and IntKind.u64 ((wd x y c) / 2 ^ (c % 64).toNat) 1)) ?_
   refine wv (.bool ((bits BinOp.and IntKind.u64 ((wd x y c) / 2 ^ (c % 64).toNat) 1) == 1)) ?_
   refine wv (.bool ((bits BinOp.and IntKind.u64 ((wd x y c) / 2 ^ (c % 64).toNat) 1) == 1)) ?_
   refine wv (.bool ((bits BinOp.and IntKind.u64 ((wd x y c) / 2 ^ (c % 64).toNat) 1) == 1)) ?_
   refine wpList_nil (then_normal ?_)
   refine wp_ret ?_
   refine ret1 (.bool (hasB x y c)) rfl ?_ rfl ?_
   · refine (resT (v := .bool ((bits BinOp.and IntKind.u64 ((wd x y c) / 2 ^ (c % 64).toNat) 1) == 1)) (by kernel_rfl)).trans ?_
     refine congrArg Value.bool ?_
     first | exact (hasB_out (by assumption)).symm | exact (hasB_in (by assumption)).symm
   exact ⟨rfl, H1⟩
 · skip
   refine wbl 7 false h1 ?_
   have h1d := inF h1
   refine wsk ?_
   refine wsk ?_
   refine wsk ?_
   refine wsk ?_
   refine wsk ?_
   refine wsk ?_
   refine wsk ?_
   refine wsk ?_
   refine wsk ?_
   refine wv (.bool false) ?_
   refine wv (.bool false) ?_
   refine wpList_nil (then_normal ?_)
   refine wp_ret ?_
   refine ret1 (.bool (hasB x y c)) rfl ?_ rfl ?_
   · refine (resT (v := .bool false) (by kernel_rfl)).trans ?_
     refine congrArg Value.bool ?_
     first | exact (hasB_out (by assumption)).symm | exact (hasB_in (by assumption)).symm
   exact ⟨rfl, H1⟩


--# l01Has_any
theorem l01Has_any (x y : Int) (b : Nat) (t : TypeId) (c : Int) (w : World) (hb : Blk w b t #[.int .u64 x, .int .u64 y]) :
 Calls Try.prog 65 #[.pointer (some ⟨b, 0, none⟩), .int .i64 c] w fun e w' => e = .returned (.bool (hasB x y c)) ∧ Ext w w' := by
 refine calls_of_wp Try.func65 rfl ?_
 refine wp_frame (a' := ⟨#[.pointer (some ⟨b, 0, none⟩), .int .i64 c, undef, undef, undef, undef, undef, undef, undef, undef, undef, undef, undef, undef, undef, undef, undef, undef, undef, undef, undef], []⟩) (by kernel_rfl) ?_
 refine wsr ?_
 refine wv (.bool false) ?_
 refine wpList_nil (then_normal ?_)
 refine wsr ?_
 refine wv (.int .i64 c) ?_
 refine wcl (l00In_any c 0 99 _) ?_
 intro w1 E1
 refine wv (.bool (inB c 0 99)) ?_
 refine split_bool (inB c 0 99) (fun h1 => ?_) (fun h1 => ?_)
 · skip
   refine wbl 7 true h1 ?_
   have h1d := inT h1
   refine wv (.pointer (some ⟨b, 0, none⟩)) ?_
   refine wv (.int .i64 c) ?_
   refine wquo c 64 ?_
   refine wv (.pointer (some ⟨b, 0, none⟩)) ?_
   refine wix b 0 (c / 64) .i64 arrt_impl_Cells ?_
   replace hb := hb.ext E1
   refine wld (v := .int .u64 (wd x y c)) b (0 + (c / 64).toNat) scal_uint64 (hb.get (by rw [Nat.zero_add]; exact cells2a _ _ _ (by omega) (by omega))) ?_
   refine wv (.int .i64 c) ?_
   refine wrem c 64 ?_
   refine wu64 (c % 64) ?_
   refine wshr .u64 .u64 (wd x y c) (c % 64) ?_
   refine wv (.int .u64 (bits BinOp.and IntKind.u64 ((wd x y c) / 2 ^ (c % 64).toNat) 1)) ?_
   refine wv (.bool ((bits BinOp.and IntKind.u64 ((wd x y c) / 2 ^ (c % 64).toNat) 1) == 1)) ?_
   refine wv (.bool ((bits BinOp.and IntKind.u64 ((wd x y c) / 2 ^ (c % 64).toNat) 1) == 1)) ?_
   refine wv (.bool ((bits BinOp.and IntKind.u64 ((wd x y c) / 2 ^ (c % 64).toNat) 1) == 1)) ?_
   refine wpList_nil (then_normal ?_)
   refine wp_ret ?_
   have H1 := (Ext.refl w).trans E1
   refine ret1 (.bool (hasB x y c)) rfl ?_ rfl ?_
   · refine (resT (v := .bool ((bits BinOp.and IntKind.u64 ((wd x y c) / 2 ^ (c % 64).toNat) 1) == 1)) (by kernel_rfl)).trans ?_
     refine congrArg Value.bool ?_
     first | exact (hasB_out (by assumption)).symm | exact (hasB_in (by assumption)).symm
   exact ⟨rfl, H1⟩
 · skip
   refine wbl 7 false h1 ?_
   have h1d := inF h1
   refine wsk ?_
   refine wsk ?_
   refine wsk ?_
   refine wsk ?_
   refine wsk ?_
   refine wsk ?_
   refine wsk ?_
   refine wsk ?_
   refine wsk ?_
   refine wsk ?_
   refine wsk ?_
   refine wsk ?_
   refine wv (.bool false) ?_
   refine wv (.bool false) ?_
   refine wpList_nil (then_normal ?_)
   refine wp_ret ?_
   have H2 := (Ext.refl w).trans E1
   refine ret1 (.bool (hasB x y c)) rfl ?_ rfl ?_
   · refine (resT (v := .bool false) (by kernel_rfl)).trans ?_
     refine congrArg Value.bool ?_
     first | exact (hasB_out (by assumption)).symm | exact (hasB_in (by assumption)).symm
   exact ⟨rfl, H2⟩


--# sHasCell_any
theorem sHasCell_any (x y : Int) (c : Int) (w : World) :
 Calls Try.prog 20 #[.agg #[.int .u64 x, .int .u64 y], .int .i64 c] w fun e w' => e = .returned (.bool (hasB x y c)) ∧ Ext w w' := by
 refine calls_of_wp Try.func20 rfl ?_
 refine wp_frame (a' := ⟨#[.agg #[.int .u64 x, .int .u64 y], .int .i64 c, undef, undef, undef, undef, undef], []⟩) (by kernel_rfl) ?_
 refine wsr ?_
 refine wbox #[.int .u64 x, .int .u64 y] ?_
 intro g1 w1 B1 E1 _
 refine wv (.bool false) ?_
 refine wpList_nil (then_normal ?_)
 refine wsr ?_
 refine wv (.int .i64 c) ?_
 refine wcl (l01Has_any x y g1 _ c _ B1) ?_
 intro w2 E2
 refine wv (.bool (hasB x y c)) ?_
 refine wpList_nil (then_normal ?_)
 refine wp_ret ?_
 have H1 := ((Ext.refl w).trans E1).trans E2
 refine ret1 (.bool (hasB x y c)) rfl ?_ rfl ?_
 · exact resT (by kernel_rfl)
 exact ⟨rfl, H1⟩


--# put_any
theorem put_any (x y : Int) (b : Nat) (t : TypeId) (c : Int) (hc : 0 ≤ c ∧ c ≤ 99) (w : World) (hb : Blk w b t #[.int .u64 x, .int .u64 y]) :
 Calls Try.prog 73 #[.pointer (some ⟨b, 0, none⟩), .int .i64 c] w fun e w' => e = .returned (.tuple #[]) ∧ Blk w' b t #[.int .u64 ((putS (x, y) c).1), .int .u64 ((putS (x, y) c).2)] ∧ Wr b w w' := by
 refine calls_of_wp Try.func73 rfl ?_
 refine wp_frame (a' := ⟨#[.pointer (some ⟨b, 0, none⟩), .int .i64 c, undef, undef, undef, undef, undef, undef, undef, undef, undef, undef, undef, undef, undef, undef], []⟩) (by kernel_rfl) ?_
 refine region_go 12 [4, 5, 6, 7, 8, 9, 10, 11, 12, 13, 14, 15] [[], [], [1], [0], [3, 2], [4], [], [6], [7], [5, 8], [0], [10, 2]]
  (fun i_ => ([.val (.pointer (some ⟨b, 0, none⟩)), .val (.int .i64 c), .val (.int .i64 (c / 64)), .val (.pointer (some ⟨b, 0, none⟩)), .val (.pointer (some ⟨b, 0 + (c / 64).toNat, none⟩)), .val (.int .u64 (wd x y c)), .val (.int .i64 c), .val (.int .i64 (c % 64)), .val (.int .u64 (IntKind.u64.wrap (1 * 2 ^ (c % 64).toNat))), .val (.int .u64 (bits BinOp.or IntKind.u64 (wd x y c) (IntKind.u64.wrap (1 * 2 ^ (c % 64).toNat)))), .val (.pointer (some ⟨b, 0, none⟩)), .val (.pointer (some ⟨b, 0 + (c / 64).toNat, none⟩))] : List Fct).getD i_ .any)
  (by kernel_rfl) (by kernel_rfl) (by decide) (by simp) rfl (all_succ (all_succ (all_succ (all_succ (all_succ (all_succ (all_succ (all_succ (all_succ (all_succ (all_succ (all_succ all_zero ?_) ?_) ?_) ?_) ?_) ?_) ?_) ?_) ?_) ?_) ?_) ?_) ?_
 · refine step0 rfl rfl rfl (fun wr hw => ?_)
   exact OpRun.val (.pointer (some ⟨b, 0, none⟩)) (.pointer (some ⟨b, 0, none⟩)) (by kernel_rfl) rfl ⟨Ext.refl _, rfl⟩
 · refine step0 rfl rfl rfl (fun wr hw => ?_)
   exact OpRun.val (.int .i64 c) (.int .i64 c) (by kernel_rfl) rfl ⟨Ext.refl _, rfl⟩
 · refine step1 rfl rfl rfl rfl (fun u0 wr hw h0 => ?_)
   cases h0
   exact OpRun.val (.int .i64 (IntKind.i64.wrap (Int.tdiv c 64))) (.int .i64 (c / 64)) (by kernel_rfl) (by exact congrArg _ (quo_in (by omega) (by omega))) ⟨Ext.refl _, rfl⟩
 · refine step1 rfl rfl rfl rfl (fun u0 wr hw h0 => ?_)
   cases h0
   exact OpRun.val (.pointer (some ⟨b, 0, none⟩)) (.pointer (some ⟨b, 0, none⟩)) (by kernel_rfl) rfl ⟨Ext.refl _, rfl⟩
 · refine step2 rfl rfl rfl rfl rfl (fun u0 u1 wr hw h0 h1 => ?_)
   cases h0
   cases h1
   exact OpRun.ixa (i := c / 64) (k := .i64) (g := b) (off := 0) arrt_impl_Cells rfl (by kernel_rfl) (by kernel_rfl) (by omega) (by omega) ⟨Ext.refl _, rfl⟩
 · refine step1 rfl rfl rfl rfl (fun u0 wr hw h0 => ?_)
   cases h0
   exact OpRun.cell (g := b) (off := 0 + (c / 64).toNat) (v := .int .u64 (wd x y c)) scal_uint64 rfl (by kernel_rfl) ((hb.ext hw).get (by rw [Nat.zero_add]; exact cells2a _ _ _ (by omega) (by omega))) ⟨Ext.refl _, rfl⟩
 · refine step0 rfl rfl rfl (fun wr hw => ?_)
   exact OpRun.val (.int .i64 c) (.int .i64 c) (by kernel_rfl) rfl ⟨Ext.refl _, rfl⟩
 · refine step1 rfl rfl rfl rfl (fun u0 wr hw h0 => ?_)
   cases h0
   exact OpRun.val (.int .i64 (Int.tmod c 64)) (.int .i64 (c % 64)) (by kernel_rfl) (by exact congrArg _ (Int.tmod_eq_emod_of_nonneg (by omega))) ⟨Ext.refl _, rfl⟩
 · refine step1 rfl rfl rfl rfl (fun u0 wr hw h0 => ?_)
   cases h0
   exact OpRun.shl (k := .u64) (k2 := .i64) (a := 1) (n := c % 64) rfl (by kernel_rfl) (by kernel_rfl) (by omega) (by simp only [IntKind.bits]; omega) ⟨Ext.refl _, rfl⟩
 · refine step2 rfl rfl rfl rfl rfl (fun u0 u1 wr hw h0 h1 => ?_)
   cases h0
   cases h1
   exact OpRun.val (.int .u64 (bits BinOp.or IntKind.u64 (wd x y c) (IntKind.u64.wrap (1 * 2 ^ (c % 64).toNat)))) (.int .u64 (bits BinOp.or IntKind.u64 (wd x y c) (IntKind.u64.wrap (1 * 2 ^ (c % 64).toNat)))) (by kernel_rfl) rfl ⟨Ext.refl _, rfl⟩
 · refine step1 rfl rfl rfl rfl (fun u0 wr hw h0 => ?_)
   cases h0
   exact OpRun.val (.pointer (some ⟨b, 0, none⟩)) (.pointer (some ⟨b, 0, none⟩)) (by kernel_rfl) rfl ⟨Ext.refl _, rfl⟩
 · refine step2 rfl rfl rfl rfl rfl (fun u0 u1 wr hw h0 h1 => ?_)
   cases h0
   cases h1
   exact OpRun.ixa (i := c / 64) (k := .i64) (g := b) (off := 0) arrt_impl_Cells rfl (by kernel_rfl) (by kernel_rfl) (by omega) (by omega) ⟨Ext.refl _, rfl⟩
 refine end12 (fun u0 u1 u2 u3 u4 u5 u6 u7 u8 u9 u10 u11 w1 E1 f0 f1 f2 f3 f4 f5 f6 f7 f8 f9 f10 f11 => ?_)
 cases f0
 cases f1
 cases f2
 cases f3
 cases f4
 cases f5
 cases f6
 cases f7
 cases f8
 cases f9
 cases f10
 cases f11
 replace hb := hb.ext E1
 refine wst b (0 + (c / 64).toNat) (.int .u64 (bits BinOp.or IntKind.u64 (wd x y c) (IntKind.u64.wrap (1 * 2 ^ (c % 64).toNat)))) scal_uint64 hb (set2 (by omega)) (by first | (simp; done) | (simp; omega)) ?_
 intro w2 hb_ X1
 clear hb; have hb := hb_; clear hb_
 refine wpList_nil ?_
 refine end0_ rfl rfl ?_
 have H1 := ((Wr.of_ext (Ext.refl w)).trans (Wr.of_ext E1)).trans X1
 refine ⟨rfl, ?_, H1⟩
 have hq : (#[.int .u64 (pw0 x c (bits BinOp.or IntKind.u64 (wd x y c) (IntKind.u64.wrap (1 * 2 ^ (c % 64).toNat)))), .int .u64 (pw1 y c (bits BinOp.or IntKind.u64 (wd x y c) (IntKind.u64.wrap (1 * 2 ^ (c % 64).toNat))))] : Array Value) = #[.int .u64 ((putS (x, y) c).1), .int .u64 ((putS (x, y) c).2)] := by
   unfold putS; rfl
 rw [← hq]
 exact hb


--# l01Put_any
theorem l01Put_any (x y : Int) (b : Nat) (t : TypeId) (c : Int) (hc : 0 ≤ c ∧ c ≤ 99) (w : World) (hb : Blk w b t #[.int .u64 x, .int .u64 y]) :
 Calls Try.prog 71 #[.pointer (some ⟨b, 0, none⟩), .int .i64 c] w fun e w' => e = .returned (.tuple #[]) ∧ Blk w' b t #[.int .u64 ((putS (x, y) c).1), .int .u64 ((putS (x, y) c).2)] ∧ Wr b w w' := by
 refine calls_of_wp Try.func71 rfl ?_
 refine wp_frame (a' := ⟨#[.pointer (some ⟨b, 0, none⟩), .int .i64 c, undef, undef, undef, undef, undef, undef, undef, undef, undef, undef, undef, undef, undef, undef, undef], []⟩) (by kernel_rfl) ?_
 refine region_go 13 [4, 5, 6, 7, 8, 9, 10, 11, 12, 13, 14, 15, 16] [[], [], [1], [0], [3, 2], [4], [], [6], [7], [8], [5, 9], [0], [11, 2]]
  (fun i_ => ([.val (.pointer (some ⟨b, 0, none⟩)), .val (.int .i64 c), .val (.int .i64 (c / 64)), .val (.pointer (some ⟨b, 0, none⟩)), .val (.pointer (some ⟨b, 0 + (c / 64).toNat, none⟩)), .val (.int .u64 (wd x y c)), .val (.int .i64 c), .val (.int .i64 (c % 64)), .val (.int .u64 (c % 64)), .val (.int .u64 (IntKind.u64.wrap (1 * 2 ^ (c % 64).toNat))), .val (.int .u64 (bits BinOp.or IntKind.u64 (wd x y c) (IntKind.u64.wrap (1 * 2 ^ (c % 64).toNat)))), .val (.pointer (some ⟨b, 0, none⟩)), .val (.pointer (some ⟨b, 0 + (c / 64).toNat, none⟩))] : List Fct).getD i_ .any)
  (by kernel_rfl) (by kernel_rfl) (by decide) (by simp) rfl (all_succ (all_succ (all_succ (all_succ (all_succ (all_succ (all_succ (all_succ (all_succ (all_succ (all_succ (all_succ (all_succ all_zero ?_) ?_) ?_) ?_) ?_) ?_) ?_) ?_) ?_) ?_) ?_) ?_) ?_) ?_
 · refine step0 rfl rfl rfl (fun wr hw => ?_)
   exact OpRun.val (.pointer (some ⟨b, 0, none⟩)) (.pointer (some ⟨b, 0, none⟩)) (by kernel_rfl) rfl ⟨Ext.refl _, rfl⟩
 · refine step0 rfl rfl rfl (fun wr hw => ?_)
   exact OpRun.val (.int .i64 c) (.int .i64 c) (by kernel_rfl) rfl ⟨Ext.refl _, rfl⟩
 · refine step1 rfl rfl rfl rfl (fun u0 wr hw h0 => ?_)
   cases h0
   exact OpRun.val (.int .i64 (IntKind.i64.wrap (Int.tdiv c 64))) (.int .i64 (c / 64)) (by kernel_rfl) (by exact congrArg _ (quo_in (by omega) (by omega))) ⟨Ext.refl _, rfl⟩
 · refine step1 rfl rfl rfl rfl (fun u0 wr hw h0 => ?_)
   cases h0
   exact OpRun.val (.pointer (some ⟨b, 0, none⟩)) (.pointer (some ⟨b, 0, none⟩)) (by kernel_rfl) rfl ⟨Ext.refl _, rfl⟩
 · refine step2 rfl rfl rfl rfl rfl (fun u0 u1 wr hw h0 h1 => ?_)
   cases h0
   cases h1
   exact OpRun.ixa (i := c / 64) (k := .i64) (g := b) (off := 0) arrt_impl_Cells rfl (by kernel_rfl) (by kernel_rfl) (by omega) (by omega) ⟨Ext.refl _, rfl⟩
 · refine step1 rfl rfl rfl rfl (fun u0 wr hw h0 => ?_)
   cases h0
   exact OpRun.cell (g := b) (off := 0 + (c / 64).toNat) (v := .int .u64 (wd x y c)) scal_uint64 rfl (by kernel_rfl) ((hb.ext hw).get (by rw [Nat.zero_add]; exact cells2a _ _ _ (by omega) (by omega))) ⟨Ext.refl _, rfl⟩
 · refine step0 rfl rfl rfl (fun wr hw => ?_)
   exact OpRun.val (.int .i64 c) (.int .i64 c) (by kernel_rfl) rfl ⟨Ext.refl _, rfl⟩
 · refine step1 rfl rfl rfl rfl (fun u0 wr hw h0 => ?_)
   cases h0
   exact OpRun.val (.int .i64 (Int.tmod c 64)) (.int .i64 (c % 64)) (by kernel_rfl) (by exact congrArg _ (Int.tmod_eq_emod_of_nonneg (by omega))) ⟨Ext.refl _, rfl⟩
 · refine step1 rfl rfl rfl rfl (fun u0 wr hw h0 => ?_)
   cases h0
   exact OpRun.val (.int .u64 (IntKind.u64.wrap (c % 64))) (.int .u64 (c % 64)) (by kernel_rfl) (by exact congrArg _ (IntWalk.u64_in _ (by omega))) ⟨Ext.refl _, rfl⟩
 · refine step1 rfl rfl rfl rfl (fun u0 wr hw h0 => ?_)
   cases h0
   exact OpRun.shl (k := .u64) (k2 := .u64) (a := 1) (n := c % 64) rfl (by kernel_rfl) (by kernel_rfl) (by omega) (by simp only [IntKind.bits]; omega) ⟨Ext.refl _, rfl⟩
 · refine step2 rfl rfl rfl rfl rfl (fun u0 u1 wr hw h0 h1 => ?_)
   cases h0
   cases h1
   exact OpRun.val (.int .u64 (bits BinOp.or IntKind.u64 (wd x y c) (IntKind.u64.wrap (1 * 2 ^ (c % 64).toNat)))) (.int .u64 (bits BinOp.or IntKind.u64 (wd x y c) (IntKind.u64.wrap (1 * 2 ^ (c % 64).toNat)))) (by kernel_rfl) rfl ⟨Ext.refl _, rfl⟩
 · refine step1 rfl rfl rfl rfl (fun u0 wr hw h0 => ?_)
   cases h0
   exact OpRun.val (.pointer (some ⟨b, 0, none⟩)) (.pointer (some ⟨b, 0, none⟩)) (by kernel_rfl) rfl ⟨Ext.refl _, rfl⟩
 · refine step2 rfl rfl rfl rfl rfl (fun u0 u1 wr hw h0 h1 => ?_)
   cases h0
   cases h1
   exact OpRun.ixa (i := c / 64) (k := .i64) (g := b) (off := 0) arrt_impl_Cells rfl (by kernel_rfl) (by kernel_rfl) (by omega) (by omega) ⟨Ext.refl _, rfl⟩
 refine end13 (fun u0 u1 u2 u3 u4 u5 u6 u7 u8 u9 u10 u11 u12 w1 E1 f0 f1 f2 f3 f4 f5 f6 f7 f8 f9 f10 f11 f12 => ?_)
 cases f0
 cases f1
 cases f2
 cases f3
 cases f4
 cases f5
 cases f6
 cases f7
 cases f8
 cases f9
 cases f10
 cases f11
 cases f12
 replace hb := hb.ext E1
 refine wst b (0 + (c / 64).toNat) (.int .u64 (bits BinOp.or IntKind.u64 (wd x y c) (IntKind.u64.wrap (1 * 2 ^ (c % 64).toNat)))) scal_uint64 hb (set2 (by omega)) (by first | (simp; done) | (simp; omega)) ?_
 intro w2 hb_ X1
 clear hb; have hb := hb_; clear hb_
 refine wpList_nil ?_
 refine end0_ rfl rfl ?_
 have H1 := ((Wr.of_ext (Ext.refl w)).trans (Wr.of_ext E1)).trans X1
 refine ⟨rfl, ?_, H1⟩
 have hq : (#[.int .u64 (pw0 x c (bits BinOp.or IntKind.u64 (wd x y c) (IntKind.u64.wrap (1 * 2 ^ (c % 64).toNat)))), .int .u64 (pw1 y c (bits BinOp.or IntKind.u64 (wd x y c) (IntKind.u64.wrap (1 * 2 ^ (c % 64).toNat))))] : Array Value) = #[.int .u64 ((putS (x, y) c).1), .int .u64 ((putS (x, y) c).2)] := by
   unfold putS; rfl
 rw [← hq]
 exact hb


--# toCells_any
theorem toCells_any (x y : Int) (w : World) :
 Calls Try.prog 21 #[.agg #[.int .u64 x, .int .u64 y]] w fun e w' => e = .returned (.agg #[.int .u64 x, .int .u64 y]) ∧ Ext w w' := by
 refine calls_of_wp Try.func21 rfl ?_
 refine wp_frame (a' := ⟨#[.agg #[.int .u64 x, .int .u64 y], undef, undef, undef, undef, undef, undef, undef, undef, undef, undef, undef, undef, undef, undef], []⟩) (by kernel_rfl) ?_
 refine wsr ?_
 refine wbox #[.int .u64 x, .int .u64 y] ?_
 intro g1 w1 B1 E1 hg_
 have lo_g1 := Nat.le_trans ((Ext.refl w)).size hg_
 have H1 := (Ext.refl w).trans E1
 refine wnew #[.int .u64 0, .int .u64 0] Try.zeroValue33 rfl ?_
 intro g2 w2 B2 E2 hg_
 have q_g1_g2 := Nat.ne_of_lt (Nat.lt_of_lt_of_le B1.lt hg_)
 have lo_g2 := Nat.le_trans (H1).size hg_
 refine wpList_nil (then_normal ?_)
 refine wsr ?_
 replace B1 := B1.ext E2
 have H2 := H1.trans E2
 refine wnew #[.int .u64 0, .int .u64 0] Try.zeroValue33 rfl ?_
 intro g3 w3 B3 E3 hg_
 have q_g1_g3 := Nat.ne_of_lt (Nat.lt_of_lt_of_le B1.lt hg_)
 have q_g2_g3 := Nat.ne_of_lt (Nat.lt_of_lt_of_le B2.lt hg_)
 have lo_g3 := Nat.le_trans (H2).size hg_
 refine wpList_nil (then_normal ?_)
 refine wp_seq ?_
 refine wsr ?_
 refine wv (.int .i64 0) ?_
 refine wpList_nil (then_normal ?_)
 refine wp_block ?_
 refine wp_loop_rounds 3 ?_
 refine rounds_s ?_
 refine wp_seq ?_
 refine wsr ?_
 refine wv (.int .i64 0) ?_
 refine wv (.bool true) ?_
 refine wpList_nil (then_normal ?_)
 refine wct ?_
 refine wp_skip ?_
 refine then_normal ?_
 refine wp_seq ?_
 refine wp_block ?_
 refine wp_region_lit ?_
 refine wv (.int .i64 0) ?_
 refine wv (.int .i64 0) ?_
 refine wixn g1 0 0 .i64 arrt__2_uint64 ?_
 replace B1 := B1.ext E3
 refine wld (v := .int .u64 x) g1 (0 + 0) scal_uint64 (B1.get (rfl)) ?_
 refine wixn g3 0 0 .i64 arrt_impl_Cells ?_
 refine wst g3 (0 + 0) (.int .u64 x) scal_uint64 B3 (rfl) (by first | (simp; done) | (simp; omega)) ?_
 intro w4 B3_ X1
 clear B3; have B3 := B3_; clear B3_
 refine wpList_nil (block_normal (then_normal ?_))
 refine wp_region_lit ?_
 refine wv (.int .i64 0) ?_
 refine wv (.int .i64 1) ?_
 refine wv (.int .i64 1) ?_
 refine wpList_nil (then_normal ?_)
 refine rounds_s ?_
 refine wp_frame (a' := ⟨#[.agg #[.int .u64 x, .int .u64 y], .pointer (some ⟨g1, 0, none⟩), .pointer (some ⟨g2, 0, none⟩), .pointer (some ⟨g3, 0, none⟩), .int .i64 1, .int .i64 0, .bool true, .int .i64 0, .int .i64 1, .int .i64 0, .int .i64 0, .pointer (some ⟨g1, 0 + 0, none⟩), .int .u64 x, .pointer (some ⟨g3, 0 + 0, none⟩), undef], []⟩) (by kernel_rfl) ?_
 refine wp_seq ?_
 refine wsr ?_
 refine wv (.int .i64 1) ?_
 refine wv (.bool true) ?_
 refine wpList_nil (then_normal ?_)
 refine wct ?_
 refine wp_skip ?_
 refine then_normal ?_
 refine wp_seq ?_
 refine wp_block ?_
 refine wp_region_lit ?_
 refine wv (.int .i64 1) ?_
 refine wv (.int .i64 1) ?_
 refine wixn g1 0 1 .i64 arrt__2_uint64 ?_
 replace B1 := X1.blk B1 q_g1_g3
 refine wld (v := .int .u64 y) g1 (0 + 1) scal_uint64 (B1.get (rfl)) ?_
 refine wixn g3 0 1 .i64 arrt_impl_Cells ?_
 refine wst g3 (0 + 1) (.int .u64 y) scal_uint64 B3 (rfl) (by first | (simp; done) | (simp; omega)) ?_
 intro w5 B3_ X2
 clear B3; have B3 := B3_; clear B3_
 refine wpList_nil (block_normal (then_normal ?_))
 refine wp_region_lit ?_
 refine wv (.int .i64 1) ?_
 refine wv (.int .i64 2) ?_
 refine wv (.int .i64 2) ?_
 refine wpList_nil (then_normal ?_)
 refine rounds_s ?_
 refine wp_frame (a' := ⟨#[.agg #[.int .u64 x, .int .u64 y], .pointer (some ⟨g1, 0, none⟩), .pointer (some ⟨g2, 0, none⟩), .pointer (some ⟨g3, 0, none⟩), .int .i64 2, .int .i64 1, .bool true, .int .i64 1, .int .i64 2, .int .i64 1, .int .i64 1, .pointer (some ⟨g1, 0 + 1, none⟩), .int .u64 y, .pointer (some ⟨g3, 0 + 1, none⟩), undef], []⟩) (by kernel_rfl) ?_
 refine wp_seq ?_
 refine wsr ?_
 refine wv (.int .i64 2) ?_
 refine wv (.bool false) ?_
 refine wpList_nil (then_normal ?_)
 refine wcf ?_
 refine wp_exit ?_
 refine then_exit ?_
 refine then_exit ?_
 refine block_exit ?_
 refine then_normal ?_
 refine wsr ?_
 refine wrow row_impl_Cells B3 (by rfl) ?_
 replace B2 := X2.blk (X1.blk (B2.ext E3) q_g2_g3) q_g2_g3
 refine wput #[.int .u64 x, .int .u64 y] row_impl_Cells B2 (by rfl) (by rfl) (by kernel_rfl) ?_
 intro w6 B2_ X3
 clear B2; have B2 := B2_; clear B2_
 refine wpList_nil (then_normal ?_)
 refine wp_ret ?_
 have H3 := X3.ext w lo_g2 (X2.ext w lo_g3 (X1.ext w lo_g3 (H2.trans E3)))
 refine ret1 (.agg #[.int .u64 x, .int .u64 y]) rfl ?_ rfl ?_
 · refine ⟨g2, 33, #[.int .u64 x, .int .u64 y], _, by kernel_rfl, B2, row_impl_Cells, ?_, ?_⟩
   · rfl
   · rfl
 exact ⟨rfl, H3⟩


--# eqCells_same
theorem eqCells_same (x y : Int) (w : World) :
 Calls Try.prog 25 #[.agg #[.int .u64 x, .int .u64 y], .agg #[.int .u64 x, .int .u64 y]] w fun e w' => e = .returned (.bool true) ∧ Ext w w' := by
 refine calls_of_wp Try.func25 rfl ?_
 refine wp_frame (a' := ⟨#[.agg #[.int .u64 x, .int .u64 y], .agg #[.int .u64 x, .int .u64 y], undef, undef, undef, undef, undef, undef, undef, undef, undef, undef, undef, undef, undef, undef, undef], []⟩) (by kernel_rfl) ?_
 refine wsr ?_
 refine wbox #[.int .u64 x, .int .u64 y] ?_
 intro g1 w1 B1 E1 _
 refine wbox #[.int .u64 x, .int .u64 y] ?_
 intro g2 w2 B2 E2 _
 refine wv (.bool false) ?_
 refine wpList_nil (then_normal ?_)
 refine wp_seq ?_
 refine wsr ?_
 refine wv (.int .i64 0) ?_
 refine wpList_nil (then_normal ?_)
 refine wp_block ?_
 refine wp_loop_rounds 3 ?_
 refine rounds_s ?_
 refine wp_seq ?_
 refine wsr ?_
 refine wv (.int .i64 0) ?_
 refine wv (.bool true) ?_
 refine wpList_nil (then_normal ?_)
 refine wct ?_
 refine wp_skip ?_
 refine then_normal ?_
 refine wp_seq ?_
 refine wp_block ?_
 refine wp_seq ?_
 refine wp_frame (a' := ⟨#[.agg #[.int .u64 x, .int .u64 y], .agg #[.int .u64 x, .int .u64 y], .pointer (some ⟨g1, 0, none⟩), .pointer (some ⟨g2, 0, none⟩), .bool false, .int .i64 0, .int .i64 0, .bool true, undef, undef, undef, undef, undef, undef, undef, undef, undef], []⟩) (by kernel_rfl) ?_
 replace B1 := B1.ext E2
 refine region_go 7 [10, 11, 12, 13, 14, 15, 16] [[], [0], [1], [], [3], [4], [2, 5]]
  (fun i_ => ([.val (.int .i64 0), .val (.pointer (some ⟨g1, 0 + 0, none⟩)), .val (.int .u64 x), .val (.int .i64 0), .val (.pointer (some ⟨g2, 0 + 0, none⟩)), .val (.int .u64 x), .val (.bool false)] : List Fct).getD i_ .any)
  (by kernel_rfl) (by kernel_rfl) (by decide) (by simp) rfl (all_succ (all_succ (all_succ (all_succ (all_succ (all_succ (all_succ all_zero ?_) ?_) ?_) ?_) ?_) ?_) ?_) ?_
 · refine step0 rfl rfl rfl (fun wr hw => ?_)
   exact OpRun.val (.int .i64 0) (.int .i64 0) (by kernel_rfl) rfl ⟨Ext.refl _, rfl⟩
 · refine step1 rfl rfl rfl rfl (fun u0 wr hw h0 => ?_)
   cases h0
   exact OpRun.ixan (i := 0) (k := .i64) (g := g1) (off := 0) arrt_impl_Cells rfl (by kernel_rfl) (by kernel_rfl) (by omega) ⟨Ext.refl _, rfl⟩
 · refine step1 rfl rfl rfl rfl (fun u0 wr hw h0 => ?_)
   cases h0
   exact OpRun.cell (g := g1) (off := 0 + 0) (v := .int .u64 x) scal_uint64 rfl (by kernel_rfl) ((B1.ext hw).get (rfl)) ⟨Ext.refl _, rfl⟩
 · refine step0 rfl rfl rfl (fun wr hw => ?_)
   exact OpRun.val (.int .i64 0) (.int .i64 0) (by kernel_rfl) rfl ⟨Ext.refl _, rfl⟩
 · refine step1 rfl rfl rfl rfl (fun u0 wr hw h0 => ?_)
   cases h0
   exact OpRun.ixan (i := 0) (k := .i64) (g := g2) (off := 0) arrt_impl_Cells rfl (by kernel_rfl) (by kernel_rfl) (by omega) ⟨Ext.refl _, rfl⟩
 · refine step1 rfl rfl rfl rfl (fun u0 wr hw h0 => ?_)
   cases h0
   exact OpRun.cell (g := g2) (off := 0 + 0) (v := .int .u64 x) scal_uint64 rfl (by kernel_rfl) ((B2.ext hw).get (rfl)) ⟨Ext.refl _, rfl⟩
 · refine step2 rfl rfl rfl rfl rfl (fun u0 u1 wr hw h0 h1 => ?_)
   cases h0
   cases h1
   exact OpRun.val (.bool (x != x)) (.bool false) (by kernel_rfl) (by simp) ⟨Ext.refl _, rfl⟩
 refine end7 (fun u0 u1 u2 u3 u4 u5 u6 w3 E3 f0 f1 f2 f3 f4 f5 f6 => ?_)
 cases f0
 cases f1
 cases f2
 cases f3
 cases f4
 cases f5
 cases f6
 refine wpList_nil (then_normal ?_)
 refine wcf ?_
 refine wp_skip ?_
 refine block_normal (then_normal ?_)
 refine wp_region_lit ?_
 refine wv (.int .i64 0) ?_
 refine wv (.int .i64 1) ?_
 refine wv (.int .i64 1) ?_
 refine wpList_nil (then_normal ?_)
 refine rounds_s ?_
 refine wp_frame (a' := ⟨#[.agg #[.int .u64 x, .int .u64 y], .agg #[.int .u64 x, .int .u64 y], .pointer (some ⟨g1, 0, none⟩), .pointer (some ⟨g2, 0, none⟩), .bool false, .int .i64 1, .int .i64 0, .bool true, .int .i64 0, .int .i64 1, .int .i64 0, .pointer (some ⟨g1, 0 + 0, none⟩), .int .u64 x, .int .i64 0, .pointer (some ⟨g2, 0 + 0, none⟩), .int .u64 x, .bool false], []⟩) (by kernel_rfl) ?_
 refine wp_seq ?_
 refine wsr ?_
 refine wv (.int .i64 1) ?_
 refine wv (.bool true) ?_
 refine wpList_nil (then_normal ?_)
 refine wct ?_
 refine wp_skip ?_
 refine then_normal ?_
 refine wp_seq ?_
 refine wp_block ?_
 refine wp_seq ?_
 refine wp_frame (a' := ⟨#[.agg #[.int .u64 x, .int .u64 y], .agg #[.int .u64 x, .int .u64 y], .pointer (some ⟨g1, 0, none⟩), .pointer (some ⟨g2, 0, none⟩), .bool false, .int .i64 1, .int .i64 1, .bool true, .int .i64 0, .int .i64 1, .int .i64 0, .pointer (some ⟨g1, 0 + 0, none⟩), .int .u64 x, .int .i64 0, .pointer (some ⟨g2, 0 + 0, none⟩), .int .u64 x, .bool false], []⟩) (by kernel_rfl) ?_
 replace B1 := B1.ext E3
 replace B2 := B2.ext E3
 refine region_go 7 [10, 11, 12, 13, 14, 15, 16] [[], [0], [1], [], [3], [4], [2, 5]]
  (fun i_ => ([.val (.int .i64 1), .val (.pointer (some ⟨g1, 0 + 1, none⟩)), .val (.int .u64 y), .val (.int .i64 1), .val (.pointer (some ⟨g2, 0 + 1, none⟩)), .val (.int .u64 y), .val (.bool false)] : List Fct).getD i_ .any)
  (by kernel_rfl) (by kernel_rfl) (by decide) (by simp) rfl (all_succ (all_succ (all_succ (all_succ (all_succ (all_succ (all_succ all_zero ?_) ?_) ?_) ?_) ?_) ?_) ?_) ?_
 · refine step0 rfl rfl rfl (fun wr hw => ?_)
   exact OpRun.val (.int .i64 1) (.int .i64 1) (by kernel_rfl) rfl ⟨Ext.refl _, rfl⟩
 · refine step1 rfl rfl rfl rfl (fun u0 wr hw h0 => ?_)
   cases h0
   exact OpRun.ixan (i := 1) (k := .i64) (g := g1) (off := 0) arrt_impl_Cells rfl (by kernel_rfl) (by kernel_rfl) (by omega) ⟨Ext.refl _, rfl⟩
 · refine step1 rfl rfl rfl rfl (fun u0 wr hw h0 => ?_)
   cases h0
   exact OpRun.cell (g := g1) (off := 0 + 1) (v := .int .u64 y) scal_uint64 rfl (by kernel_rfl) ((B1.ext hw).get (rfl)) ⟨Ext.refl _, rfl⟩
 · refine step0 rfl rfl rfl (fun wr hw => ?_)
   exact OpRun.val (.int .i64 1) (.int .i64 1) (by kernel_rfl) rfl ⟨Ext.refl _, rfl⟩
 · refine step1 rfl rfl rfl rfl (fun u0 wr hw h0 => ?_)
   cases h0
   exact OpRun.ixan (i := 1) (k := .i64) (g := g2) (off := 0) arrt_impl_Cells rfl (by kernel_rfl) (by kernel_rfl) (by omega) ⟨Ext.refl _, rfl⟩
 · refine step1 rfl rfl rfl rfl (fun u0 wr hw h0 => ?_)
   cases h0
   exact OpRun.cell (g := g2) (off := 0 + 1) (v := .int .u64 y) scal_uint64 rfl (by kernel_rfl) ((B2.ext hw).get (rfl)) ⟨Ext.refl _, rfl⟩
 · refine step2 rfl rfl rfl rfl rfl (fun u0 u1 wr hw h0 h1 => ?_)
   cases h0
   cases h1
   exact OpRun.val (.bool (y != y)) (.bool false) (by kernel_rfl) (by simp) ⟨Ext.refl _, rfl⟩
 refine end7 (fun u0 u1 u2 u3 u4 u5 u6 w4 E4 f0 f1 f2 f3 f4 f5 f6 => ?_)
 cases f0
 cases f1
 cases f2
 cases f3
 cases f4
 cases f5
 cases f6
 refine wpList_nil (then_normal ?_)
 refine wcf ?_
 refine wp_skip ?_
 refine block_normal (then_normal ?_)
 refine wp_region_lit ?_
 refine wv (.int .i64 1) ?_
 refine wv (.int .i64 2) ?_
 refine wv (.int .i64 2) ?_
 refine wpList_nil (then_normal ?_)
 refine rounds_s ?_
 refine wp_frame (a' := ⟨#[.agg #[.int .u64 x, .int .u64 y], .agg #[.int .u64 x, .int .u64 y], .pointer (some ⟨g1, 0, none⟩), .pointer (some ⟨g2, 0, none⟩), .bool false, .int .i64 2, .int .i64 1, .bool true, .int .i64 1, .int .i64 2, .int .i64 1, .pointer (some ⟨g1, 0 + 1, none⟩), .int .u64 y, .int .i64 1, .pointer (some ⟨g2, 0 + 1, none⟩), .int .u64 y, .bool false], []⟩) (by kernel_rfl) ?_
 refine wp_seq ?_
 refine wsr ?_
 refine wv (.int .i64 2) ?_
 refine wv (.bool false) ?_
 refine wpList_nil (then_normal ?_)
 refine wcf ?_
 refine wp_exit ?_
 refine then_exit ?_
 refine then_exit ?_
 refine block_exit ?_
 refine then_normal ?_
 refine wsr ?_
 refine wv (.bool true) ?_
 refine wpList_nil (then_normal ?_)
 refine wp_ret ?_
 have H1 := ((((Ext.refl w).trans E1).trans E2).trans E3).trans E4
 refine ret1 (.bool true) rfl ?_ rfl ?_
 · exact resT (by kernel_rfl)
 exact ⟨rfl, H1⟩


--# cells_any
theorem cells_any (F : Fld) (hF : F.wf) (b : Nat) (t : TypeId) (w : World) (hb : Blk w b t F.cells) :
 Calls Try.prog 105 #[.pointer (some ⟨b, 0, none⟩)] w fun e w' => RetI w 2 .i64 (cellsL F) id e w' := by
 refine calls_of_wp Try.func105 rfl ?_
 refine wp_frame (a' := ⟨#[.pointer (some ⟨b, 0, none⟩), undef, undef, undef, undef, undef, undef, undef, undef, undef, undef, undef, undef, undef, undef, undef, undef, undef], []⟩) (by kernel_rfl) ?_
 refine wsr ?_
 refine wv (.slice none 0 0) ?_
 refine wpList_nil (then_normal ?_)
 refine wsr ?_
 refine wbsl 0 #[] slt__int64 ?_
 intro g1 w1 B1 E1 hg_
 have q_b_g1 := Nat.ne_of_lt (Nat.lt_of_lt_of_le hb.lt hg_)
 have lo_g1 := Nat.le_trans ((Ext.refl w)).size hg_
 have S1 : SlI #[] 0 0 .i64 [] := SlI.nil
 refine wv (.slice (some ⟨g1, 0, none⟩) 0 0) ?_
 refine wpList_nil (then_normal ?_)
 refine wp_seq ?_
 refine wsr ?_
 refine wv (.int .i64 0) ?_
 refine wpList_nil (then_normal ?_)
 refine wp_block ?_
 replace hb := hb.ext E1
 have H1 := (Ext.refl w).trans E1
 refine wp_loop_k (fun m1 a wl1 => ∃ (i : Nat) (go : Nat) (no : Nat) (capo : Nat) (cso : Array Value), m1 = 100 - i ∧ i ≤ 100 ∧ SlI cso no capo .i64 (cellsN F i) ∧ w.heap.size ≤ go ∧ b ≠ go ∧ Ext w wl1 ∧ Blk wl1 b t F.cells ∧ Blk wl1 go 2 cso ∧ (∃ J1 : Nat → Value, a = ⟨#[.pointer (some ⟨b, 0, none⟩), undef, .slice none 0 0, .slice (some ⟨go, 0, none⟩) no capo, J1 4, .slice (some ⟨g1, 0, none⟩) 0 0, .int .i64 (i : Int), J1 7, J1 8, J1 9, J1 10, J1 11, J1 12, J1 13, J1 14, J1 15, J1 16, undef], []⟩)) (100) ?_ ?_
 · refine ⟨0, g1, 0, 0, #[], rfl, ?_, ?_, ?_, ?_, H1, hb, B1, exJ (by kernel_rfl)⟩
   · omega
   · refine S1.of_eq ?_
     exact (cellsN_0 F).symm
   · exact lo_g1
   · exact q_b_g1
 intro m1 a wl1 hI
 obtain ⟨i, go, no, capo, cso, rfl, hi_, So, lo_go, n_b_go, HL1, hb, Bo, J1, rfl⟩ := hI
 have cl_ := cellsN_length F i
 have len_So := So.len
 refine wsr ?_
 refine wv (.bool (decide ((i : Int) < 100))) ?_
 refine wpList_nil (then_normal ?_)
 refine wp_seq ?_
 refine wsplit (decide ((i : Int) < 100)) (fun h1 => ?_) (fun h1 => ?_)
 · skip
   have h1d := dT h1
   refine wp_skip ?_
   refine then_normal ?_
   refine wp_seq ?_
   refine wp_block ?_
   refine wsr ?_
   refine wv (.int .i64 (i : Int)) ?_
   refine wv (.int .i64 (i : Int)) ?_
   refine wpList_nil (then_normal ?_)
   refine wsr ?_
   refine wv (.pointer (some ⟨b, 0, none⟩)) ?_
   refine wv (.int .i64 (i : Int)) ?_
   refine wcl (has_any F hF b _ (i : Int) _ hb) ?_
   intro w2 E2
   refine wpList_nil (then_normal ?_)
   have H2 := HL1.trans E2
   refine wsplit (isB F (i : Int)) (fun h2 => ?_) (fun h2 => ?_)
   · skip
     have h2d := isB_true.1 h2
     refine wp_region_lit ?_
     refine wv (.slice (some ⟨go, 0, none⟩) no capo) ?_
     refine wv (.int .i64 (i : Int)) ?_
     replace hb := hb.ext E2
     replace Bo := Bo.ext E2
     refine wbsl 1 #[.int .i64 (i : Int)] slt__int64 ?_
     intro g2 w3 B2 E3 hg_
     have q_b_g2 := Nat.ne_of_lt (Nat.lt_of_lt_of_le hb.lt hg_)
     have q_go_g2 := Nat.ne_of_lt (Nat.lt_of_lt_of_le Bo.lt hg_)
     have lo_g2 := Nat.le_trans (H2).size hg_
     replace hb := hb.ext E3
     replace Bo := Bo.ext E3
     have H3 := H2.trans E3
     refine wappi (i : Int) slt__int64 Bo So B2 ?_
     intro g3 cap1 cs1 w4 B3 S2 X1 or1
     have n_b_g3 := ne_app hb n_b_go or1
     have n_g2_g3 := ne_app B2 (Ne.symm q_go_g2) or1
     have lo_g3 := Wr.lo or1 lo_go (H3).size
     refine wv (.slice (some ⟨g3, 0, none⟩) (no + 1) cap1) ?_
     refine wpList_nil (block_normal (then_normal ?_))
     refine wp_region_lit ?_
     refine wi64 ((i : Int) + 1) ?_
     refine wv (.int .i64 ((i : Int) + 1)) ?_
     refine wpList_nil (then_normal ?_)
     replace hb := X1.blk hb n_b_go
     have H4 := X1.ext w lo_go H3
     refine ⟨_, ?_, i + 1, g3, no + 1, cap1, cs1, rfl, ?_, ?_, ?_, ?_, H4, hb, B3, exJ (by kernel_rfl)⟩
     · omega
     · omega
     · refine S2.of_eq ?_
       first | exact (cellsN_1 (by assumption)).symm | exact (cellsN_2 (by assumption)).symm
     · exact lo_g3
     · exact n_b_g3
   · skip
     refine wp_skip ?_
     refine block_normal (then_normal ?_)
     refine wp_region_lit ?_
     refine wi64 ((i : Int) + 1) ?_
     refine wv (.int .i64 ((i : Int) + 1)) ?_
     refine wpList_nil (then_normal ?_)
     replace hb := hb.ext E2
     replace Bo := Bo.ext E2
     refine ⟨_, ?_, i + 1, go, no, capo, cso, rfl, ?_, ?_, ?_, ?_, H2, hb, Bo, exJ (by kernel_rfl)⟩
     · omega
     · omega
     · refine So.of_eq ?_
       first | exact (cellsN_1 (by assumption)).symm | exact (cellsN_2 (by assumption)).symm
     · exact lo_go
     · exact n_b_go
 · skip
   have h1d := dF h1
   refine wp_exit ?_
   refine then_exit ?_
   refine then_exit ?_
   refine block_exit ?_
   refine then_normal ?_
   refine wsr ?_
   refine wv (.slice (some ⟨go, 0, none⟩) no capo) ?_
   refine wv (.slice (some ⟨go, 0, none⟩) no capo) ?_
   refine wpList_nil (then_normal ?_)
   refine wp_ret ?_
   refine ret1 (.slice (some ⟨go, 0, none⟩) no capo) rfl ?_ rfl ?_
   · exact resT (by kernel_rfl)
   have hq : cellsN F i = cellsL F := by
     exact cellsN_end (by omega) (by omega)
   exact ⟨go, no, capo, cso, rfl, Bo, So.of_eq hq, HL1, lo_go⟩


--# those_any
theorem those_any (F : Fld) (hF : F.wf) (b : Nat) (t : TypeId) (V : Value) (fn : FuncId) (full : Int → Array Value) (p : Int → Bool) (hV : ∀ c, Clo Try.prog V #[.int .i64 c] fn (full c)) (w : World) (hb : Blk w b t F.cells) (hc : ∀ c w', isB F c = true → Ext w w' → Calls Try.prog fn (full c) w' fun e w'' => e = .returned (.bool (p c)) ∧ Ext w' w'') :
 Calls Try.prog 108 #[.pointer (some ⟨b, 0, none⟩), V] w fun e w' => e = .returned (.agg #[.int .u64 ((setC F p 100).1), .int .u64 ((setC F p 100).2)]) ∧ Ext w w' := by
 refine calls_of_wp Try.func108 rfl ?_
 refine wp_frame (a' := ⟨#[.pointer (some ⟨b, 0, none⟩), V, undef, undef, undef, undef, undef, undef, undef, undef, undef, undef, undef, undef, undef, undef, undef, undef, undef, undef, undef, undef, undef], []⟩) (by kernel_rfl) ?_
 refine wsr ?_
 refine wnew #[.int .u64 0, .int .u64 0] Try.zeroValue33 rfl ?_
 intro g1 w1 B1 E1 hg_
 have q_b_g1 := Nat.ne_of_lt (Nat.lt_of_lt_of_le hb.lt hg_)
 have lo_g1 := Nat.le_trans ((Ext.refl w)).size hg_
 refine wpList_nil (then_normal ?_)
 refine wsr ?_
 refine wv (.agg #[.int .u64 0, .int .u64 0]) ?_
 replace hb := hb.ext E1
 have H1 := (Ext.refl w).trans E1
 refine wnew #[.int .u64 0, .int .u64 0] Try.zeroValue33 rfl ?_
 intro g2 w2 B2 E2 hg_
 have q_b_g2 := Nat.ne_of_lt (Nat.lt_of_lt_of_le hb.lt hg_)
 have q_g1_g2 := Nat.ne_of_lt (Nat.lt_of_lt_of_le B1.lt hg_)
 have lo_g2 := Nat.le_trans (H1).size hg_
 refine wput #[.int .u64 0, .int .u64 0] row_impl_Cells B2 (by rfl) (by rfl) (by kernel_rfl) ?_
 intro w3 B2_ X1
 clear B2; have B2 := B2_; clear B2_
 refine wpList_nil (then_normal ?_)
 refine wp_seq ?_
 refine wsr ?_
 refine wv (.pointer (some ⟨b, 0, none⟩)) ?_
 replace hb := X1.blk (hb.ext E2) q_b_g2
 replace B1 := X1.blk (B1.ext E2) q_g1_g2
 have H2 := X1.ext w lo_g2 (H1.trans E2)
 refine wcli (cells_any F hF b _ _ hb) ?_
 intro g3 cap1 cs1 w4 B3 S1 E3 hg_
 have q_b_g3 := Nat.ne_of_lt (Nat.lt_of_lt_of_le hb.lt hg_)
 have q_g1_g3 := Nat.ne_of_lt (Nat.lt_of_lt_of_le B1.lt hg_)
 have q_g2_g3 := Nat.ne_of_lt (Nat.lt_of_lt_of_le B2.lt hg_)
 have lo_g3 := Nat.le_trans (H2).size hg_
 have cl1 := cellsL_length F
 refine wv (.int .i64 ((cellsL F).length : Int)) ?_
 refine wv (.int .i64 0) ?_
 refine wpList_nil (then_normal ?_)
 refine wp_block ?_
 replace hb := hb.ext E3
 replace B1 := B1.ext E3
 replace B2 := B2.ext E3
 have H3 := H2.trans E3
 refine wp_loop_k (fun m1 a wl1 => ∃ (j : Nat), m1 = (cellsL F).length - j ∧ j ≤ (cellsL F).length ∧ Ext w wl1 ∧ Blk wl1 b t F.cells ∧ Blk wl1 g1 33 #[.int .u64 0, .int .u64 0] ∧ Blk wl1 g2 33 #[.int .u64 ((setT F p j).1), .int .u64 ((setT F p j).2)] ∧ Blk wl1 g3 2 cs1 ∧ (∃ J1 : Nat → Value, a = ⟨#[.pointer (some ⟨b, 0, none⟩), V, undef, undef, .pointer (some ⟨g1, 0, none⟩), .pointer (some ⟨g2, 0, none⟩), undef, J1 7, .agg #[.int .u64 0, .int .u64 0], .pointer (some ⟨b, 0, none⟩), .slice (some ⟨g3, 0, none⟩) ((cellsL F).length) cap1, .int .i64 ((cellsL F).length : Int), .int .i64 (j : Int), J1 13, J1 14, J1 15, J1 16, J1 17, J1 18, J1 19, J1 20, J1 21, undef], []⟩)) ((cellsL F).length) ?_ ?_
 · refine ⟨0, rfl, ?_, H3, hb, B1, ?_, B3, exJ (by kernel_rfl)⟩
   · omega
   · unfold setT; rw [foldT_0]; exact B2
 intro m1 a wl1 hI
 obtain ⟨j, rfl, hi_, HL1, hb, B1, B2, B3, J1, rfl⟩ := hI
 refine wsr ?_
 refine wv (.bool (decide ((j : Int) < ((cellsL F).length : Int)))) ?_
 refine wpList_nil (then_normal ?_)
 refine wp_seq ?_
 refine wsplit (decide ((j : Int) < ((cellsL F).length : Int))) (fun h1 => ?_) (fun h1 => ?_)
 · skip
   have h1d := dT h1
   refine wp_skip ?_
   refine then_normal ?_
   refine wp_seq ?_
   refine wp_block ?_
   refine wsr ?_
   refine wsix1 g3 0 ((cellsL F).length) cap1 j .i64 slit__int64 ?_
   have ce1 := cellsL_in (F := F) (j := j) (by omega)
   have ci1 := cellsL_is (F := F) (j := j) (by omega)
   refine wld g3 (0 + j) scal_int64 (B3.get (SlI.get S1 (by omega))) ?_
   refine wv (.int .i64 (atI (cellsL F) j)) ?_
   refine wpList_nil (then_normal ?_)
   refine wsr ?_
   refine wv V ?_
   refine wv (.int .i64 (atI (cellsL F) j)) ?_
   refine wcl (he := (Eq.trans (b := (callV V #[.int .i64 (atI (cellsL F) j)]).run Try.prog _) (by kernel_rfl) (hV (atI (cellsL F) j) _))) (hc (atI (cellsL F) j) _ (by first | assumption | omega) HL1) ?_
   intro w5 E4
   refine wpList_nil (then_normal ?_)
   have H4 := HL1.trans E4
   refine wsplit (p (atI (cellsL F) j)) (fun h2 => ?_) (fun h2 => ?_)
   · skip
     refine wp_region_lit ?_
     refine wv (.int .i64 (atI (cellsL F) j)) ?_
     replace B2 := B2.ext E4
     refine wcl (put_any ((setT F p j).1) ((setT F p j).2) g2 _ (atI (cellsL F) j) (by omega) _ B2) ?_
     rintro w6 ⟨B2_, X2⟩
     clear B2; have B2 := B2_; clear B2_
     refine wpList_nil (block_normal (then_normal ?_))
     refine wp_region_lit ?_
     refine wi64 ((j : Int) + 1) ?_
     refine wv (.int .i64 ((j : Int) + 1)) ?_
     refine wpList_nil (then_normal ?_)
     replace hb := X2.blk (hb.ext E4) q_b_g2
     replace B1 := X2.blk (B1.ext E4) q_g1_g2
     replace B3 := X2.blk (B3.ext E4) (Ne.symm q_g2_g3)
     have H5 := X2.ext w lo_g2 H4
     refine ⟨_, ?_, j + 1, rfl, ?_, H5, hb, B1, ?_, B3, exJ (by kernel_rfl)⟩
     · omega
     · omega
     · first | (rw [setT_1 (by omega) (by assumption)]; exact B2) | (rw [setT_2 (by omega) (by assumption)]; exact B2)
   · skip
     refine wp_skip ?_
     refine block_normal (then_normal ?_)
     refine wp_region_lit ?_
     refine wi64 ((j : Int) + 1) ?_
     refine wv (.int .i64 ((j : Int) + 1)) ?_
     refine wpList_nil (then_normal ?_)
     replace hb := hb.ext E4
     replace B1 := B1.ext E4
     replace B2 := B2.ext E4
     replace B3 := B3.ext E4
     refine ⟨_, ?_, j + 1, rfl, ?_, H4, hb, B1, ?_, B3, exJ (by kernel_rfl)⟩
     · omega
     · omega
     · first | (rw [setT_1 (by omega) (by assumption)]; exact B2) | (rw [setT_2 (by omega) (by assumption)]; exact B2)
 · skip
   have h1d := dF h1
   refine wp_exit ?_
   refine then_exit ?_
   refine then_exit ?_
   refine block_exit ?_
   refine then_normal ?_
   refine wsr ?_
   refine wrow row_impl_Cells B2 (by rfl) ?_
   refine wput #[.int .u64 ((setT F p j).1), .int .u64 ((setT F p j).2)] row_impl_Cells B1 (by rfl) (by rfl) (by kernel_rfl) ?_
   intro w7 B1_ X3
   clear B1; have B1 := B1_; clear B1_
   refine wpList_nil (then_normal ?_)
   refine wp_ret ?_
   have H6 := X3.ext w lo_g1 HL1
   refine ret1 (.agg #[.int .u64 ((setC F p 100).1), .int .u64 ((setC F p 100).2)]) rfl ?_ rfl ?_
   · refine ⟨g1, 33, #[.int .u64 ((setT F p j).1), .int .u64 ((setT F p j).2)], _, by kernel_rfl, B1, row_impl_Cells, ?_, ?_⟩
     · rfl
     · show (.agg #[.int .u64 ((setC F p 100).1), .int .u64 ((setC F p 100).2)] : Value) = (.agg #[.int .u64 ((setT F p j).1), .int .u64 ((setT F p j).2)])
       refine congrArg Value.agg ?_
       rw [setT_end (by omega)]
   exact ⟨rfl, H6⟩


--# ofKind1_any
theorem ofKind1_any (c : Int) (hc : 0 ≤ c ∧ c ≤ 99) (F : Fld) (hF : F.wf) (b0 : Nat) (t0 : TypeId) (bf : Nat) (tf : TypeId) (k : Int) (b1 : Nat) (t1 : TypeId) (w : World) (hb0 : Blk w b0 t0 #[.pointer (some ⟨bf, 0, none⟩)]) (hbf : Blk w bf tf F.cells) (hb1 : Blk w b1 t1 #[.int .i64 k]) :
 Calls Try.prog 110 #[.int .i64 c, .pointer (some ⟨b0, 0, none⟩), .pointer (some ⟨b1, 0, none⟩)] w fun e w' => e = .returned (.bool (F.k c.toNat == k)) ∧ Ext w w' := by
 refine calls_of_wp Try.func110 rfl ?_
 refine wp_frame (a' := ⟨#[.int .i64 c, .pointer (some ⟨b0, 0, none⟩), .pointer (some ⟨b1, 0, none⟩), undef, undef, undef, undef, undef, undef, undef, undef, undef, undef, undef], []⟩) (by kernel_rfl) ?_
 refine wsr ?_
 refine wv (.bool false) ?_
 refine wpList_nil (then_normal ?_)
 refine wp_seq ?_
 refine wp_frame (a' := ⟨#[.int .i64 c, .pointer (some ⟨b0, 0, none⟩), .pointer (some ⟨b1, 0, none⟩), undef, .bool false, undef, undef, undef, undef, undef, undef, undef, undef, undef], []⟩) (by kernel_rfl) ?_
 have ce1 := hF.k1 ((c).toNat) (by omega)
 refine region_go 10 [5, 6, 7, 8, 9, 10, 11, 12, 13, 4] [[], [], [0], [2], [3, 1], [4], [5], [], [6, 7], [8]]
  (fun i_ => ([.val (.pointer (some ⟨bf, 0, none⟩)), .val (.int .i64 c), .val (.pointer (some ⟨bf, 0, none⟩)), .val (.pointer (some ⟨bf, 2, none⟩)), .val (.pointer (some ⟨bf, 2 + (c).toNat, none⟩)), .val (.int .u8 (F.k ((c).toNat))), .val (.int .i64 (F.k ((c).toNat))), .val (.int .i64 k), .val (.bool ((F.k ((c).toNat)) == k)), .val (.bool ((F.k ((c).toNat)) == k))] : List Fct).getD i_ .any)
  (by kernel_rfl) (by kernel_rfl) (by decide) (by simp) rfl (all_succ (all_succ (all_succ (all_succ (all_succ (all_succ (all_succ (all_succ (all_succ (all_succ all_zero ?_) ?_) ?_) ?_) ?_) ?_) ?_) ?_) ?_) ?_) ?_
 · refine step0 rfl rfl rfl (fun wr hw => ?_)
   exact OpRun.cell (g := b0) (off := 0) (v := .pointer (some ⟨bf, 0, none⟩)) scal__impl_Field rfl (by kernel_rfl) ((hb0.ext hw).get (rfl)) ⟨Ext.refl _, rfl⟩
 · refine step0 rfl rfl rfl (fun wr hw => ?_)
   exact OpRun.val (.int .i64 c) (.int .i64 c) (by kernel_rfl) rfl ⟨Ext.refl _, rfl⟩
 · refine step1 rfl rfl rfl rfl (fun u0 wr hw h0 => ?_)
   cases h0
   exact OpRun.val (.pointer (some ⟨bf, 0, none⟩)) (.pointer (some ⟨bf, 0, none⟩)) (by kernel_rfl) rfl ⟨Ext.refl _, rfl⟩
 · refine step1 rfl rfl rfl rfl (fun u0 wr hw h0 => ?_)
   cases h0
   exact OpRun.val (.pointer (some ⟨bf, 2, none⟩)) (.pointer (some ⟨bf, 2, none⟩)) (by kernel_rfl) rfl ⟨Ext.refl _, rfl⟩
 · refine step2 rfl rfl rfl rfl rfl (fun u0 u1 wr hw h0 h1 => ?_)
   cases h0
   cases h1
   exact OpRun.ixa (i := c) (k := .i64) (g := bf) (off := 2) arrt__100_uint8 rfl (by kernel_rfl) (by kernel_rfl) (by omega) (by omega) ⟨Ext.refl _, rfl⟩
 · refine step1 rfl rfl rfl rfl (fun u0 wr hw h0 => ?_)
   cases h0
   exact OpRun.cell (g := bf) (off := 2 + (c).toNat) (v := .int .u8 (F.k ((c).toNat))) scal_uint8 rfl (by kernel_rfl) ((hbf.ext hw).get (Fld.getk _ _ (by omega))) ⟨Ext.refl _, rfl⟩
 · refine step1 rfl rfl rfl rfl (fun u0 wr hw h0 => ?_)
   cases h0
   exact OpRun.val (.int .i64 (IntKind.i64.wrap (F.k ((c).toNat)))) (.int .i64 (F.k ((c).toNat))) (by kernel_rfl) (by exact congrArg _ (IntWalk.i64_in _ (by omega))) ⟨Ext.refl _, rfl⟩
 · refine step0 rfl rfl rfl (fun wr hw => ?_)
   exact OpRun.cell (g := b1) (off := 0) (v := .int .i64 k) scal_int64 rfl (by kernel_rfl) ((hb1.ext hw).get (rfl)) ⟨Ext.refl _, rfl⟩
 · refine step2 rfl rfl rfl rfl rfl (fun u0 u1 wr hw h0 h1 => ?_)
   cases h0
   cases h1
   exact OpRun.val (.bool ((F.k ((c).toNat)) == k)) (.bool ((F.k ((c).toNat)) == k)) (by kernel_rfl) rfl ⟨Ext.refl _, rfl⟩
 · refine step1 rfl rfl rfl rfl (fun u0 wr hw h0 => ?_)
   cases h0
   exact OpRun.val (.bool ((F.k ((c).toNat)) == k)) (.bool ((F.k ((c).toNat)) == k)) (by kernel_rfl) rfl ⟨Ext.refl _, rfl⟩
 refine end10 (fun u0 u1 u2 u3 u4 u5 u6 u7 u8 u9 w1 E1 f0 f1 f2 f3 f4 f5 f6 f7 f8 f9 => ?_)
 cases f0
 cases f1
 cases f2
 cases f3
 cases f4
 cases f5
 cases f6
 cases f7
 cases f8
 cases f9
 refine wpList_nil (then_normal ?_)
 refine wp_ret ?_
 have H1 := (Ext.refl w).trans E1
 refine ret1 (.bool (F.k c.toNat == k)) rfl ?_ rfl ?_
 · refine (resT (v := .bool ((F.k ((c).toNat)) == k)) (by kernel_rfl)).trans ?_
   refine congrArg Value.bool ?_
   rfl
 exact ⟨rfl, H1⟩


--# ring1_any
theorem ring1_any (c : Int) (hc : 0 ≤ c ∧ c ≤ 99) (o : Int) (b1 : Nat) (t1 : TypeId) (m : Int) (b2 : Nat) (t2 : TypeId) (ho : 0 ≤ o ∧ o ≤ 99) (w : World) (hb1 : Blk w b1 t1 #[.int .i64 o]) (hb2 : Blk w b2 t2 #[.int .i64 m]) :
 Calls Try.prog 109 #[.int .i64 c, .pointer (some ⟨b1, 0, none⟩), .pointer (some ⟨b2, 0, none⟩)] w fun e w' => e = .returned (.bool (decide (sqr o c ≤ m))) ∧ Ext w w' := by
 refine calls_of_wp Try.func109 rfl ?_
 refine wp_frame (a' := ⟨#[.int .i64 c, .pointer (some ⟨b1, 0, none⟩), .pointer (some ⟨b2, 0, none⟩), undef, undef, undef, undef, undef, undef, undef], []⟩) (by kernel_rfl) ?_
 refine wsr ?_
 refine wv (.bool false) ?_
 refine wpList_nil (then_normal ?_)
 refine wp_seq ?_
 refine wp_frame (a' := ⟨#[.int .i64 c, .pointer (some ⟨b1, 0, none⟩), .pointer (some ⟨b2, 0, none⟩), undef, .bool false, undef, undef, undef, undef, undef], []⟩) (by kernel_rfl) ?_
 refine region_go 6 [5, 6, 7, 8, 9, 4] [[], [], [0, 1], [], [2, 3], [4]]
  (fun i_ => ([.val (.int .i64 o), .val (.int .i64 c), .val (.int .i64 (sqr o c)), .val (.int .i64 m), .val (.bool (decide ((sqr o c) ≤ m))), .val (.bool (decide ((sqr o c) ≤ m)))] : List Fct).getD i_ .any)
  (by kernel_rfl) (by kernel_rfl) (by decide) (by simp) rfl (all_succ (all_succ (all_succ (all_succ (all_succ (all_succ all_zero ?_) ?_) ?_) ?_) ?_) ?_) ?_
 · refine step0 rfl rfl rfl (fun wr hw => ?_)
   exact OpRun.cell (g := b1) (off := 0) (v := .int .i64 o) scal_int64 rfl (by kernel_rfl) ((hb1.ext hw).get (rfl)) ⟨Ext.refl _, rfl⟩
 · refine step0 rfl rfl rfl (fun wr hw => ?_)
   exact OpRun.val (.int .i64 c) (.int .i64 c) (by kernel_rfl) rfl ⟨Ext.refl _, rfl⟩
 · refine step2 rfl rfl rfl rfl rfl (fun u0 u1 wr hw h0 h1 => ?_)
   cases h0
   cases h1
   exact OpRun.call 79 #[.int .i64 o, .int .i64 c] (by kernel_rfl) ((square_any o c (by omega) (by omega) _).mono fun e w1 ⟨he, hb⟩ => ⟨_, he, hb, rfl⟩)
 · refine step0 rfl rfl rfl (fun wr hw => ?_)
   exact OpRun.cell (g := b2) (off := 0) (v := .int .i64 m) scal_int64 rfl (by kernel_rfl) ((hb2.ext hw).get (rfl)) ⟨Ext.refl _, rfl⟩
 · refine step2 rfl rfl rfl rfl rfl (fun u0 u1 wr hw h0 h1 => ?_)
   cases h0
   cases h1
   exact OpRun.val (.bool (decide ((sqr o c) ≤ m))) (.bool (decide ((sqr o c) ≤ m))) (by kernel_rfl) rfl ⟨Ext.refl _, rfl⟩
 · refine step1 rfl rfl rfl rfl (fun u0 wr hw h0 => ?_)
   cases h0
   exact OpRun.val (.bool (decide ((sqr o c) ≤ m))) (.bool (decide ((sqr o c) ≤ m))) (by kernel_rfl) rfl ⟨Ext.refl _, rfl⟩
 refine end6 (fun u0 u1 u2 u3 u4 u5 w1 E1 f0 f1 f2 f3 f4 f5 => ?_)
 cases f0
 cases f1
 cases f2
 cases f3
 cases f4
 cases f5
 refine wpList_nil (then_normal ?_)
 refine wp_ret ?_
 have H1 := (Ext.refl w).trans E1
 refine ret1 (.bool (decide (sqr o c ≤ m))) rfl ?_ rfl ?_
 · refine (resT (v := .bool (decide ((sqr o c) ≤ m))) (by kernel_rfl)).trans ?_
   refine congrArg Value.bool ?_
   rfl
 exact ⟨rfl, H1⟩


--# ofKind_any
theorem ofKind_any (F : Fld) (hF : F.wf) (b : Nat) (t : TypeId) (k : Int) (w : World) (hb : Blk w b t F.cells) :
 Calls Try.prog 95 #[.pointer (some ⟨b, 0, none⟩), .int .i64 k] w fun e w' => e = .returned (.agg #[.int .u64 ((setC F (fun c_ => F.k c_.toNat == k) 100).1), .int .u64 ((setC F (fun c_ => F.k c_.toNat == k) 100).2)]) ∧ Ext w w' := by
 refine calls_of_wp Try.func95 rfl ?_
 refine wp_frame (a' := ⟨#[.pointer (some ⟨b, 0, none⟩), .int .i64 k, undef, undef, undef, undef, undef, undef], []⟩) (by kernel_rfl) ?_
 refine wsr ?_
 refine wboxv (.pointer (some ⟨b, 0, none⟩)) ?_
 intro g1 w1 B1 E1 hg_
 have q_b_g1 := Nat.ne_of_lt (Nat.lt_of_lt_of_le hb.lt hg_)
 have lo_g1 := Nat.le_trans ((Ext.refl w)).size hg_
 replace hb := hb.ext E1
 have H1 := (Ext.refl w).trans E1
 refine wboxv (.int .i64 k) ?_
 intro g2 w2 B2 E2 hg_
 have q_b_g2 := Nat.ne_of_lt (Nat.lt_of_lt_of_le hb.lt hg_)
 have q_g1_g2 := Nat.ne_of_lt (Nat.lt_of_lt_of_le B1.lt hg_)
 have lo_g2 := Nat.le_trans (H1).size hg_
 replace hb := hb.ext E2
 have H2 := H1.trans E2
 replace B1 := B1.ext E2
 refine wnew #[.int .u64 0, .int .u64 0] Try.zeroValue33 rfl ?_
 intro g3 w3 B3 E3 hg_
 have q_b_g3 := Nat.ne_of_lt (Nat.lt_of_lt_of_le hb.lt hg_)
 have q_g1_g3 := Nat.ne_of_lt (Nat.lt_of_lt_of_le B1.lt hg_)
 have q_g2_g3 := Nat.ne_of_lt (Nat.lt_of_lt_of_le B2.lt hg_)
 have lo_g3 := Nat.le_trans (H2).size hg_
 refine wpList_nil (then_normal ?_)
 refine wsr ?_
 replace B1 := B1.ext E3
 refine wld (v := .pointer (some ⟨b, 0, none⟩)) g1 (0) scal__impl_Field (B1.get (rfl)) ?_
 refine wv (.func (.func 110) #[] #[.pointer (some ⟨g1, 0, none⟩), .pointer (some ⟨g2, 0, none⟩)]) ?_
 replace hb := hb.ext E3
 replace B2 := B2.ext E3
 refine wcl (those_any F hF b _ (.func (.func 110) #[] #[.pointer (some ⟨g1, 0, none⟩), .pointer (some ⟨g2, 0, none⟩)]) 110 (fun c_ => #[.int .i64 c_, .pointer (some ⟨g1, 0, none⟩), .pointer (some ⟨g2, 0, none⟩)]) (fun c_ => F.k c_.toNat == k) (fun _ _ => by kernel_rfl) _ hb (fun c_ _ I_ E_ => by have J_ := isB_true.1 I_; exact ofKind1_any c_ (by omega) F hF g1 _ b _ k g2 _ _ (B1.ext E_) (hb.ext E_) (B2.ext E_))) ?_
 intro w4 E4
 replace B3 := B3.ext E4
 refine wput #[.int .u64 ((setC F (fun c_ => F.k c_.toNat == k) 100).1), .int .u64 ((setC F (fun c_ => F.k c_.toNat == k) 100).2)] row_impl_Cells B3 (by rfl) (by rfl) (by kernel_rfl) ?_
 intro w5 B3_ X1
 clear B3; have B3 := B3_; clear B3_
 refine wpList_nil (then_normal ?_)
 refine wp_ret ?_
 have H3 := X1.ext w lo_g3 ((H2.trans E3).trans E4)
 refine ret1 (.agg #[.int .u64 ((setC F (fun c_ => F.k c_.toNat == k) 100).1), .int .u64 ((setC F (fun c_ => F.k c_.toNat == k) 100).2)]) rfl ?_ rfl ?_
 · refine ⟨g3, 33, #[.int .u64 ((setC F (fun c_ => F.k c_.toNat == k) 100).1), .int .u64 ((setC F (fun c_ => F.k c_.toNat == k) 100).2)], _, by kernel_rfl, B3, row_impl_Cells, ?_, ?_⟩
   · rfl
   · rfl
 exact ⟨rfl, H3⟩


--# ring_any
theorem ring_any (F : Fld) (hF : F.wf) (b : Nat) (t : TypeId) (o : Int) (m : Int) (ho : 0 ≤ o ∧ o ≤ 99) (w : World) (hb : Blk w b t F.cells) :
 Calls Try.prog 89 #[.pointer (some ⟨b, 0, none⟩), .int .i64 o, .int .i64 m] w fun e w' => e = .returned (.agg #[.int .u64 ((setC F (fun c_ => decide (sqr o c_ ≤ m)) 100).1), .int .u64 ((setC F (fun c_ => decide (sqr o c_ ≤ m)) 100).2)]) ∧ Ext w w' := by
 refine calls_of_wp Try.func89 rfl ?_
 refine wp_frame (a' := ⟨#[.pointer (some ⟨b, 0, none⟩), .int .i64 o, .int .i64 m, undef, undef, undef, undef, undef, undef, undef], []⟩) (by kernel_rfl) ?_
 refine wsr ?_
 refine wboxv (.int .i64 o) ?_
 intro g1 w1 B1 E1 hg_
 have q_b_g1 := Nat.ne_of_lt (Nat.lt_of_lt_of_le hb.lt hg_)
 have lo_g1 := Nat.le_trans ((Ext.refl w)).size hg_
 replace hb := hb.ext E1
 have H1 := (Ext.refl w).trans E1
 refine wboxv (.int .i64 m) ?_
 intro g2 w2 B2 E2 hg_
 have q_b_g2 := Nat.ne_of_lt (Nat.lt_of_lt_of_le hb.lt hg_)
 have q_g1_g2 := Nat.ne_of_lt (Nat.lt_of_lt_of_le B1.lt hg_)
 have lo_g2 := Nat.le_trans (H1).size hg_
 replace hb := hb.ext E2
 have H2 := H1.trans E2
 replace B1 := B1.ext E2
 refine wnew #[.int .u64 0, .int .u64 0] Try.zeroValue33 rfl ?_
 intro g3 w3 B3 E3 hg_
 have q_b_g3 := Nat.ne_of_lt (Nat.lt_of_lt_of_le hb.lt hg_)
 have q_g1_g3 := Nat.ne_of_lt (Nat.lt_of_lt_of_le B1.lt hg_)
 have q_g2_g3 := Nat.ne_of_lt (Nat.lt_of_lt_of_le B2.lt hg_)
 have lo_g3 := Nat.le_trans (H2).size hg_
 refine wpList_nil (then_normal ?_)
 refine wsr ?_
 refine wv (.pointer (some ⟨b, 0, none⟩)) ?_
 refine wv (.func (.func 109) #[] #[.pointer (some ⟨g1, 0, none⟩), .pointer (some ⟨g2, 0, none⟩)]) ?_
 replace hb := hb.ext E3
 replace B1 := B1.ext E3
 replace B2 := B2.ext E3
 refine wcl (those_any F hF b _ (.func (.func 109) #[] #[.pointer (some ⟨g1, 0, none⟩), .pointer (some ⟨g2, 0, none⟩)]) 109 (fun c_ => #[.int .i64 c_, .pointer (some ⟨g1, 0, none⟩), .pointer (some ⟨g2, 0, none⟩)]) (fun c_ => decide (sqr o c_ ≤ m)) (fun _ _ => by kernel_rfl) _ hb (fun c_ _ I_ E_ => by have J_ := isB_true.1 I_; exact ring1_any c_ (by omega) o g1 _ m g2 _ (by omega) _ (B1.ext E_) (B2.ext E_))) ?_
 intro w4 E4
 replace B3 := B3.ext E4
 refine wput #[.int .u64 ((setC F (fun c_ => decide (sqr o c_ ≤ m)) 100).1), .int .u64 ((setC F (fun c_ => decide (sqr o c_ ≤ m)) 100).2)] row_impl_Cells B3 (by rfl) (by rfl) (by kernel_rfl) ?_
 intro w5 B3_ X1
 clear B3; have B3 := B3_; clear B3_
 refine wpList_nil (then_normal ?_)
 refine wp_ret ?_
 have H3 := X1.ext w lo_g3 ((H2.trans E3).trans E4)
 refine ret1 (.agg #[.int .u64 ((setC F (fun c_ => decide (sqr o c_ ≤ m)) 100).1), .int .u64 ((setC F (fun c_ => decide (sqr o c_ ≤ m)) 100).2)]) rfl ?_ rfl ?_
 · refine ⟨g3, 33, #[.int .u64 ((setC F (fun c_ => decide (sqr o c_ ≤ m)) 100).1), .int .u64 ((setC F (fun c_ => decide (sqr o c_ ≤ m)) 100).2)], _, by kernel_rfl, B3, row_impl_Cells, ?_, ?_⟩
   · rfl
   · rfl
 exact ⟨rfl, H3⟩


--# l01Ring_any
theorem l01Ring_any (F : Fld) (hF : F.wf) (b : Nat) (t : TypeId) (o : Int) (m : Int) (ho : 0 ≤ o ∧ o ≤ 99) (w : World) (hb : Blk w b t F.cells) :
 Calls Try.prog 90 #[.pointer (some ⟨b, 0, none⟩), .int .i64 o, .int .i64 m] w fun e w' => e = .returned (.agg #[.int .u64 ((setC F (fun c_ => decide (sqr o c_ ≤ m)) 100).1), .int .u64 ((setC F (fun c_ => decide (sqr o c_ ≤ m)) 100).2)]) ∧ Ext w w' := by
 refine calls_of_wp Try.func90 rfl ?_
 refine wp_frame (a' := ⟨#[.pointer (some ⟨b, 0, none⟩), .int .i64 o, .int .i64 m, undef, undef, undef, undef, undef, undef, undef, undef, undef, undef, undef, undef, undef, undef, undef, undef, undef, undef, undef, undef, undef, undef, undef, undef], []⟩) (by kernel_rfl) ?_
 refine wsr ?_
 refine wnew #[.int .u64 0, .int .u64 0] Try.zeroValue33 rfl ?_
 intro g1 w1 B1 E1 hg_
 have q_b_g1 := Nat.ne_of_lt (Nat.lt_of_lt_of_le hb.lt hg_)
 have lo_g1 := Nat.le_trans ((Ext.refl w)).size hg_
 refine wpList_nil (then_normal ?_)
 refine wsr ?_
 refine wv (.agg #[.int .u64 0, .int .u64 0]) ?_
 replace hb := hb.ext E1
 have H1 := (Ext.refl w).trans E1
 refine wnew #[.int .u64 0, .int .u64 0] Try.zeroValue33 rfl ?_
 intro g2 w2 B2 E2 hg_
 have q_b_g2 := Nat.ne_of_lt (Nat.lt_of_lt_of_le hb.lt hg_)
 have q_g1_g2 := Nat.ne_of_lt (Nat.lt_of_lt_of_le B1.lt hg_)
 have lo_g2 := Nat.le_trans (H1).size hg_
 refine wput #[.int .u64 0, .int .u64 0] row_impl_Cells B2 (by rfl) (by rfl) (by kernel_rfl) ?_
 intro w3 B2_ X1
 clear B2; have B2 := B2_; clear B2_
 refine wpList_nil (then_normal ?_)
 refine wp_seq ?_
 refine wsr ?_
 refine wv (.int .i64 0) ?_
 refine wpList_nil (then_normal ?_)
 refine wp_block ?_
 replace hb := X1.blk (hb.ext E2) q_b_g2
 replace B1 := X1.blk (B1.ext E2) q_g1_g2
 have H2 := X1.ext w lo_g2 (H1.trans E2)
 refine wp_loop_k (fun m1 a wl1 => ∃ (i : Nat), m1 = 100 - i ∧ i ≤ 100 ∧ Ext w wl1 ∧ Blk wl1 b t F.cells ∧ Blk wl1 g1 33 #[.int .u64 0, .int .u64 0] ∧ Blk wl1 g2 33 #[.int .u64 ((setC F (fun c_ => decide (sqr o c_ ≤ m)) i).1), .int .u64 ((setC F (fun c_ => decide (sqr o c_ ≤ m)) i).2)] ∧ (∃ J1 : Nat → Value, a = ⟨#[.pointer (some ⟨b, 0, none⟩), .int .i64 o, .int .i64 m, undef, undef, undef, .pointer (some ⟨g1, 0, none⟩), .pointer (some ⟨g2, 0, none⟩), .int .i64 (i : Int), .agg #[.int .u64 0, .int .u64 0], J1 10, J1 11, J1 12, J1 13, J1 14, J1 15, J1 16, J1 17, J1 18, J1 19, J1 20, J1 21, J1 22, J1 23, J1 24, J1 25, undef], []⟩)) (100) ?_ ?_
 · refine ⟨0, rfl, ?_, H2, hb, B1, ?_, exJ (by kernel_rfl)⟩
   · omega
   · unfold setC; rw [foldC_0]; exact B2
 intro m1 a wl1 hI
 obtain ⟨i, rfl, hi_, HL1, hb, B1, B2, J1, rfl⟩ := hI
 refine wp_seq ?_
 refine wsr ?_
 refine wv (.int .i64 (i : Int)) ?_
 refine wv (.bool (decide ((i : Int) < 100))) ?_
 refine wpList_nil (then_normal ?_)
 refine wsplit (decide ((i : Int) < 100)) (fun h1 => ?_) (fun h1 => ?_)
 · skip
   have h1d := dT h1
   refine wp_skip ?_
   refine then_normal ?_
   refine wp_seq ?_
   refine wp_block ?_
   refine wsr ?_
   refine wv (.pointer (some ⟨b, 0, none⟩)) ?_
   refine wv (.int .i64 (i : Int)) ?_
   refine wcl (l01Is_any F hF b _ (i : Int) _ hb) ?_
   intro w4 E3
   refine wv (.bool (isB F (i : Int))) ?_
   have H3 := HL1.trans E3
   refine split_bool (isB F (i : Int)) (fun h2 => ?_) (fun h2 => ?_)
   · skip
     refine wbl 17 true h2 ?_
     have h2d := isB_true.1 h2
     refine wv (.int .i64 o) ?_
     refine wv (.int .i64 (i : Int)) ?_
     refine wcl (l01Square_any o (i : Int) (by omega) (by omega) _) ?_
     intro w5 E4
     refine wv (.int .i64 m) ?_
     refine wv (.bool (decide ((sqr o (i : Int)) ≤ m))) ?_
     refine wv (.bool (decide ((sqr o (i : Int)) ≤ m))) ?_
     refine wpList_nil (then_normal ?_)
     have H4 := H3.trans E4
     refine wsplit (decide ((sqr o (i : Int)) ≤ m)) (fun h3 => ?_) (fun h3 => ?_)
     · skip
       have h3d := dT h3
       refine wp_region_lit ?_
       refine wv (.int .i64 (i : Int)) ?_
       replace B2 := (B2.ext E3).ext E4
       refine wcl (l01Put_any ((setC F (fun c_ => decide (sqr o c_ ≤ m)) i).1) ((setC F (fun c_ => decide (sqr o c_ ≤ m)) i).2) g2 _ (i : Int) (by omega) _ B2) ?_
       rintro w6 ⟨B2_, X2⟩
       clear B2; have B2 := B2_; clear B2_
       refine wpList_nil (block_normal (then_normal ?_))
       refine wp_region_lit ?_
       refine wv (.int .i64 (i : Int)) ?_
       refine wi64 ((i : Int) + 1) ?_
       refine wv (.int .i64 ((i : Int) + 1)) ?_
       refine wpList_nil (then_normal ?_)
       replace hb := X2.blk ((hb.ext E3).ext E4) q_b_g2
       replace B1 := X2.blk ((B1.ext E3).ext E4) q_g1_g2
       have H5 := X2.ext w lo_g2 H4
       refine ⟨_, ?_, i + 1, rfl, ?_, H5, hb, B1, ?_, exJ (by kernel_rfl)⟩
       · omega
       · omega
       · first | (rw [setC_2 (by assumption)]; exact B2) | (rw [setC_3 (by assumption) (by first | exact decide_eq_false (by omega) | assumption)]; exact B2) | (rw [setC_1 (by assumption) (by first | exact decide_eq_true (by omega) | assumption)]; exact B2)
     · skip
       have h3d := dF h3
       refine wp_skip ?_
       refine block_normal (then_normal ?_)
       refine wp_region_lit ?_
       refine wv (.int .i64 (i : Int)) ?_
       refine wi64 ((i : Int) + 1) ?_
       refine wv (.int .i64 ((i : Int) + 1)) ?_
       refine wpList_nil (then_normal ?_)
       replace hb := (hb.ext E3).ext E4
       replace B1 := (B1.ext E3).ext E4
       replace B2 := (B2.ext E3).ext E4
       refine ⟨_, ?_, i + 1, rfl, ?_, H4, hb, B1, ?_, exJ (by kernel_rfl)⟩
       · omega
       · omega
       · first | (rw [setC_2 (by assumption)]; exact B2) | (rw [setC_3 (by assumption) (by first | exact decide_eq_false (by omega) | assumption)]; exact B2) | (rw [setC_1 (by assumption) (by first | exact decide_eq_true (by omega) | assumption)]; exact B2)
   · skip
     refine wbl 17 false h2 ?_
     refine wsk ?_
     refine wsk ?_
     refine wsk ?_
     refine wsk ?_
     refine wsk ?_
     refine wv (.bool false) ?_
     refine wpList_nil (then_normal ?_)
     refine wcf ?_
     refine wp_skip ?_
     refine block_normal (then_normal ?_)
     refine wp_region_lit ?_
     refine wv (.int .i64 (i : Int)) ?_
     refine wi64 ((i : Int) + 1) ?_
     refine wv (.int .i64 ((i : Int) + 1)) ?_
     refine wpList_nil (then_normal ?_)
     replace hb := hb.ext E3
     replace B1 := B1.ext E3
     replace B2 := B2.ext E3
     refine ⟨_, ?_, i + 1, rfl, ?_, H3, hb, B1, ?_, exJ (by kernel_rfl)⟩
     · omega
     · omega
     · first | (rw [setC_2 (by assumption)]; exact B2) | (rw [setC_3 (by assumption) (by first | exact decide_eq_false (by omega) | assumption)]; exact B2) | (rw [setC_1 (by assumption) (by first | exact decide_eq_true (by omega) | assumption)]; exact B2)
 · skip
   have h1d := dF h1
   refine wp_exit ?_
   refine then_exit ?_
   refine then_exit ?_
   refine block_exit ?_
   refine then_normal ?_
   refine wsr ?_
   refine wrow row_impl_Cells B2 (by rfl) ?_
   refine wput #[.int .u64 ((setC F (fun c_ => decide (sqr o c_ ≤ m)) i).1), .int .u64 ((setC F (fun c_ => decide (sqr o c_ ≤ m)) i).2)] row_impl_Cells B1 (by rfl) (by rfl) (by kernel_rfl) ?_
   intro w7 B1_ X3
   clear B1; have B1 := B1_; clear B1_
   refine wpList_nil (then_normal ?_)
   refine wp_ret ?_
   have H6 := X3.ext w lo_g1 HL1
   refine ret1 (.agg #[.int .u64 ((setC F (fun c_ => decide (sqr o c_ ≤ m)) 100).1), .int .u64 ((setC F (fun c_ => decide (sqr o c_ ≤ m)) 100).2)]) rfl ?_ rfl ?_
   · refine ⟨g1, 33, #[.int .u64 ((setC F (fun c_ => decide (sqr o c_ ≤ m)) i).1), .int .u64 ((setC F (fun c_ => decide (sqr o c_ ≤ m)) i).2)], _, by kernel_rfl, B1, row_impl_Cells, ?_, ?_⟩
     · rfl
     · show (.agg #[.int .u64 ((setC F (fun c_ => decide (sqr o c_ ≤ m)) 100).1), .int .u64 ((setC F (fun c_ => decide (sqr o c_ ≤ m)) 100).2)] : Value) = (.agg #[.int .u64 ((setC F (fun c_ => decide (sqr o c_ ≤ m)) i).1), .int .u64 ((setC F (fun c_ => decide (sqr o c_ ≤ m)) i).2)])
       refine congrArg Value.agg ?_
       rw [show i = 100 by omega]
   exact ⟨rfl, H6⟩


--# first_any
theorem first_any (F : Fld) (hF : F.wf) (b : Nat) (t : TypeId) (x y : Int) (V : Value) (fn : FuncId) (full : Int → Int → Array Value) (bf : Int → Int → Bool) (hV : ∀ a b, Clo Try.prog V #[.int .i64 a, .int .i64 b] fn (full a b)) (w : World) (hb : Blk w b t F.cells) (hc : ∀ a b w', isB F a = true → isB F b = true → Ext w w' → Calls Try.prog fn (full a b) w' fun e w'' => e = .returned (.bool (bf a b)) ∧ Ext w' w'') :
 Calls Try.prog 84 #[.pointer (some ⟨b, 0, none⟩), .agg #[.int .u64 x, .int .u64 y], V] w fun e w' => e = .returned (.int .i64 (firstC F x y bf 100)) ∧ Ext w w' := by
 refine calls_of_wp Try.func84 rfl ?_
 refine wp_frame (a' := ⟨#[.pointer (some ⟨b, 0, none⟩), .agg #[.int .u64 x, .int .u64 y], V, undef, undef, undef, undef, undef, undef, undef, undef, undef, undef, undef, undef, undef, undef, undef, undef, undef, undef, undef, undef, undef, undef, undef, undef, undef, undef, undef, undef, undef, undef], []⟩) (by kernel_rfl) ?_
 refine wsr ?_
 refine wbox #[.int .u64 x, .int .u64 y] ?_
 intro g1 w1 B1 E1 _
 refine wv (.int .i64 0) ?_
 refine wpList_nil (then_normal ?_)
 refine wsr ?_
 refine wv (.int .i64 (-1)) ?_
 refine wpList_nil (then_normal ?_)
 refine wp_seq ?_
 refine wsr ?_
 refine wv (.pointer (some ⟨b, 0, none⟩)) ?_
 replace hb := hb.ext E1
 have H1 := (Ext.refl w).trans E1
 refine wcli (cells_any F hF b _ _ hb) ?_
 intro g2 cap1 cs1 w2 B2 S1 E2 hg_
 have cl1 := cellsL_length F
 refine wv (.int .i64 ((cellsL F).length : Int)) ?_
 refine wv (.int .i64 0) ?_
 refine wpList_nil (then_normal ?_)
 refine wp_block ?_
 replace hb := hb.ext E2
 replace B1 := B1.ext E2
 have H2 := H1.trans E2
 refine wp_loop_k (fun m1 a wl1 => ∃ (j : Nat) (best : Int), m1 = (cellsL F).length - j ∧ j ≤ (cellsL F).length ∧ best = firstT F x y bf j ∧ Ext w wl1 ∧ Blk wl1 b t F.cells ∧ Blk wl1 g1 33 #[.int .u64 x, .int .u64 y] ∧ Blk wl1 g2 2 cs1 ∧ (∃ J1 : Nat → Value, a = ⟨#[.pointer (some ⟨b, 0, none⟩), .agg #[.int .u64 x, .int .u64 y], V, undef, .pointer (some ⟨g1, 0, none⟩), undef, .int .i64 0, .int .i64 best, undef, J1 9, .pointer (some ⟨b, 0, none⟩), .slice (some ⟨g2, 0, none⟩) ((cellsL F).length) cap1, .int .i64 ((cellsL F).length : Int), .int .i64 (j : Int), J1 14, J1 15, J1 16, J1 17, J1 18, J1 19, J1 20, J1 21, J1 22, J1 23, J1 24, J1 25, J1 26, J1 27, J1 28, J1 29, J1 30, J1 31, undef], []⟩)) ((cellsL F).length) ?_ ?_
 · refine ⟨0, (-1), rfl, ?_, ?_, H2, hb, B1, B2, exJ (by kernel_rfl)⟩
   · omega
   · exact firstT_0
 intro m1 a wl1 hI
 obtain ⟨j, best, rfl, hi_, hb_, HL1, hb, B1, B2, J1, rfl⟩ := hI
 have hbi_ := firstT_is hb_
 have hbn_ := is_in hbi_
 refine wsr ?_
 refine wv (.bool (decide ((j : Int) < ((cellsL F).length : Int)))) ?_
 refine wpList_nil (then_normal ?_)
 refine wp_seq ?_
 refine wsplit (decide ((j : Int) < ((cellsL F).length : Int))) (fun h1 => ?_) (fun h1 => ?_)
 · skip
   have h1d := dT h1
   refine wp_skip ?_
   refine then_normal ?_
   refine wp_seq ?_
   refine wp_block ?_
   refine wsr ?_
   refine wsix1 g2 0 ((cellsL F).length) cap1 j .i64 slit__int64 ?_
   have ce1 := cellsL_in (F := F) (j := j) (by omega)
   have ci1 := cellsL_is (F := F) (j := j) (by omega)
   refine wld g2 (0 + j) scal_int64 (B2.get (SlI.get S1 (by omega))) ?_
   refine wv (.int .i64 (atI (cellsL F) j)) ?_
   refine wpList_nil (then_normal ?_)
   refine wsr ?_
   refine wrow row_impl_Cells B1 (by rfl) ?_
   refine wv (.int .i64 (atI (cellsL F) j)) ?_
   refine wcl (iHasCell_any x y (atI (cellsL F) j) _) ?_
   intro w3 E3
   refine wv (.bool (hasB x y (atI (cellsL F) j))) ?_
   refine split_bool (hasB x y (atI (cellsL F) j)) (fun h2 => ?_) (fun h2 => ?_)
   · skip
     refine wbl 20 true h2 ?_
     refine wv (.int .i64 best) ?_
     refine wv (.bool (decide (best < 0))) ?_
     refine wv (.bool (decide (best < 0))) ?_
     refine split_bool (decide (best < 0)) (fun h3 => ?_) (fun h3 => ?_)
     · skip
       refine wbl 23 true h3 ?_
       have h3d := dT h3
       refine wsk ?_
       refine wsk ?_
       refine wsk ?_
       refine wsk ?_
       refine wv (.bool true) ?_
       refine wv (.bool true) ?_
       refine wpList_nil (then_normal ?_)
       refine wct ?_
       refine wp_region_lit ?_
       refine wv (.int .i64 (atI (cellsL F) j)) ?_
       refine wv (.int .i64 (atI (cellsL F) j)) ?_
       refine wpList_nil (block_normal (then_normal ?_))
       refine wp_region_lit ?_
       refine wi64 ((j : Int) + 1) ?_
       refine wv (.int .i64 ((j : Int) + 1)) ?_
       refine wpList_nil (then_normal ?_)
       replace hb := hb.ext E3
       replace B1 := B1.ext E3
       replace B2 := B2.ext E3
       have H3 := HL1.trans E3
       refine ⟨_, ?_, j + 1, atI (cellsL F) j, rfl, ?_, ?_, H3, hb, B1, B2, exJ (by kernel_rfl)⟩
       · omega
       · omega
       · first | exact firstT_h hb_ (by omega) (by assumption) | exact firstT_b hb_ (by omega) (by assumption) (by omega) | exact firstT_t hb_ (by omega) (by assumption) (by assumption) | exact firstT_f hb_ (by omega) (by omega) (by assumption)
     · skip
       refine wbl 23 false h3 ?_
       have h3d := dF h3
       refine wv V ?_
       refine wv (.int .i64 (atI (cellsL F) j)) ?_
       refine wv (.int .i64 best) ?_
       have H4 := HL1.trans E3
       refine wcl (he := (Eq.trans (b := (callV V #[.int .i64 (atI (cellsL F) j), .int .i64 best]).run Try.prog _) (by kernel_rfl) (hV (atI (cellsL F) j) best _))) (hc (atI (cellsL F) j) best _ (by assumption) (is_is hbi_ (by omega)) H4) ?_
       intro w4 E4
       refine wv (.bool (bf (atI (cellsL F) j) best)) ?_
       refine wv (.bool (bf (atI (cellsL F) j) best)) ?_
       refine wpList_nil (then_normal ?_)
       refine wsplit (bf (atI (cellsL F) j) best) (fun h4 => ?_) (fun h4 => ?_)
       · skip
         refine wp_region_lit ?_
         refine wv (.int .i64 (atI (cellsL F) j)) ?_
         refine wv (.int .i64 (atI (cellsL F) j)) ?_
         refine wpList_nil (block_normal (then_normal ?_))
         refine wp_region_lit ?_
         refine wi64 ((j : Int) + 1) ?_
         refine wv (.int .i64 ((j : Int) + 1)) ?_
         refine wpList_nil (then_normal ?_)
         replace hb := (hb.ext E3).ext E4
         replace B1 := (B1.ext E3).ext E4
         replace B2 := (B2.ext E3).ext E4
         have H5 := H4.trans E4
         refine ⟨_, ?_, j + 1, atI (cellsL F) j, rfl, ?_, ?_, H5, hb, B1, B2, exJ (by kernel_rfl)⟩
         · omega
         · omega
         · first | exact firstT_h hb_ (by omega) (by assumption) | exact firstT_b hb_ (by omega) (by assumption) (by omega) | exact firstT_t hb_ (by omega) (by assumption) (by assumption) | exact firstT_f hb_ (by omega) (by omega) (by assumption)
       · skip
         refine wp_skip ?_
         refine block_normal (then_normal ?_)
         refine wp_region_lit ?_
         refine wi64 ((j : Int) + 1) ?_
         refine wv (.int .i64 ((j : Int) + 1)) ?_
         refine wpList_nil (then_normal ?_)
         replace hb := (hb.ext E3).ext E4
         replace B1 := (B1.ext E3).ext E4
         replace B2 := (B2.ext E3).ext E4
         have H6 := H4.trans E4
         refine ⟨_, ?_, j + 1, best, rfl, ?_, ?_, H6, hb, B1, B2, exJ (by kernel_rfl)⟩
         · omega
         · omega
         · first | exact firstT_h hb_ (by omega) (by assumption) | exact firstT_b hb_ (by omega) (by assumption) (by omega) | exact firstT_t hb_ (by omega) (by assumption) (by assumption) | exact firstT_f hb_ (by omega) (by omega) (by assumption)
   · skip
     refine wbl 20 false h2 ?_
     refine wsk ?_
     refine wsk ?_
     refine wsk ?_
     refine wsk ?_
     refine wsk ?_
     refine wsk ?_
     refine wsk ?_
     refine wsk ?_
     refine wv (.bool false) ?_
     refine wpList_nil (then_normal ?_)
     refine wcf ?_
     refine wp_skip ?_
     refine block_normal (then_normal ?_)
     refine wp_region_lit ?_
     refine wi64 ((j : Int) + 1) ?_
     refine wv (.int .i64 ((j : Int) + 1)) ?_
     refine wpList_nil (then_normal ?_)
     replace hb := hb.ext E3
     replace B1 := B1.ext E3
     replace B2 := B2.ext E3
     have H7 := HL1.trans E3
     refine ⟨_, ?_, j + 1, best, rfl, ?_, ?_, H7, hb, B1, B2, exJ (by kernel_rfl)⟩
     · omega
     · omega
     · first | exact firstT_h hb_ (by omega) (by assumption) | exact firstT_b hb_ (by omega) (by assumption) (by omega) | exact firstT_t hb_ (by omega) (by assumption) (by assumption) | exact firstT_f hb_ (by omega) (by omega) (by assumption)
 · skip
   have h1d := dF h1
   refine wp_exit ?_
   refine then_exit ?_
   refine then_exit ?_
   refine block_exit ?_
   refine then_normal ?_
   refine wsr ?_
   refine wv (.int .i64 best) ?_
   refine wv (.int .i64 best) ?_
   refine wpList_nil (then_normal ?_)
   refine wp_ret ?_
   refine ret1 (.int .i64 (firstC F x y bf 100)) rfl ?_ rfl ?_
   · refine (resT (v := .int .i64 best) (by kernel_rfl)).trans ?_
     refine congrArg (Value.int _) ?_
     exact firstT_end hb_ (by omega)
   exact ⟨rfl, HL1⟩


--# nearest1_any
theorem nearest1_any (a : Int) (b : Int) (ha : 0 ≤ a ∧ a ≤ 99) (hb : 0 ≤ b ∧ b ≤ 99) (o : Int) (b1 : Nat) (t1 : TypeId) (ho : 0 ≤ o ∧ o ≤ 99) (w : World) (hb1 : Blk w b1 t1 #[.int .i64 o]) :
 Calls Try.prog 104 #[.int .i64 a, .int .i64 b, .pointer (some ⟨b1, 0, none⟩)] w fun e w' => e = .returned (.bool (decide (sqr o a < sqr o b))) ∧ Ext w w' := by
 refine calls_of_wp Try.func104 rfl ?_
 refine wp_frame (a' := ⟨#[.int .i64 a, .int .i64 b, .pointer (some ⟨b1, 0, none⟩), undef, undef, undef, undef, undef, undef, undef, undef, undef, undef], []⟩) (by kernel_rfl) ?_
 refine wsr ?_
 refine wv (.bool false) ?_
 refine wpList_nil (then_normal ?_)
 refine wp_seq ?_
 refine wp_frame (a' := ⟨#[.int .i64 a, .int .i64 b, .pointer (some ⟨b1, 0, none⟩), undef, undef, .bool false, undef, undef, undef, undef, undef, undef, undef], []⟩) (by kernel_rfl) ?_
 refine region_go 8 [6, 7, 8, 9, 10, 11, 12, 5] [[], [], [0, 1], [], [], [3, 4], [2, 5], [6]]
  (fun i_ => ([.val (.int .i64 o), .val (.int .i64 a), .val (.int .i64 (sqr o a)), .val (.int .i64 o), .val (.int .i64 b), .val (.int .i64 (sqr o b)), .val (.bool (decide ((sqr o a) < sqr o b))), .val (.bool (decide ((sqr o a) < sqr o b)))] : List Fct).getD i_ .any)
  (by kernel_rfl) (by kernel_rfl) (by decide) (by simp) rfl (all_succ (all_succ (all_succ (all_succ (all_succ (all_succ (all_succ (all_succ all_zero ?_) ?_) ?_) ?_) ?_) ?_) ?_) ?_) ?_
 · refine step0 rfl rfl rfl (fun wr hw => ?_)
   exact OpRun.cell (g := b1) (off := 0) (v := .int .i64 o) scal_int64 rfl (by kernel_rfl) ((hb1.ext hw).get (rfl)) ⟨Ext.refl _, rfl⟩
 · refine step0 rfl rfl rfl (fun wr hw => ?_)
   exact OpRun.val (.int .i64 a) (.int .i64 a) (by kernel_rfl) rfl ⟨Ext.refl _, rfl⟩
 · refine step2 rfl rfl rfl rfl rfl (fun u0 u1 wr hw h0 h1 => ?_)
   cases h0
   cases h1
   exact OpRun.call 79 #[.int .i64 o, .int .i64 a] (by kernel_rfl) ((square_any o a (by omega) (by omega) _).mono fun e w1 ⟨he, hb⟩ => ⟨_, he, hb, rfl⟩)
 · refine step0 rfl rfl rfl (fun wr hw => ?_)
   exact OpRun.cell (g := b1) (off := 0) (v := .int .i64 o) scal_int64 rfl (by kernel_rfl) ((hb1.ext hw).get (rfl)) ⟨Ext.refl _, rfl⟩
 · refine step0 rfl rfl rfl (fun wr hw => ?_)
   exact OpRun.val (.int .i64 b) (.int .i64 b) (by kernel_rfl) rfl ⟨Ext.refl _, rfl⟩
 · refine step2 rfl rfl rfl rfl rfl (fun u0 u1 wr hw h0 h1 => ?_)
   cases h0
   cases h1
   exact OpRun.call 79 #[.int .i64 o, .int .i64 b] (by kernel_rfl) ((square_any o b (by omega) (by omega) _).mono fun e w1 ⟨he, hb⟩ => ⟨_, he, hb, rfl⟩)
 · refine step2 rfl rfl rfl rfl rfl (fun u0 u1 wr hw h0 h1 => ?_)
   cases h0
   cases h1
   exact OpRun.val (.bool (decide ((sqr o a) < sqr o b))) (.bool (decide ((sqr o a) < sqr o b))) (by kernel_rfl) rfl ⟨Ext.refl _, rfl⟩
 · refine step1 rfl rfl rfl rfl (fun u0 wr hw h0 => ?_)
   cases h0
   exact OpRun.val (.bool (decide ((sqr o a) < sqr o b))) (.bool (decide ((sqr o a) < sqr o b))) (by kernel_rfl) rfl ⟨Ext.refl _, rfl⟩
 refine end8 (fun u0 u1 u2 u3 u4 u5 u6 u7 w1 E1 f0 f1 f2 f3 f4 f5 f6 f7 => ?_)
 cases f0
 cases f1
 cases f2
 cases f3
 cases f4
 cases f5
 cases f6
 cases f7
 refine wpList_nil (then_normal ?_)
 refine wp_ret ?_
 have H1 := (Ext.refl w).trans E1
 refine ret1 (.bool (decide (sqr o a < sqr o b))) rfl ?_ rfl ?_
 · refine (resT (v := .bool (decide ((sqr o a) < sqr o b))) (by kernel_rfl)).trans ?_
   refine congrArg Value.bool ?_
   rfl
 exact ⟨rfl, H1⟩


--# richest1_any
theorem richest1_any (a : Int) (b : Int) (ha : 0 ≤ a ∧ a ≤ 99) (hb : 0 ≤ b ∧ b ≤ 99) (F : Fld) (hF : F.wf) (b0 : Nat) (t0 : TypeId) (w : World) (hb0 : Blk w b0 t0 F.cells) :
 Calls Try.prog 85 #[.int .i64 a, .int .i64 b, .pointer (some ⟨b0, 0, none⟩)] w fun e w' => e = .returned (.bool (decide (F.s b.toNat < F.s a.toNat))) ∧ Ext w w' := by
 refine calls_of_wp Try.func85 rfl ?_
 refine wp_frame (a' := ⟨#[.int .i64 a, .int .i64 b, .pointer (some ⟨b0, 0, none⟩), undef, undef, undef, undef, undef, undef, undef, undef, undef, undef, undef, undef], []⟩) (by kernel_rfl) ?_
 refine wsr ?_
 refine wv (.bool false) ?_
 refine wpList_nil (then_normal ?_)
 refine wp_seq ?_
 refine wp_frame (a' := ⟨#[.int .i64 a, .int .i64 b, .pointer (some ⟨b0, 0, none⟩), undef, undef, .bool false, undef, undef, undef, undef, undef, undef, undef, undef, undef], []⟩) (by kernel_rfl) ?_
 have ce1 := hF.s1 ((a).toNat) (by omega)
 have ce2 := hF.s1 ((b).toNat) (by omega)
 refine region_go 10 [6, 7, 8, 9, 10, 11, 12, 13, 14, 5] [[], [], [1, 0], [2], [], [], [5, 4], [6], [3, 7], [8]]
  (fun i_ => ([.val (.int .i64 a), .val (.pointer (some ⟨b0, 102, none⟩)), .val (.pointer (some ⟨b0, 102 + (a).toNat, none⟩)), .val (.int .i16 (F.s ((a).toNat))), .val (.int .i64 b), .val (.pointer (some ⟨b0, 102, none⟩)), .val (.pointer (some ⟨b0, 102 + (b).toNat, none⟩)), .val (.int .i16 (F.s ((b).toNat))), .val (.bool (decide ((F.s ((b).toNat)) < F.s ((a).toNat)))), .val (.bool (decide ((F.s ((b).toNat)) < F.s ((a).toNat))))] : List Fct).getD i_ .any)
  (by kernel_rfl) (by kernel_rfl) (by decide) (by simp) rfl (all_succ (all_succ (all_succ (all_succ (all_succ (all_succ (all_succ (all_succ (all_succ (all_succ all_zero ?_) ?_) ?_) ?_) ?_) ?_) ?_) ?_) ?_) ?_) ?_
 · refine step0 rfl rfl rfl (fun wr hw => ?_)
   exact OpRun.val (.int .i64 a) (.int .i64 a) (by kernel_rfl) rfl ⟨Ext.refl _, rfl⟩
 · refine step0 rfl rfl rfl (fun wr hw => ?_)
   exact OpRun.val (.pointer (some ⟨b0, 102, none⟩)) (.pointer (some ⟨b0, 102, none⟩)) (by kernel_rfl) rfl ⟨Ext.refl _, rfl⟩
 · refine step2 rfl rfl rfl rfl rfl (fun u0 u1 wr hw h0 h1 => ?_)
   cases h0
   cases h1
   exact OpRun.ixa (i := a) (k := .i64) (g := b0) (off := 102) arrt__100_int16 rfl (by kernel_rfl) (by kernel_rfl) (by omega) (by omega) ⟨Ext.refl _, rfl⟩
 · refine step1 rfl rfl rfl rfl (fun u0 wr hw h0 => ?_)
   cases h0
   exact OpRun.cell (g := b0) (off := 102 + (a).toNat) (v := .int .i16 (F.s ((a).toNat))) scal_int16 rfl (by kernel_rfl) ((hb0.ext hw).get (Fld.gets _ _ (by omega))) ⟨Ext.refl _, rfl⟩
 · refine step0 rfl rfl rfl (fun wr hw => ?_)
   exact OpRun.val (.int .i64 b) (.int .i64 b) (by kernel_rfl) rfl ⟨Ext.refl _, rfl⟩
 · refine step0 rfl rfl rfl (fun wr hw => ?_)
   exact OpRun.val (.pointer (some ⟨b0, 102, none⟩)) (.pointer (some ⟨b0, 102, none⟩)) (by kernel_rfl) rfl ⟨Ext.refl _, rfl⟩
 · refine step2 rfl rfl rfl rfl rfl (fun u0 u1 wr hw h0 h1 => ?_)
   cases h0
   cases h1
   exact OpRun.ixa (i := b) (k := .i64) (g := b0) (off := 102) arrt__100_int16 rfl (by kernel_rfl) (by kernel_rfl) (by omega) (by omega) ⟨Ext.refl _, rfl⟩
 · refine step1 rfl rfl rfl rfl (fun u0 wr hw h0 => ?_)
   cases h0
   exact OpRun.cell (g := b0) (off := 102 + (b).toNat) (v := .int .i16 (F.s ((b).toNat))) scal_int16 rfl (by kernel_rfl) ((hb0.ext hw).get (Fld.gets _ _ (by omega))) ⟨Ext.refl _, rfl⟩
 · refine step2 rfl rfl rfl rfl rfl (fun u0 u1 wr hw h0 h1 => ?_)
   cases h0
   cases h1
   exact OpRun.val (.bool (decide ((F.s ((b).toNat)) < F.s ((a).toNat)))) (.bool (decide ((F.s ((b).toNat)) < F.s ((a).toNat)))) (by kernel_rfl) rfl ⟨Ext.refl _, rfl⟩
 · refine step1 rfl rfl rfl rfl (fun u0 wr hw h0 => ?_)
   cases h0
   exact OpRun.val (.bool (decide ((F.s ((b).toNat)) < F.s ((a).toNat)))) (.bool (decide ((F.s ((b).toNat)) < F.s ((a).toNat)))) (by kernel_rfl) rfl ⟨Ext.refl _, rfl⟩
 refine end10 (fun u0 u1 u2 u3 u4 u5 u6 u7 u8 u9 w1 E1 f0 f1 f2 f3 f4 f5 f6 f7 f8 f9 => ?_)
 cases f0
 cases f1
 cases f2
 cases f3
 cases f4
 cases f5
 cases f6
 cases f7
 cases f8
 cases f9
 refine wpList_nil (then_normal ?_)
 refine wp_ret ?_
 have H1 := (Ext.refl w).trans E1
 refine ret1 (.bool (decide (F.s b.toNat < F.s a.toNat))) rfl ?_ rfl ?_
 · refine (resT (v := .bool (decide ((F.s ((b).toNat)) < F.s ((a).toNat)))) (by kernel_rfl)).trans ?_
   refine congrArg Value.bool ?_
   rfl
 exact ⟨rfl, H1⟩


--# nearest_any
theorem nearest_any (F : Fld) (hF : F.wf) (b : Nat) (t : TypeId) (o : Int) (x y : Int) (ho : 0 ≤ o ∧ o ≤ 99) (w : World) (hb : Blk w b t F.cells) :
 Calls Try.prog 78 #[.pointer (some ⟨b, 0, none⟩), .int .i64 o, .agg #[.int .u64 x, .int .u64 y]] w fun e w' => e = .returned (.int .i64 (nearC F o x y)) ∧ Ext w w' := by
 refine calls_of_wp Try.func78 rfl ?_
 refine wp_frame (a' := ⟨#[.pointer (some ⟨b, 0, none⟩), .int .i64 o, .agg #[.int .u64 x, .int .u64 y], undef, undef, undef, undef, undef, undef, undef, undef], []⟩) (by kernel_rfl) ?_
 refine wsr ?_
 refine wboxv (.int .i64 o) ?_
 intro g1 w1 B1 E1 _
 refine wbox #[.int .u64 x, .int .u64 y] ?_
 intro g2 w2 B2 E2 _
 refine wv (.int .i64 0) ?_
 refine wpList_nil (then_normal ?_)
 refine wsr ?_
 refine wv (.pointer (some ⟨b, 0, none⟩)) ?_
 refine wrow row_impl_Cells B2 (by rfl) ?_
 refine wv (.func (.func 104) #[] #[.pointer (some ⟨g1, 0, none⟩)]) ?_
 replace hb := (hb.ext E1).ext E2
 replace B1 := B1.ext E2
 refine wcl (first_any F hF b _ x y (.func (.func 104) #[] #[.pointer (some ⟨g1, 0, none⟩)]) 104 (fun a_ b_ => #[.int .i64 a_, .int .i64 b_, .pointer (some ⟨g1, 0, none⟩)]) (fun a_ b_ => decide (sqr o a_ < sqr o b_)) (fun _ _ _ => by kernel_rfl) _ hb (fun a_ b_ _ Ia_ Ib_ E_ => by have Ja_ := isB_true.1 Ia_; have Jb_ := isB_true.1 Ib_; exact nearest1_any a_ b_ (by omega) (by omega) o g1 _ (by omega) _ (B1.ext E_))) ?_
 intro w3 E3
 refine wv (.int .i64 (firstC F x y (fun a_ b_ => decide (sqr o a_ < sqr o b_)) 100)) ?_
 refine wpList_nil (then_normal ?_)
 refine wp_ret ?_
 have H1 := (((Ext.refl w).trans E1).trans E2).trans E3
 refine ret1 (.int .i64 (nearC F o x y)) rfl ?_ rfl ?_
 · refine (resT (v := .int .i64 (firstC F x y (fun a_ b_ => decide (sqr o a_ < sqr o b_)) 100)) (by kernel_rfl)).trans ?_
   refine congrArg (Value.int _) ?_
   unfold nearC; rfl
 exact ⟨rfl, H1⟩


--# l01Nearest_any
theorem l01Nearest_any (F : Fld) (hF : F.wf) (b : Nat) (t : TypeId) (o : Int) (x y : Int) (b2 : Nat) (t2 : TypeId) (ho : 0 ≤ o ∧ o ≤ 99) (w : World) (hb : Blk w b t F.cells) (hb2 : Blk w b2 t2 #[.int .u64 x, .int .u64 y]) :
 Calls Try.prog 81 #[.pointer (some ⟨b, 0, none⟩), .int .i64 o, .pointer (some ⟨b2, 0, none⟩)] w fun e w' => e = .returned (.int .i64 (nearC F o x y)) ∧ Ext w w' := by
 refine calls_of_wp Try.func81 rfl ?_
 refine wp_frame (a' := ⟨#[.pointer (some ⟨b, 0, none⟩), .int .i64 o, .pointer (some ⟨b2, 0, none⟩), undef, undef, undef, undef, undef, undef, undef, undef, undef, undef, undef, undef, undef, undef, undef, undef, undef, undef, undef, undef, undef, undef, undef, undef, undef, undef, undef, undef, undef, undef, undef, undef, undef], []⟩) (by kernel_rfl) ?_
 refine wsr ?_
 refine wv (.int .i64 0) ?_
 refine wpList_nil (then_normal ?_)
 refine wsr ?_
 refine wv (.int .i64 (-1)) ?_
 refine wpList_nil (then_normal ?_)
 refine wp_seq ?_
 refine wsr ?_
 refine wv (.int .i64 0) ?_
 refine wpList_nil (then_normal ?_)
 refine wp_block ?_
 refine wp_loop_k (fun m1 a wl1 => ∃ (i : Nat) (best : Int), m1 = 100 - i ∧ i ≤ 100 ∧ best = firstC F x y (fun a b => decide (sqr o a < sqr o b)) i ∧ Ext w wl1 ∧ Blk wl1 b t F.cells ∧ Blk wl1 b2 t2 #[.int .u64 x, .int .u64 y] ∧ (∃ J1 : Nat → Value, a = ⟨#[.pointer (some ⟨b, 0, none⟩), .int .i64 o, .pointer (some ⟨b2, 0, none⟩), undef, undef, undef, .int .i64 0, .int .i64 best, .int .i64 (i : Int), J1 9, J1 10, J1 11, J1 12, J1 13, J1 14, J1 15, J1 16, J1 17, J1 18, J1 19, J1 20, J1 21, J1 22, J1 23, J1 24, J1 25, J1 26, J1 27, J1 28, J1 29, J1 30, J1 31, J1 32, J1 33, J1 34, undef], []⟩)) (100) ?_ ?_
 · refine ⟨0, (-1), rfl, ?_, ?_, (Ext.refl w), hb, hb2, exJ (by kernel_rfl)⟩
   · omega
   · exact firstC_0
 intro m1 a wl1 hI
 obtain ⟨i, best, rfl, hi_, hb_, HL1, hb, hb2, J1, rfl⟩ := hI
 have hbi_ := firstC_is hb_
 have hbn_ := is_in hbi_
 refine wp_seq ?_
 refine wsr ?_
 refine wv (.int .i64 (i : Int)) ?_
 refine wv (.bool (decide ((i : Int) < 100))) ?_
 refine wpList_nil (then_normal ?_)
 refine wsplit (decide ((i : Int) < 100)) (fun h1 => ?_) (fun h1 => ?_)
 · skip
   have h1d := dT h1
   refine wp_skip ?_
   refine then_normal ?_
   refine wp_seq ?_
   refine wp_block ?_
   refine wsr ?_
   refine wv (.pointer (some ⟨b, 0, none⟩)) ?_
   refine wv (.int .i64 (i : Int)) ?_
   refine wcl (l01Is_any F hF b _ (i : Int) _ hb) ?_
   intro w1 E1
   refine wv (.bool (isB F (i : Int))) ?_
   refine split_bool (isB F (i : Int)) (fun h2 => ?_) (fun h2 => ?_)
   · skip
     refine wbl 16 true h2 ?_
     have h2d := isB_true.1 h2
     refine wv (.pointer (some ⟨b2, 0, none⟩)) ?_
     refine wv (.int .i64 (i : Int)) ?_
     replace hb2 := hb2.ext E1
     refine wcl (l01Has_any x y b2 _ (i : Int) _ hb2) ?_
     intro w2 E2
     refine wv (.bool (hasB x y (i : Int))) ?_
     refine wv (.bool (hasB x y (i : Int))) ?_
     have H1 := (HL1.trans E1).trans E2
     refine split_bool (hasB x y (i : Int)) (fun h3 => ?_) (fun h3 => ?_)
     · skip
       refine wbl 21 true h3 ?_
       refine wv (.int .i64 best) ?_
       refine wv (.bool (decide (best < 0))) ?_
       refine wv (.bool (decide (best < 0))) ?_
       refine split_bool (decide (best < 0)) (fun h4 => ?_) (fun h4 => ?_)
       · skip
         refine wbl 24 true h4 ?_
         have h4d := dT h4
         refine wsk ?_
         refine wsk ?_
         refine wsk ?_
         refine wsk ?_
         refine wsk ?_
         refine wsk ?_
         refine wsk ?_
         refine wv (.bool true) ?_
         refine wv (.bool true) ?_
         refine wpList_nil (then_normal ?_)
         refine wct ?_
         refine wp_region_lit ?_
         refine wv (.int .i64 (i : Int)) ?_
         refine wv (.int .i64 (i : Int)) ?_
         refine wpList_nil (block_normal (then_normal ?_))
         refine wp_region_lit ?_
         refine wv (.int .i64 (i : Int)) ?_
         refine wi64 ((i : Int) + 1) ?_
         refine wv (.int .i64 ((i : Int) + 1)) ?_
         refine wpList_nil (then_normal ?_)
         replace hb := (hb.ext E1).ext E2
         replace hb2 := hb2.ext E2
         refine ⟨_, ?_, i + 1, (i : Int), rfl, ?_, ?_, H1, hb, hb2, exJ (by kernel_rfl)⟩
         · omega
         · omega
         · first | exact firstC_n hb_ (by assumption) | exact firstC_h hb_ (by assumption) (by assumption) | exact firstC_b hb_ (by assumption) (by assumption) (by omega) | exact firstC_t hb_ (by assumption) (by assumption) (decide_eq_true (by omega)) | exact firstC_f hb_ (by assumption) (by omega) (decide_eq_false (by omega))
       · skip
         refine wbl 24 false h4 ?_
         have h4d := dF h4
         refine wv (.int .i64 o) ?_
         refine wv (.int .i64 (i : Int)) ?_
         refine wcl (l01Square_any o (i : Int) (by omega) (by omega) _) ?_
         intro w3 E3
         refine wv (.int .i64 o) ?_
         refine wv (.int .i64 best) ?_
         refine wcl (l01Square_any o best (by omega) (by omega) _) ?_
         intro w4 E4
         refine wv (.bool (decide ((sqr o (i : Int)) < sqr o best))) ?_
         refine wv (.bool (decide ((sqr o (i : Int)) < sqr o best))) ?_
         refine wv (.bool (decide ((sqr o (i : Int)) < sqr o best))) ?_
         refine wpList_nil (then_normal ?_)
         have H2 := (H1.trans E3).trans E4
         refine wsplit (decide ((sqr o (i : Int)) < sqr o best)) (fun h5 => ?_) (fun h5 => ?_)
         · skip
           have h5d := dT h5
           refine wp_region_lit ?_
           refine wv (.int .i64 (i : Int)) ?_
           refine wv (.int .i64 (i : Int)) ?_
           refine wpList_nil (block_normal (then_normal ?_))
           refine wp_region_lit ?_
           refine wv (.int .i64 (i : Int)) ?_
           refine wi64 ((i : Int) + 1) ?_
           refine wv (.int .i64 ((i : Int) + 1)) ?_
           refine wpList_nil (then_normal ?_)
           replace hb := (((hb.ext E1).ext E2).ext E3).ext E4
           replace hb2 := ((hb2.ext E2).ext E3).ext E4
           refine ⟨_, ?_, i + 1, (i : Int), rfl, ?_, ?_, H2, hb, hb2, exJ (by kernel_rfl)⟩
           · omega
           · omega
           · first | exact firstC_n hb_ (by assumption) | exact firstC_h hb_ (by assumption) (by assumption) | exact firstC_b hb_ (by assumption) (by assumption) (by omega) | exact firstC_t hb_ (by assumption) (by assumption) (decide_eq_true (by omega)) | exact firstC_f hb_ (by assumption) (by omega) (decide_eq_false (by omega))
         · skip
           have h5d := dF h5
           refine wp_skip ?_
           refine block_normal (then_normal ?_)
           refine wp_region_lit ?_
           refine wv (.int .i64 (i : Int)) ?_
           refine wi64 ((i : Int) + 1) ?_
           refine wv (.int .i64 ((i : Int) + 1)) ?_
           refine wpList_nil (then_normal ?_)
           replace hb := (((hb.ext E1).ext E2).ext E3).ext E4
           replace hb2 := ((hb2.ext E2).ext E3).ext E4
           refine ⟨_, ?_, i + 1, best, rfl, ?_, ?_, H2, hb, hb2, exJ (by kernel_rfl)⟩
           · omega
           · omega
           · first | exact firstC_n hb_ (by assumption) | exact firstC_h hb_ (by assumption) (by assumption) | exact firstC_b hb_ (by assumption) (by assumption) (by omega) | exact firstC_t hb_ (by assumption) (by assumption) (decide_eq_true (by omega)) | exact firstC_f hb_ (by assumption) (by omega) (decide_eq_false (by omega))
     · skip
       refine wbl 21 false h3 ?_
       refine wsk ?_
       refine wsk ?_
       refine wsk ?_
       refine wsk ?_
       refine wsk ?_
       refine wsk ?_
       refine wsk ?_
       refine wsk ?_
       refine wsk ?_
       refine wsk ?_
       refine wsk ?_
       refine wv (.bool false) ?_
       refine wpList_nil (then_normal ?_)
       refine wcf ?_
       refine wp_skip ?_
       refine block_normal (then_normal ?_)
       refine wp_region_lit ?_
       refine wv (.int .i64 (i : Int)) ?_
       refine wi64 ((i : Int) + 1) ?_
       refine wv (.int .i64 ((i : Int) + 1)) ?_
       refine wpList_nil (then_normal ?_)
       replace hb := (hb.ext E1).ext E2
       replace hb2 := hb2.ext E2
       refine ⟨_, ?_, i + 1, best, rfl, ?_, ?_, H1, hb, hb2, exJ (by kernel_rfl)⟩
       · omega
       · omega
       · first | exact firstC_n hb_ (by assumption) | exact firstC_h hb_ (by assumption) (by assumption) | exact firstC_b hb_ (by assumption) (by assumption) (by omega) | exact firstC_t hb_ (by assumption) (by assumption) (decide_eq_true (by omega)) | exact firstC_f hb_ (by assumption) (by omega) (decide_eq_false (by omega))
   · skip
     refine wbl 16 false h2 ?_
     refine wsk ?_
     refine wsk ?_
     refine wsk ?_
     refine wv (.bool false) ?_
     refine wv (.bool false) ?_
     refine wsk ?_
     refine wsk ?_
     refine wsk ?_
     refine wsk ?_
     refine wsk ?_
     refine wsk ?_
     refine wsk ?_
     refine wsk ?_
     refine wsk ?_
     refine wsk ?_
     refine wsk ?_
     refine wv (.bool false) ?_
     refine wpList_nil (then_normal ?_)
     refine wcf ?_
     refine wp_skip ?_
     refine block_normal (then_normal ?_)
     refine wp_region_lit ?_
     refine wv (.int .i64 (i : Int)) ?_
     refine wi64 ((i : Int) + 1) ?_
     refine wv (.int .i64 ((i : Int) + 1)) ?_
     refine wpList_nil (then_normal ?_)
     replace hb := hb.ext E1
     replace hb2 := hb2.ext E1
     have H3 := HL1.trans E1
     refine ⟨_, ?_, i + 1, best, rfl, ?_, ?_, H3, hb, hb2, exJ (by kernel_rfl)⟩
     · omega
     · omega
     · first | exact firstC_n hb_ (by assumption) | exact firstC_h hb_ (by assumption) (by assumption) | exact firstC_b hb_ (by assumption) (by assumption) (by omega) | exact firstC_t hb_ (by assumption) (by assumption) (decide_eq_true (by omega)) | exact firstC_f hb_ (by assumption) (by omega) (decide_eq_false (by omega))
 · skip
   have h1d := dF h1
   refine wp_exit ?_
   refine then_exit ?_
   refine then_exit ?_
   refine block_exit ?_
   refine then_normal ?_
   refine wsr ?_
   refine wv (.int .i64 best) ?_
   refine wv (.int .i64 best) ?_
   refine wpList_nil (then_normal ?_)
   refine wp_ret ?_
   refine ret1 (.int .i64 (nearC F o x y)) rfl ?_ rfl ?_
   · refine (resT (v := .int .i64 best) (by kernel_rfl)).trans ?_
     refine congrArg (Value.int _) ?_
     unfold nearC; exact firstC_end hb_ (by omega) (by omega)
   exact ⟨rfl, HL1⟩


--# sNearestIn_any
theorem sNearestIn_any (F : Fld) (hF : F.wf) (c : Int) (x y : Int) (w : World) :
 Calls Try.prog 40 #[.agg F.cells, .int .i64 c, .agg #[.int .u64 x, .int .u64 y]] w fun e w' => e = .returned (.tuple #[.int .i64 (near0 F c x y), .int .i64 (near1 F c x y), .int .i64 (near2 F c x y)]) ∧ Ext w w' := by
 refine calls_of_wp Try.func40 rfl ?_
 refine wp_frame (a' := ⟨#[.agg F.cells, .int .i64 c, .agg #[.int .u64 x, .int .u64 y], undef, undef, undef, undef, undef, undef, undef, undef, undef, undef, undef, undef, undef, undef, undef, undef, undef, undef, undef, undef, undef], []⟩) (by kernel_rfl) ?_
 refine wsr ?_
 refine wbox F.cells ?_
 intro g1 w1 B1 E1 _
 refine wbox #[.int .u64 x, .int .u64 y] ?_
 intro g2 w2 B2 E2 _
 refine wv (.int .i64 0) ?_
 refine wv (.int .i64 0) ?_
 refine wv (.int .i64 0) ?_
 refine wpList_nil (then_normal ?_)
 refine wp_seq ?_
 refine wsr ?_
 refine wv (.int .i64 c) ?_
 replace B1 := B1.ext E2
 refine wcl (l01Asked_any F hF g1 _ c true (isB F c) (Bool.and_true _) _ B1) ?_
 intro w3 E3
 refine wv (.int .i64 (code F (isB F c))) ?_
 refine wpList_nil (then_normal ?_)
 refine wsr ?_
 refine wv (.int .i64 (code F (isB F c))) ?_
 refine wv (.bool ((code F (isB F c)) != 0)) ?_
 refine wpList_nil (then_normal ?_)
 have H1 := (((Ext.refl w).trans E1).trans E2).trans E3
 refine wsplit ((code F (isB F c)) != 0) (fun h1 => ?_) (fun h1 => ?_)
 · skip
   have h1d := nT h1
   refine wsr ?_
   refine wv (.int .i64 (code F (isB F c))) ?_
   refine wv (.int .i64 0) ?_
   refine wv (.int .i64 0) ?_
   refine wv (.int .i64 (code F (isB F c))) ?_
   refine wpList_nil (then_normal ?_)
   refine wp_ret ?_
   refine then_ret ?_
   refine ret3 (.int .i64 (near0 F c x y)) (.int .i64 (near1 F c x y)) (.int .i64 (near2 F c x y)) rfl ?_ ?_ ?_ rfl ?_
   · refine (resT (v := .int .i64 0) (by kernel_rfl)).trans ?_
     refine congrArg (Value.int _) ?_
     unfold near0; first | rw [if_neg (by first | assumption | (simp [*]; done) | omega)] | rw [if_pos (by first | assumption | omega), if_pos (by omega)] | rw [if_pos (by first | assumption | omega), if_neg (by omega)]
   · refine (resT (v := .int .i64 0) (by kernel_rfl)).trans ?_
     refine congrArg (Value.int _) ?_
     unfold near1; first | rw [if_neg (by first | assumption | (simp [*]; done) | omega)] | rw [if_pos (by first | assumption | omega), if_pos (by omega)] | rw [if_pos (by first | assumption | omega), if_neg (by omega)]
   · refine (resT (v := .int .i64 (code F (isB F c))) (by kernel_rfl)).trans ?_
     refine congrArg (Value.int _) ?_
     unfold near2; first | rw [if_neg (by first | assumption | (simp [*]; done) | omega)] | rw [if_pos (by first | assumption | omega), if_pos (by omega)] | rw [if_pos (by first | assumption | omega), if_neg (by omega)]
   exact ⟨rfl, H1⟩
 · skip
   have h1d := nF h1
   have h1o := (code_zero h1d).1
   have h1z := (code_zero h1d).2
   have h1zd := isB_true.1 h1z
   refine wp_skip ?_
   refine then_normal ?_
   refine wsr ?_
   refine wv (.int .i64 c) ?_
   replace B1 := B1.ext E3
   replace B2 := B2.ext E3
   refine wcl (l01Nearest_any F hF g1 _ c x y g2 _ (by omega) _ B1 B2) ?_
   intro w4 E4
   have nc1 := nearC_in F c x y
   refine wv (.int .i64 (nearC F c x y)) ?_
   refine wpList_nil (then_normal ?_)
   refine wp_seq ?_
   refine wsr ?_
   refine wv (.int .i64 (nearC F c x y)) ?_
   refine wv (.bool (decide ((nearC F c x y) < 0))) ?_
   refine wpList_nil (then_normal ?_)
   refine wsplit (decide ((nearC F c x y) < 0)) (fun h2 => ?_) (fun h2 => ?_)
   · skip
     have h2d := dT h2
     refine wsr ?_
     refine wv (.int .i64 0) ?_
     refine wv (.int .i64 0) ?_
     refine wv (.int .i64 6) ?_
     refine wpList_nil (then_normal ?_)
     refine wp_ret ?_
     refine then_ret ?_
     have H2 := H1.trans E4
     refine ret3 (.int .i64 (near0 F c x y)) (.int .i64 (near1 F c x y)) (.int .i64 (near2 F c x y)) rfl ?_ ?_ ?_ rfl ?_
     · refine (resT (v := .int .i64 0) (by kernel_rfl)).trans ?_
       refine congrArg (Value.int _) ?_
       unfold near0; first | rw [if_neg (by first | assumption | (simp [*]; done) | omega)] | rw [if_pos (by first | assumption | omega), if_pos (by omega)] | rw [if_pos (by first | assumption | omega), if_neg (by omega)]
     · refine (resT (v := .int .i64 0) (by kernel_rfl)).trans ?_
       refine congrArg (Value.int _) ?_
       unfold near1; first | rw [if_neg (by first | assumption | (simp [*]; done) | omega)] | rw [if_pos (by first | assumption | omega), if_pos (by omega)] | rw [if_pos (by first | assumption | omega), if_neg (by omega)]
     · refine (resT (v := .int .i64 6) (by kernel_rfl)).trans ?_
       refine congrArg (Value.int _) ?_
       unfold near2; first | rw [if_neg (by first | assumption | (simp [*]; done) | omega)] | rw [if_pos (by first | assumption | omega), if_pos (by omega)] | rw [if_pos (by first | assumption | omega), if_neg (by omega)]
     exact ⟨rfl, H2⟩
   · skip
     have h2d := dF h2
     refine wp_skip ?_
     refine then_normal ?_
     refine wsr ?_
     refine wv (.int .i64 (nearC F c x y)) ?_
     refine wv (.int .i64 c) ?_
     refine wv (.int .i64 (nearC F c x y)) ?_
     refine wcl (l01Square_any c (nearC F c x y) (by omega) (by omega) _) ?_
     intro w5 E5
     refine wv (.int .i64 (nearC F c x y)) ?_
     refine wv (.int .i64 (sqr c (nearC F c x y))) ?_
     refine wv (.int .i64 0) ?_
     refine wpList_nil (then_normal ?_)
     refine wp_ret ?_
     have H3 := (H1.trans E4).trans E5
     refine ret3 (.int .i64 (near0 F c x y)) (.int .i64 (near1 F c x y)) (.int .i64 (near2 F c x y)) rfl ?_ ?_ ?_ rfl ?_
     · refine (resT (v := .int .i64 (nearC F c x y)) (by kernel_rfl)).trans ?_
       refine congrArg (Value.int _) ?_
       unfold near0; first | rw [if_neg (by first | assumption | (simp [*]; done) | omega)] | rw [if_pos (by first | assumption | omega), if_pos (by omega)] | rw [if_pos (by first | assumption | omega), if_neg (by omega)]
     · refine (resT (v := .int .i64 (sqr c (nearC F c x y))) (by kernel_rfl)).trans ?_
       refine congrArg (Value.int _) ?_
       unfold near1; first | rw [if_neg (by first | assumption | (simp [*]; done) | omega)] | rw [if_pos (by first | assumption | omega), if_pos (by omega)] | rw [if_pos (by first | assumption | omega), if_neg (by omega)]
     · refine (resT (v := .int .i64 0) (by kernel_rfl)).trans ?_
       refine congrArg (Value.int _) ?_
       unfold near2; first | rw [if_neg (by first | assumption | (simp [*]; done) | omega)] | rw [if_pos (by first | assumption | omega), if_pos (by omega)] | rw [if_pos (by first | assumption | omega), if_neg (by omega)]
     exact ⟨rfl, H3⟩


--# iNearestIn_any
theorem iNearestIn_any (F : Fld) (hF : F.wf) (c : Int) (x y : Int) (w : World) :
 Calls Try.prog 39 #[.agg F.cells, .int .i64 c, .agg #[.int .u64 x, .int .u64 y]] w fun e w' => e = .returned (.tuple #[.int .i64 (near0 F c x y), .int .i64 (near1 F c x y), .int .i64 (near2 F c x y)]) ∧ Ext w w' := by
 refine calls_of_wp Try.func39 rfl ?_
 refine wp_frame (a' := ⟨#[.agg F.cells, .int .i64 c, .agg #[.int .u64 x, .int .u64 y], undef, undef, undef, undef, undef, undef, undef, undef, undef, undef, undef, undef, undef, undef, undef, undef, undef, undef, undef, undef, undef, undef], []⟩) (by kernel_rfl) ?_
 refine wsr ?_
 refine wbox F.cells ?_
 intro g1 w1 B1 E1 _
 refine wboxv (.int .i64 c) ?_
 intro g2 w2 B2 E2 _
 refine wbox #[.int .u64 x, .int .u64 y] ?_
 intro g3 w3 B3 E3 _
 refine wv (.int .i64 0) ?_
 refine wv (.int .i64 0) ?_
 refine wv (.int .i64 0) ?_
 refine wpList_nil (then_normal ?_)
 refine wp_seq ?_
 refine wsr ?_
 refine wv (.func (.func 76) #[] #[.pointer (some ⟨g1, 0, none⟩), .pointer (some ⟨g2, 0, none⟩)]) ?_
 replace B1 := (B1.ext E2).ext E3
 replace B2 := B2.ext E3
 refine wcl (fieldCode_any F hF g1 _ (.func (.func 76) #[] #[.pointer (some ⟨g1, 0, none⟩), .pointer (some ⟨g2, 0, none⟩)]) 76 #[.pointer (some ⟨g1, 0, none⟩), .pointer (some ⟨g2, 0, none⟩)] (fun _ => by kernel_rfl) (isB F c) _ B1 (fun _ E_ => NearestIn1_any F hF g1 _ c g2 _ _ (B1.ext E_) (B2.ext E_))) ?_
 intro w4 E4
 refine wv (.int .i64 (code F (isB F c))) ?_
 refine wpList_nil (then_normal ?_)
 refine wsr ?_
 refine wv (.int .i64 (code F (isB F c))) ?_
 refine wv (.bool ((code F (isB F c)) != 0)) ?_
 refine wpList_nil (then_normal ?_)
 have H1 := ((((Ext.refl w).trans E1).trans E2).trans E3).trans E4
 refine wsplit ((code F (isB F c)) != 0) (fun h1 => ?_) (fun h1 => ?_)
 · skip
   have h1d := nT h1
   refine wsr ?_
   refine wv (.int .i64 (code F (isB F c))) ?_
   refine wv (.int .i64 0) ?_
   refine wv (.int .i64 0) ?_
   refine wv (.int .i64 (code F (isB F c))) ?_
   refine wpList_nil (then_normal ?_)
   refine wp_ret ?_
   refine then_ret ?_
   refine ret3 (.int .i64 (near0 F c x y)) (.int .i64 (near1 F c x y)) (.int .i64 (near2 F c x y)) rfl ?_ ?_ ?_ rfl ?_
   · refine (resT (v := .int .i64 0) (by kernel_rfl)).trans ?_
     refine congrArg (Value.int _) ?_
     unfold near0; first | rw [if_neg (by first | assumption | (simp [*]; done) | omega)] | rw [if_pos (by first | assumption | omega), if_pos (by omega)] | rw [if_pos (by first | assumption | omega), if_neg (by omega)]
   · refine (resT (v := .int .i64 0) (by kernel_rfl)).trans ?_
     refine congrArg (Value.int _) ?_
     unfold near1; first | rw [if_neg (by first | assumption | (simp [*]; done) | omega)] | rw [if_pos (by first | assumption | omega), if_pos (by omega)] | rw [if_pos (by first | assumption | omega), if_neg (by omega)]
   · refine (resT (v := .int .i64 (code F (isB F c))) (by kernel_rfl)).trans ?_
     refine congrArg (Value.int _) ?_
     unfold near2; first | rw [if_neg (by first | assumption | (simp [*]; done) | omega)] | rw [if_pos (by first | assumption | omega), if_pos (by omega)] | rw [if_pos (by first | assumption | omega), if_neg (by omega)]
   exact ⟨rfl, H1⟩
 · skip
   have h1d := nF h1
   have h1o := (code_zero h1d).1
   have h1z := (code_zero h1d).2
   have h1zd := isB_true.1 h1z
   refine wp_skip ?_
   refine then_normal ?_
   refine wsr ?_
   replace B2 := B2.ext E4
   refine wld (v := .int .i64 c) g2 (0) scal_int64 (B2.get (rfl)) ?_
   replace B3 := B3.ext E4
   refine wrow row_impl_Cells B3 (by rfl) ?_
   replace B1 := B1.ext E4
   refine wcl (nearest_any F hF g1 _ c x y (by omega) _ B1) ?_
   intro w5 E5
   have nc1 := nearC_in F c x y
   refine wv (.int .i64 (nearC F c x y)) ?_
   refine wpList_nil (then_normal ?_)
   refine wp_seq ?_
   refine wsr ?_
   refine wv (.int .i64 (nearC F c x y)) ?_
   refine wv (.bool (decide ((nearC F c x y) < 0))) ?_
   refine wpList_nil (then_normal ?_)
   refine wsplit (decide ((nearC F c x y) < 0)) (fun h2 => ?_) (fun h2 => ?_)
   · skip
     have h2d := dT h2
     refine wsr ?_
     refine wv (.int .i64 0) ?_
     refine wv (.int .i64 0) ?_
     refine wv (.int .i64 6) ?_
     refine wpList_nil (then_normal ?_)
     refine wp_ret ?_
     refine then_ret ?_
     have H2 := H1.trans E5
     refine ret3 (.int .i64 (near0 F c x y)) (.int .i64 (near1 F c x y)) (.int .i64 (near2 F c x y)) rfl ?_ ?_ ?_ rfl ?_
     · refine (resT (v := .int .i64 0) (by kernel_rfl)).trans ?_
       refine congrArg (Value.int _) ?_
       unfold near0; first | rw [if_neg (by first | assumption | (simp [*]; done) | omega)] | rw [if_pos (by first | assumption | omega), if_pos (by omega)] | rw [if_pos (by first | assumption | omega), if_neg (by omega)]
     · refine (resT (v := .int .i64 0) (by kernel_rfl)).trans ?_
       refine congrArg (Value.int _) ?_
       unfold near1; first | rw [if_neg (by first | assumption | (simp [*]; done) | omega)] | rw [if_pos (by first | assumption | omega), if_pos (by omega)] | rw [if_pos (by first | assumption | omega), if_neg (by omega)]
     · refine (resT (v := .int .i64 6) (by kernel_rfl)).trans ?_
       refine congrArg (Value.int _) ?_
       unfold near2; first | rw [if_neg (by first | assumption | (simp [*]; done) | omega)] | rw [if_pos (by first | assumption | omega), if_pos (by omega)] | rw [if_pos (by first | assumption | omega), if_neg (by omega)]
     exact ⟨rfl, H2⟩
   · skip
     have h2d := dF h2
     refine wp_skip ?_
     refine then_normal ?_
     refine wsr ?_
     refine wv (.int .i64 (nearC F c x y)) ?_
     replace B2 := B2.ext E5
     refine wld (v := .int .i64 c) g2 (0) scal_int64 (B2.get (rfl)) ?_
     refine wv (.int .i64 (nearC F c x y)) ?_
     refine wcl (square_any c (nearC F c x y) (by omega) (by omega) _) ?_
     intro w6 E6
     refine wv (.int .i64 (nearC F c x y)) ?_
     refine wv (.int .i64 (sqr c (nearC F c x y))) ?_
     refine wv (.int .i64 0) ?_
     refine wpList_nil (then_normal ?_)
     refine wp_ret ?_
     have H3 := (H1.trans E5).trans E6
     refine ret3 (.int .i64 (near0 F c x y)) (.int .i64 (near1 F c x y)) (.int .i64 (near2 F c x y)) rfl ?_ ?_ ?_ rfl ?_
     · refine (resT (v := .int .i64 (nearC F c x y)) (by kernel_rfl)).trans ?_
       refine congrArg (Value.int _) ?_
       unfold near0; first | rw [if_neg (by first | assumption | (simp [*]; done) | omega)] | rw [if_pos (by first | assumption | omega), if_pos (by omega)] | rw [if_pos (by first | assumption | omega), if_neg (by omega)]
     · refine (resT (v := .int .i64 (sqr c (nearC F c x y))) (by kernel_rfl)).trans ?_
       refine congrArg (Value.int _) ?_
       unfold near1; first | rw [if_neg (by first | assumption | (simp [*]; done) | omega)] | rw [if_pos (by first | assumption | omega), if_pos (by omega)] | rw [if_pos (by first | assumption | omega), if_neg (by omega)]
     · refine (resT (v := .int .i64 0) (by kernel_rfl)).trans ?_
       refine congrArg (Value.int _) ?_
       unfold near2; first | rw [if_neg (by first | assumption | (simp [*]; done) | omega)] | rw [if_pos (by first | assumption | omega), if_pos (by omega)] | rw [if_pos (by first | assumption | omega), if_neg (by omega)]
     exact ⟨rfl, H3⟩


--# sRichestIn_any
theorem sRichestIn_any (F : Fld) (hF : F.wf) (x y : Int) (w : World) :
 Calls Try.prog 42 #[.agg F.cells, .agg #[.int .u64 x, .int .u64 y]] w fun e w' => e = .returned (.tuple #[.int .i64 (rich0 F x y), .int .i64 (rich1 F x y), .int .i64 (rich2 F x y)]) ∧ Ext w w' := by
 refine calls_of_wp Try.func42 rfl ?_
 refine wp_frame (a' := ⟨#[.agg F.cells, .agg #[.int .u64 x, .int .u64 y], undef, undef, undef, undef, undef, undef, undef, undef, undef, undef, undef, undef, undef, undef, undef, undef, undef, undef, undef, undef, undef, undef, undef, undef, undef, undef, undef, undef, undef, undef, undef, undef, undef, undef, undef, undef, undef, undef, undef, undef, undef, undef, undef], []⟩) (by kernel_rfl) ?_
 refine wsr ?_
 refine wbox F.cells ?_
 intro g1 w1 B1 E1 _
 refine wbox #[.int .u64 x, .int .u64 y] ?_
 intro g2 w2 B2 E2 _
 refine wv (.int .i64 0) ?_
 refine wv (.int .i64 0) ?_
 refine wv (.int .i64 0) ?_
 refine wpList_nil (then_normal ?_)
 refine wp_seq ?_
 refine wsr ?_
 replace B1 := B1.ext E2
 refine wcl (l01Ok_any F hF g1 _ _ B1) ?_
 intro w3 E3
 refine wv (.bool (!(okB F))) ?_
 refine wpList_nil (then_normal ?_)
 have H1 := (((Ext.refl w).trans E1).trans E2).trans E3
 refine wsplit (!(okB F)) (fun h1 => ?_) (fun h1 => ?_)
 · skip
   replace h1 := nbT h1
   refine wsr ?_
   refine wv (.int .i64 0) ?_
   refine wv (.int .i64 0) ?_
   refine wv (.int .i64 1) ?_
   refine wpList_nil (then_normal ?_)
   refine wp_ret ?_
   refine then_ret ?_
   refine ret3 (.int .i64 (rich0 F x y)) (.int .i64 (rich1 F x y)) (.int .i64 (rich2 F x y)) rfl ?_ ?_ ?_ rfl ?_
   · refine (resT (v := .int .i64 0) (by kernel_rfl)).trans ?_
     refine congrArg (Value.int _) ?_
     first | (have hz_ := firstC_end hb_ (by omega) (by omega)) | skip
     try (have hr_ : best = richC F x y := by rw [richC_eq]; exact hz_)
     try subst hr_
     unfold rich0; first | rw [if_neg (by first | assumption | (simp [*]; done) | omega)] | rw [if_pos (by first | assumption | omega), if_pos (by omega)] | rw [if_pos (by first | assumption | omega), if_neg (by omega)]
   · refine (resT (v := .int .i64 0) (by kernel_rfl)).trans ?_
     refine congrArg (Value.int _) ?_
     first | (have hz_ := firstC_end hb_ (by omega) (by omega)) | skip
     try (have hr_ : best = richC F x y := by rw [richC_eq]; exact hz_)
     try subst hr_
     unfold rich1; first | rw [if_neg (by first | assumption | (simp [*]; done) | omega)] | rw [if_pos (by first | assumption | omega), if_pos (by omega)] | rw [if_pos (by first | assumption | omega), if_neg (by omega)]
   · refine (resT (v := .int .i64 1) (by kernel_rfl)).trans ?_
     refine congrArg (Value.int _) ?_
     first | (have hz_ := firstC_end hb_ (by omega) (by omega)) | skip
     try (have hr_ : best = richC F x y := by rw [richC_eq]; exact hz_)
     try subst hr_
     unfold rich2; first | rw [if_neg (by first | assumption | (simp [*]; done) | omega)] | rw [if_pos (by first | assumption | omega), if_pos (by omega)] | rw [if_pos (by first | assumption | omega), if_neg (by omega)]
   exact ⟨rfl, H1⟩
 · skip
   replace h1 := nbF h1
   refine wp_skip ?_
   refine then_normal ?_
   refine wsr ?_
   refine wv (.int .i64 (-1)) ?_
   refine wpList_nil (then_normal ?_)
   refine wp_seq ?_
   refine wsr ?_
   refine wv (.int .i64 0) ?_
   refine wpList_nil (then_normal ?_)
   refine wp_block ?_
   replace B1 := B1.ext E3
   replace B2 := B2.ext E3
   refine wp_loop_k (fun m1 a wl1 => ∃ (i : Nat) (best : Int), m1 = 100 - i ∧ i ≤ 100 ∧ best = firstC F x y (fun a b => decide (F.s b.toNat < F.s a.toNat)) i ∧ Ext w wl1 ∧ Blk wl1 g1 44 F.cells ∧ Blk wl1 g2 33 #[.int .u64 x, .int .u64 y] ∧ (∃ J1 : Nat → Value, a = ⟨#[.agg F.cells, .agg #[.int .u64 x, .int .u64 y], .pointer (some ⟨g1, 0, none⟩), .pointer (some ⟨g2, 0, none⟩), .int .i64 0, .int .i64 0, .int .i64 0, .int .i64 best, .int .i64 (i : Int), .bool (okB F), .bool (!(okB F)), J1 11, J1 12, J1 13, J1 14, J1 15, J1 16, J1 17, J1 18, J1 19, J1 20, J1 21, J1 22, J1 23, J1 24, J1 25, J1 26, J1 27, J1 28, J1 29, J1 30, J1 31, J1 32, J1 33, J1 34, J1 35, J1 36, undef, undef, undef, undef, undef, undef, undef, undef], []⟩)) (100) ?_ ?_
   · refine ⟨0, (-1), rfl, ?_, ?_, H1, B1, B2, exJ (by kernel_rfl)⟩
     · omega
     · exact firstC_0
   intro m1 a wl1 hI
   obtain ⟨i, best, rfl, hi_, hb_, HL1, B1, B2, J1, rfl⟩ := hI
   have hbi_ := firstC_is hb_
   have hbn_ := is_in hbi_
   refine wp_seq ?_
   refine wsr ?_
   refine wv (.int .i64 (i : Int)) ?_
   refine wv (.bool (decide ((i : Int) < 100))) ?_
   refine wpList_nil (then_normal ?_)
   refine wsplit (decide ((i : Int) < 100)) (fun h2 => ?_) (fun h2 => ?_)
   · skip
     have h2d := dT h2
     refine wp_skip ?_
     refine then_normal ?_
     refine wp_seq ?_
     refine wp_block ?_
     refine wp_seq ?_
     refine wp_frame (a' := ⟨#[.agg F.cells, .agg #[.int .u64 x, .int .u64 y], .pointer (some ⟨g1, 0, none⟩), .pointer (some ⟨g2, 0, none⟩), .int .i64 0, .int .i64 0, .int .i64 0, .int .i64 best, .int .i64 (i : Int), .bool (okB F), .bool (!(okB F)), .int .i64 (i : Int), .bool (decide ((i : Int) < 100)), J1 13, J1 14, J1 15, J1 16, J1 17, J1 18, J1 19, J1 20, J1 21, J1 22, J1 23, J1 24, J1 25, J1 26, J1 27, J1 28, J1 29, J1 30, J1 31, J1 32, J1 33, J1 34, J1 35, J1 36, undef, undef, undef, undef, undef, undef, undef, undef], []⟩) (by kernel_rfl) ?_
     refine split_bool (isB F (i : Int)) (fun h3 => ?_) (fun h3 => ?_)
     · skip
       have h3d := isB_true.1 h3
       refine split_bool (hasB x y (i : Int)) (fun h4 => ?_) (fun h4 => ?_)
       · skip
         refine split_bool (decide (best < 0)) (fun h5 => ?_) (fun h5 => ?_)
         · skip
           have h5d := dT h5
           refine region_go 21 [15, 16, 17, 18, 19, 20, 21, 22, 23, 24, 25, 26, 27, 28, 29, 30, 31, 32, 33, 34, 35] [[], [0], [1], [2], [2, 3], [2, 4], [5], [6], [6, 7], [6, 8], [9], [9], [9, 11, 10], [9, 12], [9], [9], [9, 15, 14], [9, 16], [9, 13, 17], [6, 9, 18], [6, 19]]
            (fun i_ => ([.val (.int .i64 (i : Int)), .val (.bool true), .val (.bool true), .val (.int .i64 (i : Int)), .val (.bool true), .val (.bool true), .val (.bool true), .val (.int .i64 best), .val (.bool true), .val (.bool true), .val undef, .val undef, .val undef, .val undef, .val undef, .val undef, .val undef, .val undef, .val undef, .val (.bool true), .val (.bool true)] : List Fct).getD i_ .any)
            (by kernel_rfl) (by kernel_rfl) (by decide) (by simp) rfl (all_succ (all_succ (all_succ (all_succ (all_succ (all_succ (all_succ (all_succ (all_succ (all_succ (all_succ (all_succ (all_succ (all_succ (all_succ (all_succ (all_succ (all_succ (all_succ (all_succ (all_succ all_zero ?_) ?_) ?_) ?_) ?_) ?_) ?_) ?_) ?_) ?_) ?_) ?_) ?_) ?_) ?_) ?_) ?_) ?_) ?_) ?_) ?_) ?_
           · refine step0 rfl rfl rfl (fun wr hw => ?_)
             exact OpRun.val (.int .i64 (i : Int)) (.int .i64 (i : Int)) (by kernel_rfl) rfl ⟨Ext.refl _, rfl⟩
           · refine step1 rfl rfl rfl rfl (fun u0 wr hw h0 => ?_)
             cases h0
             exact OpRun.call 87 #[.pointer (some ⟨g1, 0, none⟩), .int .i64 (i : Int)] (by kernel_rfl) ((l01Is_any F hF g1 _ (i : Int) _ (B1.ext hw)).mono fun e w1 ⟨he, hb⟩ => ⟨_, he, hb, congrArg Value.bool h3⟩)
           · refine step1 rfl rfl rfl rfl (fun u0 wr hw h0 => ?_)
             cases h0
             exact OpRun.val (.bool true) (.bool true) (by kernel_rfl) rfl ⟨Ext.refl _, rfl⟩
           · refine gstep1 rfl rfl rfl rfl (fun u wr h => by cases h; rfl) (fun u0 wr hw h0 => ?_)
             cases h0
             exact OpRun.val (.int .i64 (i : Int)) (.int .i64 (i : Int)) (by kernel_rfl) rfl ⟨Ext.refl _, rfl⟩
           · refine gstep2 rfl rfl rfl rfl rfl (fun u wr h => by cases h; rfl) (fun u0 u1 wr hw h0 h1 => ?_)
             cases h0
             cases h1
             exact OpRun.call 65 #[.pointer (some ⟨g2, 0, none⟩), .int .i64 (i : Int)] (by kernel_rfl) ((l01Has_any x y g2 _ (i : Int) _ (B2.ext hw)).mono fun e w1 ⟨he, hb⟩ => ⟨_, he, hb, congrArg Value.bool h4⟩)
           · refine step2 rfl rfl rfl rfl rfl (fun u0 u1 wr hw h0 h1 => ?_)
             cases h0
             cases h1
             exact OpRun.val (.bool true) (.bool true) (by kernel_rfl) rfl ⟨Ext.refl _, rfl⟩
           · refine step1 rfl rfl rfl rfl (fun u0 wr hw h0 => ?_)
             cases h0
             exact OpRun.val (.bool true) (.bool true) (by kernel_rfl) rfl ⟨Ext.refl _, rfl⟩
           · refine gstep1 rfl rfl rfl rfl (fun u wr h => by cases h; rfl) (fun u0 wr hw h0 => ?_)
             cases h0
             exact OpRun.val (.int .i64 best) (.int .i64 best) (by kernel_rfl) rfl ⟨Ext.refl _, rfl⟩
           · refine gstep2 rfl rfl rfl rfl rfl (fun u wr h => by cases h; rfl) (fun u0 u1 wr hw h0 h1 => ?_)
             cases h0
             cases h1
             exact OpRun.val (.bool (decide (best < 0))) (.bool true) (by kernel_rfl) (congrArg Value.bool h5) ⟨Ext.refl _, rfl⟩
           · refine gstep2 rfl rfl rfl rfl rfl (fun u wr h => by cases h; rfl) (fun u0 u1 wr hw h0 h1 => ?_)
             cases h0
             cases h1
             exact OpRun.val (.bool true) (.bool true) (by kernel_rfl) rfl ⟨Ext.refl _, rfl⟩
           · refine skip_ rfl rfl rfl (fun u wr h => by cases h; rfl) (fun _ => rfl)
           · refine skip_ rfl rfl rfl (fun u wr h => by cases h; rfl) (fun _ => rfl)
           · refine skip_ rfl rfl rfl (fun u wr h => by cases h; rfl) (fun _ => rfl)
           · refine skip_ rfl rfl rfl (fun u wr h => by cases h; rfl) (fun _ => rfl)
           · refine skip_ rfl rfl rfl (fun u wr h => by cases h; rfl) (fun _ => rfl)
           · refine skip_ rfl rfl rfl (fun u wr h => by cases h; rfl) (fun _ => rfl)
           · refine skip_ rfl rfl rfl (fun u wr h => by cases h; rfl) (fun _ => rfl)
           · refine skip_ rfl rfl rfl (fun u wr h => by cases h; rfl) (fun _ => rfl)
           · refine skip_ rfl rfl rfl (fun u wr h => by cases h; rfl) (fun _ => rfl)
           · refine gstep3 rfl rfl rfl rfl rfl rfl (fun u wr h => by cases h; rfl) (fun u0 u1 u2 wr hw h0 h1 h2 => ?_)
             cases h0
             cases h1
             cases h2
             exact OpRun.val (.bool true) (.bool true) (by kernel_rfl) rfl ⟨Ext.refl _, rfl⟩
           · refine step2 rfl rfl rfl rfl rfl (fun u0 u1 wr hw h0 h1 => ?_)
             cases h0
             cases h1
             exact OpRun.val (.bool true) (.bool true) (by kernel_rfl) rfl ⟨Ext.refl _, rfl⟩
           refine end21 (fun u0 u1 u2 u3 u4 u5 u6 u7 u8 u9 u10 u11 u12 u13 u14 u15 u16 u17 u18 u19 u20 w4 E4 f0 f1 f2 f3 f4 f5 f6 f7 f8 f9 f10 f11 f12 f13 f14 f15 f16 f17 f18 f19 f20 => ?_)
           cases f0
           cases f1
           cases f2
           cases f3
           cases f4
           cases f5
           cases f6
           cases f7
           cases f8
           cases f9
           cases f10
           cases f11
           cases f12
           cases f13
           cases f14
           cases f15
           cases f16
           cases f17
           cases f18
           cases f19
           cases f20
           refine wpList_nil (then_normal ?_)
           refine wct ?_
           refine wp_region_lit ?_
           refine wv (.int .i64 (i : Int)) ?_
           refine wv (.int .i64 (i : Int)) ?_
           refine wpList_nil (block_normal (then_normal ?_))
           refine wp_region_lit ?_
           refine wv (.int .i64 (i : Int)) ?_
           refine wi64 ((i : Int) + 1) ?_
           refine wv (.int .i64 ((i : Int) + 1)) ?_
           refine wpList_nil (then_normal ?_)
           replace B1 := B1.ext E4
           replace B2 := B2.ext E4
           have H2 := HL1.trans E4
           refine ⟨_, ?_, i + 1, (i : Int), rfl, ?_, ?_, H2, B1, B2, exJ (by kernel_rfl)⟩
           · omega
           · omega
           · first | exact firstC_n hb_ (by assumption) | exact firstC_h hb_ (by assumption) (by assumption) | exact firstC_b hb_ (by assumption) (by assumption) (by omega) | exact firstC_t hb_ (by assumption) (by assumption) (decide_eq_true (by simp only [Int.toNat_natCast]; omega)) | exact firstC_f hb_ (by assumption) (by omega) (decide_eq_false (by simp only [Int.toNat_natCast]; omega))
         · skip
           have h5d := dF h5
           have ce1 := hF.s1 i (by omega)
           have ce2 := ok_cell h1 i (by omega)
           have ce3 := hF.s1 ((best).toNat) (by omega)
           have ce4 := ok_cell h1 ((best).toNat) (by omega)
           refine region_go 21 [15, 16, 17, 18, 19, 20, 21, 22, 23, 24, 25, 26, 27, 28, 29, 30, 31, 32, 33, 34, 35] [[], [0], [1], [2], [2, 3], [2, 4], [5], [6], [6, 7], [6, 8], [9], [9], [9, 11, 10], [9, 12], [9], [9], [9, 15, 14], [9, 16], [9, 13, 17], [6, 9, 18], [6, 19]]
            (fun i_ => ([.val (.int .i64 (i : Int)), .val (.bool true), .val (.bool true), .val (.int .i64 (i : Int)), .val (.bool true), .val (.bool true), .val (.bool true), .val (.int .i64 best), .val (.bool false), .val (.bool false), .val (.int .i64 (i : Int)), .val (.pointer (some ⟨g1, 102, none⟩)), .val (.pointer (some ⟨g1, 102 + i, none⟩)), .val (.int .i16 (F.s i)), .val (.int .i64 best), .val (.pointer (some ⟨g1, 102, none⟩)), .val (.pointer (some ⟨g1, 102 + (best).toNat, none⟩)), .val (.int .i16 (F.s ((best).toNat))), .val (.bool (decide ((F.s ((best).toNat)) < F.s i))), .val (.bool (decide ((F.s ((best).toNat)) < F.s i))), .val (.bool (decide ((F.s ((best).toNat)) < F.s i)))] : List Fct).getD i_ .any)
            (by kernel_rfl) (by kernel_rfl) (by decide) (by simp) rfl (all_succ (all_succ (all_succ (all_succ (all_succ (all_succ (all_succ (all_succ (all_succ (all_succ (all_succ (all_succ (all_succ (all_succ (all_succ (all_succ (all_succ (all_succ (all_succ (all_succ (all_succ all_zero ?_) ?_) ?_) ?_) ?_) ?_) ?_) ?_) ?_) ?_) ?_) ?_) ?_) ?_) ?_) ?_) ?_) ?_) ?_) ?_) ?_) ?_
           · refine step0 rfl rfl rfl (fun wr hw => ?_)
             exact OpRun.val (.int .i64 (i : Int)) (.int .i64 (i : Int)) (by kernel_rfl) rfl ⟨Ext.refl _, rfl⟩
           · refine step1 rfl rfl rfl rfl (fun u0 wr hw h0 => ?_)
             cases h0
             exact OpRun.call 87 #[.pointer (some ⟨g1, 0, none⟩), .int .i64 (i : Int)] (by kernel_rfl) ((l01Is_any F hF g1 _ (i : Int) _ (B1.ext hw)).mono fun e w1 ⟨he, hb⟩ => ⟨_, he, hb, congrArg Value.bool h3⟩)
           · refine step1 rfl rfl rfl rfl (fun u0 wr hw h0 => ?_)
             cases h0
             exact OpRun.val (.bool true) (.bool true) (by kernel_rfl) rfl ⟨Ext.refl _, rfl⟩
           · refine gstep1 rfl rfl rfl rfl (fun u wr h => by cases h; rfl) (fun u0 wr hw h0 => ?_)
             cases h0
             exact OpRun.val (.int .i64 (i : Int)) (.int .i64 (i : Int)) (by kernel_rfl) rfl ⟨Ext.refl _, rfl⟩
           · refine gstep2 rfl rfl rfl rfl rfl (fun u wr h => by cases h; rfl) (fun u0 u1 wr hw h0 h1 => ?_)
             cases h0
             cases h1
             exact OpRun.call 65 #[.pointer (some ⟨g2, 0, none⟩), .int .i64 (i : Int)] (by kernel_rfl) ((l01Has_any x y g2 _ (i : Int) _ (B2.ext hw)).mono fun e w1 ⟨he, hb⟩ => ⟨_, he, hb, congrArg Value.bool h4⟩)
           · refine step2 rfl rfl rfl rfl rfl (fun u0 u1 wr hw h0 h1 => ?_)
             cases h0
             cases h1
             exact OpRun.val (.bool true) (.bool true) (by kernel_rfl) rfl ⟨Ext.refl _, rfl⟩
           · refine step1 rfl rfl rfl rfl (fun u0 wr hw h0 => ?_)
             cases h0
             exact OpRun.val (.bool true) (.bool true) (by kernel_rfl) rfl ⟨Ext.refl _, rfl⟩
           · refine gstep1 rfl rfl rfl rfl (fun u wr h => by cases h; rfl) (fun u0 wr hw h0 => ?_)
             cases h0
             exact OpRun.val (.int .i64 best) (.int .i64 best) (by kernel_rfl) rfl ⟨Ext.refl _, rfl⟩
           · refine gstep2 rfl rfl rfl rfl rfl (fun u wr h => by cases h; rfl) (fun u0 u1 wr hw h0 h1 => ?_)
             cases h0
             cases h1
             exact OpRun.val (.bool (decide (best < 0))) (.bool false) (by kernel_rfl) (congrArg Value.bool h5) ⟨Ext.refl _, rfl⟩
           · refine gstep2 rfl rfl rfl rfl rfl (fun u wr h => by cases h; rfl) (fun u0 u1 wr hw h0 h1 => ?_)
             cases h0
             cases h1
             exact OpRun.val (.bool false) (.bool false) (by kernel_rfl) rfl ⟨Ext.refl _, rfl⟩
           · refine gstep1 rfl rfl rfl rfl (fun u wr h => by cases h; rfl) (fun u0 wr hw h0 => ?_)
             cases h0
             exact OpRun.val (.int .i64 (i : Int)) (.int .i64 (i : Int)) (by kernel_rfl) rfl ⟨Ext.refl _, rfl⟩
           · refine gstep1 rfl rfl rfl rfl (fun u wr h => by cases h; rfl) (fun u0 wr hw h0 => ?_)
             cases h0
             exact OpRun.val (.pointer (some ⟨g1, 102, none⟩)) (.pointer (some ⟨g1, 102, none⟩)) (by kernel_rfl) rfl ⟨Ext.refl _, rfl⟩
           · refine gstep3 rfl rfl rfl rfl rfl rfl (fun u wr h => by cases h; rfl) (fun u0 u1 u2 wr hw h0 h1 h2 => ?_)
             cases h0
             cases h1
             cases h2
             exact OpRun.ixan (i := i) (k := .i64) (g := g1) (off := 102) arrt__100_int16 rfl (by kernel_rfl) (by kernel_rfl) (by omega) ⟨Ext.refl _, rfl⟩
           · refine gstep2 rfl rfl rfl rfl rfl (fun u wr h => by cases h; rfl) (fun u0 u1 wr hw h0 h1 => ?_)
             cases h0
             cases h1
             exact OpRun.cell (g := g1) (off := 102 + i) (v := .int .i16 (F.s i)) scal_int16 rfl (by kernel_rfl) ((B1.ext hw).get (Fld.gets _ _ (by omega))) ⟨Ext.refl _, rfl⟩
           · refine gstep1 rfl rfl rfl rfl (fun u wr h => by cases h; rfl) (fun u0 wr hw h0 => ?_)
             cases h0
             exact OpRun.val (.int .i64 best) (.int .i64 best) (by kernel_rfl) rfl ⟨Ext.refl _, rfl⟩
           · refine gstep1 rfl rfl rfl rfl (fun u wr h => by cases h; rfl) (fun u0 wr hw h0 => ?_)
             cases h0
             exact OpRun.val (.pointer (some ⟨g1, 102, none⟩)) (.pointer (some ⟨g1, 102, none⟩)) (by kernel_rfl) rfl ⟨Ext.refl _, rfl⟩
           · refine gstep3 rfl rfl rfl rfl rfl rfl (fun u wr h => by cases h; rfl) (fun u0 u1 u2 wr hw h0 h1 h2 => ?_)
             cases h0
             cases h1
             cases h2
             exact OpRun.ixa (i := best) (k := .i64) (g := g1) (off := 102) arrt__100_int16 rfl (by kernel_rfl) (by kernel_rfl) (by omega) (by omega) ⟨Ext.refl _, rfl⟩
           · refine gstep2 rfl rfl rfl rfl rfl (fun u wr h => by cases h; rfl) (fun u0 u1 wr hw h0 h1 => ?_)
             cases h0
             cases h1
             exact OpRun.cell (g := g1) (off := 102 + (best).toNat) (v := .int .i16 (F.s ((best).toNat))) scal_int16 rfl (by kernel_rfl) ((B1.ext hw).get (Fld.gets _ _ (by omega))) ⟨Ext.refl _, rfl⟩
           · refine gstep3 rfl rfl rfl rfl rfl rfl (fun u wr h => by cases h; rfl) (fun u0 u1 u2 wr hw h0 h1 h2 => ?_)
             cases h0
             cases h1
             cases h2
             exact OpRun.val (.bool (decide ((F.s ((best).toNat)) < F.s i))) (.bool (decide ((F.s ((best).toNat)) < F.s i))) (by kernel_rfl) rfl ⟨Ext.refl _, rfl⟩
           · refine gstep3 rfl rfl rfl rfl rfl rfl (fun u wr h => by cases h; rfl) (fun u0 u1 u2 wr hw h0 h1 h2 => ?_)
             cases h0
             cases h1
             cases h2
             exact OpRun.val (.bool (decide ((F.s ((best).toNat)) < F.s i))) (.bool (decide ((F.s ((best).toNat)) < F.s i))) (by kernel_rfl) rfl ⟨Ext.refl _, rfl⟩
           · refine step2 rfl rfl rfl rfl rfl (fun u0 u1 wr hw h0 h1 => ?_)
             cases h0
             cases h1
             exact OpRun.val (.bool (decide ((F.s ((best).toNat)) < F.s i))) (.bool (decide ((F.s ((best).toNat)) < F.s i))) (by kernel_rfl) rfl ⟨Ext.refl _, rfl⟩
           refine end21 (fun u0 u1 u2 u3 u4 u5 u6 u7 u8 u9 u10 u11 u12 u13 u14 u15 u16 u17 u18 u19 u20 w5 E5 f0 f1 f2 f3 f4 f5 f6 f7 f8 f9 f10 f11 f12 f13 f14 f15 f16 f17 f18 f19 f20 => ?_)
           cases f0
           cases f1
           cases f2
           cases f3
           cases f4
           cases f5
           cases f6
           cases f7
           cases f8
           cases f9
           cases f10
           cases f11
           cases f12
           cases f13
           cases f14
           cases f15
           cases f16
           cases f17
           cases f18
           cases f19
           cases f20
           refine wpList_nil (then_normal ?_)
           refine wsplit (decide ((F.s ((best).toNat)) < F.s i)) (fun h6 => ?_) (fun h6 => ?_)
           · skip
             have h6d := dT h6
             refine wp_region_lit ?_
             refine wv (.int .i64 (i : Int)) ?_
             refine wv (.int .i64 (i : Int)) ?_
             refine wpList_nil (block_normal (then_normal ?_))
             refine wp_region_lit ?_
             refine wv (.int .i64 (i : Int)) ?_
             refine wi64 ((i : Int) + 1) ?_
             refine wv (.int .i64 ((i : Int) + 1)) ?_
             refine wpList_nil (then_normal ?_)
             replace B1 := B1.ext E5
             replace B2 := B2.ext E5
             have H3 := HL1.trans E5
             refine ⟨_, ?_, i + 1, (i : Int), rfl, ?_, ?_, H3, B1, B2, exJ (by kernel_rfl)⟩
             · omega
             · omega
             · first | exact firstC_n hb_ (by assumption) | exact firstC_h hb_ (by assumption) (by assumption) | exact firstC_b hb_ (by assumption) (by assumption) (by omega) | exact firstC_t hb_ (by assumption) (by assumption) (decide_eq_true (by simp only [Int.toNat_natCast]; omega)) | exact firstC_f hb_ (by assumption) (by omega) (decide_eq_false (by simp only [Int.toNat_natCast]; omega))
           · skip
             have h6d := dF h6
             refine wp_skip ?_
             refine block_normal (then_normal ?_)
             refine wp_region_lit ?_
             refine wv (.int .i64 (i : Int)) ?_
             refine wi64 ((i : Int) + 1) ?_
             refine wv (.int .i64 ((i : Int) + 1)) ?_
             refine wpList_nil (then_normal ?_)
             replace B1 := B1.ext E5
             replace B2 := B2.ext E5
             have H4 := HL1.trans E5
             refine ⟨_, ?_, i + 1, best, rfl, ?_, ?_, H4, B1, B2, exJ (by kernel_rfl)⟩
             · omega
             · omega
             · first | exact firstC_n hb_ (by assumption) | exact firstC_h hb_ (by assumption) (by assumption) | exact firstC_b hb_ (by assumption) (by assumption) (by omega) | exact firstC_t hb_ (by assumption) (by assumption) (decide_eq_true (by simp only [Int.toNat_natCast]; omega)) | exact firstC_f hb_ (by assumption) (by omega) (decide_eq_false (by simp only [Int.toNat_natCast]; omega))
       · skip
         refine region_go 21 [15, 16, 17, 18, 19, 20, 21, 22, 23, 24, 25, 26, 27, 28, 29, 30, 31, 32, 33, 34, 35] [[], [0], [1], [2], [2, 3], [2, 4], [5], [6], [6, 7], [6, 8], [9], [9], [9, 11, 10], [9, 12], [9], [9], [9, 15, 14], [9, 16], [9, 13, 17], [6, 9, 18], [6, 19]]
          (fun i_ => ([.val (.int .i64 (i : Int)), .val (.bool true), .val (.bool true), .val (.int .i64 (i : Int)), .val (.bool false), .val (.bool false), .val (.bool false), .val undef, .val undef, .val undef, .val undef, .val undef, .val undef, .val undef, .val undef, .val undef, .val undef, .val undef, .val undef, .val undef, .val (.bool false)] : List Fct).getD i_ .any)
          (by kernel_rfl) (by kernel_rfl) (by decide) (by simp) rfl (all_succ (all_succ (all_succ (all_succ (all_succ (all_succ (all_succ (all_succ (all_succ (all_succ (all_succ (all_succ (all_succ (all_succ (all_succ (all_succ (all_succ (all_succ (all_succ (all_succ (all_succ all_zero ?_) ?_) ?_) ?_) ?_) ?_) ?_) ?_) ?_) ?_) ?_) ?_) ?_) ?_) ?_) ?_) ?_) ?_) ?_) ?_) ?_) ?_
         · refine step0 rfl rfl rfl (fun wr hw => ?_)
           exact OpRun.val (.int .i64 (i : Int)) (.int .i64 (i : Int)) (by kernel_rfl) rfl ⟨Ext.refl _, rfl⟩
         · refine step1 rfl rfl rfl rfl (fun u0 wr hw h0 => ?_)
           cases h0
           exact OpRun.call 87 #[.pointer (some ⟨g1, 0, none⟩), .int .i64 (i : Int)] (by kernel_rfl) ((l01Is_any F hF g1 _ (i : Int) _ (B1.ext hw)).mono fun e w1 ⟨he, hb⟩ => ⟨_, he, hb, congrArg Value.bool h3⟩)
         · refine step1 rfl rfl rfl rfl (fun u0 wr hw h0 => ?_)
           cases h0
           exact OpRun.val (.bool true) (.bool true) (by kernel_rfl) rfl ⟨Ext.refl _, rfl⟩
         · refine gstep1 rfl rfl rfl rfl (fun u wr h => by cases h; rfl) (fun u0 wr hw h0 => ?_)
           cases h0
           exact OpRun.val (.int .i64 (i : Int)) (.int .i64 (i : Int)) (by kernel_rfl) rfl ⟨Ext.refl _, rfl⟩
         · refine gstep2 rfl rfl rfl rfl rfl (fun u wr h => by cases h; rfl) (fun u0 u1 wr hw h0 h1 => ?_)
           cases h0
           cases h1
           exact OpRun.call 65 #[.pointer (some ⟨g2, 0, none⟩), .int .i64 (i : Int)] (by kernel_rfl) ((l01Has_any x y g2 _ (i : Int) _ (B2.ext hw)).mono fun e w1 ⟨he, hb⟩ => ⟨_, he, hb, congrArg Value.bool h4⟩)
         · refine step2 rfl rfl rfl rfl rfl (fun u0 u1 wr hw h0 h1 => ?_)
           cases h0
           cases h1
           exact OpRun.val (.bool false) (.bool false) (by kernel_rfl) rfl ⟨Ext.refl _, rfl⟩
         · refine step1 rfl rfl rfl rfl (fun u0 wr hw h0 => ?_)
           cases h0
           exact OpRun.val (.bool false) (.bool false) (by kernel_rfl) rfl ⟨Ext.refl _, rfl⟩
         · refine skip_ rfl rfl rfl (fun u wr h => by cases h; rfl) (fun _ => rfl)
         · refine skip_ rfl rfl rfl (fun u wr h => by cases h; rfl) (fun _ => rfl)
         · refine skip_ rfl rfl rfl (fun u wr h => by cases h; rfl) (fun _ => rfl)
         · refine skipu_ rfl rfl rfl (fun u wr h => by cases h; rfl) (fun _ => rfl)
         · refine skipu_ rfl rfl rfl (fun u wr h => by cases h; rfl) (fun _ => rfl)
         · refine skipu_ rfl rfl rfl (fun u wr h => by cases h; rfl) (fun _ => rfl)
         · refine skipu_ rfl rfl rfl (fun u wr h => by cases h; rfl) (fun _ => rfl)
         · refine skipu_ rfl rfl rfl (fun u wr h => by cases h; rfl) (fun _ => rfl)
         · refine skipu_ rfl rfl rfl (fun u wr h => by cases h; rfl) (fun _ => rfl)
         · refine skipu_ rfl rfl rfl (fun u wr h => by cases h; rfl) (fun _ => rfl)
         · refine skipu_ rfl rfl rfl (fun u wr h => by cases h; rfl) (fun _ => rfl)
         · refine skipu_ rfl rfl rfl (fun u wr h => by cases h; rfl) (fun _ => rfl)
         · refine skip_ rfl rfl rfl (fun u wr h => by cases h; rfl) (fun _ => rfl)
         · refine step2 rfl rfl rfl rfl rfl (fun u0 u1 wr hw h0 h1 => ?_)
           cases h0
           cases h1
           exact OpRun.val (.bool false) (.bool false) (by kernel_rfl) rfl ⟨Ext.refl _, rfl⟩
         refine end21 (fun u0 u1 u2 u3 u4 u5 u6 u7 u8 u9 u10 u11 u12 u13 u14 u15 u16 u17 u18 u19 u20 w6 E6 f0 f1 f2 f3 f4 f5 f6 f7 f8 f9 f10 f11 f12 f13 f14 f15 f16 f17 f18 f19 f20 => ?_)
         cases f0
         cases f1
         cases f2
         cases f3
         cases f4
         cases f5
         cases f6
         cases f7
         cases f8
         cases f9
         cases f10
         cases f11
         cases f12
         cases f13
         cases f14
         cases f15
         cases f16
         cases f17
         cases f18
         cases f19
         cases f20
         refine wpList_nil (then_normal ?_)
         refine wcf ?_
         refine wp_skip ?_
         refine block_normal (then_normal ?_)
         refine wp_region_lit ?_
         refine wv (.int .i64 (i : Int)) ?_
         refine wi64 ((i : Int) + 1) ?_
         refine wv (.int .i64 ((i : Int) + 1)) ?_
         refine wpList_nil (then_normal ?_)
         replace B1 := B1.ext E6
         replace B2 := B2.ext E6
         have H5 := HL1.trans E6
         refine ⟨_, ?_, i + 1, best, rfl, ?_, ?_, H5, B1, B2, exJ (by kernel_rfl)⟩
         · omega
         · omega
         · first | exact firstC_n hb_ (by assumption) | exact firstC_h hb_ (by assumption) (by assumption) | exact firstC_b hb_ (by assumption) (by assumption) (by omega) | exact firstC_t hb_ (by assumption) (by assumption) (decide_eq_true (by simp only [Int.toNat_natCast]; omega)) | exact firstC_f hb_ (by assumption) (by omega) (decide_eq_false (by simp only [Int.toNat_natCast]; omega))
     · skip
       refine region_go 21 [15, 16, 17, 18, 19, 20, 21, 22, 23, 24, 25, 26, 27, 28, 29, 30, 31, 32, 33, 34, 35] [[], [0], [1], [2], [2, 3], [2, 4], [5], [6], [6, 7], [6, 8], [9], [9], [9, 11, 10], [9, 12], [9], [9], [9, 15, 14], [9, 16], [9, 13, 17], [6, 9, 18], [6, 19]]
        (fun i_ => ([.val (.int .i64 (i : Int)), .val (.bool false), .val (.bool false), .val undef, .val undef, .val (.bool false), .val (.bool false), .val undef, .val undef, .val undef, .val undef, .val undef, .val undef, .val undef, .val undef, .val undef, .val undef, .val undef, .val undef, .val undef, .val (.bool false)] : List Fct).getD i_ .any)
        (by kernel_rfl) (by kernel_rfl) (by decide) (by simp) rfl (all_succ (all_succ (all_succ (all_succ (all_succ (all_succ (all_succ (all_succ (all_succ (all_succ (all_succ (all_succ (all_succ (all_succ (all_succ (all_succ (all_succ (all_succ (all_succ (all_succ (all_succ all_zero ?_) ?_) ?_) ?_) ?_) ?_) ?_) ?_) ?_) ?_) ?_) ?_) ?_) ?_) ?_) ?_) ?_) ?_) ?_) ?_) ?_) ?_
       · refine step0 rfl rfl rfl (fun wr hw => ?_)
         exact OpRun.val (.int .i64 (i : Int)) (.int .i64 (i : Int)) (by kernel_rfl) rfl ⟨Ext.refl _, rfl⟩
       · refine step1 rfl rfl rfl rfl (fun u0 wr hw h0 => ?_)
         cases h0
         exact OpRun.call 87 #[.pointer (some ⟨g1, 0, none⟩), .int .i64 (i : Int)] (by kernel_rfl) ((l01Is_any F hF g1 _ (i : Int) _ (B1.ext hw)).mono fun e w1 ⟨he, hb⟩ => ⟨_, he, hb, congrArg Value.bool h3⟩)
       · refine step1 rfl rfl rfl rfl (fun u0 wr hw h0 => ?_)
         cases h0
         exact OpRun.val (.bool false) (.bool false) (by kernel_rfl) rfl ⟨Ext.refl _, rfl⟩
       · refine skip_ rfl rfl rfl (fun u wr h => by cases h; rfl) (fun _ => rfl)
       · refine skip_ rfl rfl rfl (fun u wr h => by cases h; rfl) (fun _ => rfl)
       · refine step2 rfl rfl rfl rfl rfl (fun u0 u1 wr hw h0 h1 => ?_)
         cases h0
         cases h1
         exact OpRun.val (.bool false) (.bool false) (by kernel_rfl) rfl ⟨Ext.refl _, rfl⟩
       · refine step1 rfl rfl rfl rfl (fun u0 wr hw h0 => ?_)
         cases h0
         exact OpRun.val (.bool false) (.bool false) (by kernel_rfl) rfl ⟨Ext.refl _, rfl⟩
       · refine skip_ rfl rfl rfl (fun u wr h => by cases h; rfl) (fun _ => rfl)
       · refine skip_ rfl rfl rfl (fun u wr h => by cases h; rfl) (fun _ => rfl)
       · refine skip_ rfl rfl rfl (fun u wr h => by cases h; rfl) (fun _ => rfl)
       · refine skipu_ rfl rfl rfl (fun u wr h => by cases h; rfl) (fun _ => rfl)
       · refine skipu_ rfl rfl rfl (fun u wr h => by cases h; rfl) (fun _ => rfl)
       · refine skipu_ rfl rfl rfl (fun u wr h => by cases h; rfl) (fun _ => rfl)
       · refine skipu_ rfl rfl rfl (fun u wr h => by cases h; rfl) (fun _ => rfl)
       · refine skipu_ rfl rfl rfl (fun u wr h => by cases h; rfl) (fun _ => rfl)
       · refine skipu_ rfl rfl rfl (fun u wr h => by cases h; rfl) (fun _ => rfl)
       · refine skipu_ rfl rfl rfl (fun u wr h => by cases h; rfl) (fun _ => rfl)
       · refine skipu_ rfl rfl rfl (fun u wr h => by cases h; rfl) (fun _ => rfl)
       · refine skipu_ rfl rfl rfl (fun u wr h => by cases h; rfl) (fun _ => rfl)
       · refine skip_ rfl rfl rfl (fun u wr h => by cases h; rfl) (fun _ => rfl)
       · refine step2 rfl rfl rfl rfl rfl (fun u0 u1 wr hw h0 h1 => ?_)
         cases h0
         cases h1
         exact OpRun.val (.bool false) (.bool false) (by kernel_rfl) rfl ⟨Ext.refl _, rfl⟩
       refine end21 (fun u0 u1 u2 u3 u4 u5 u6 u7 u8 u9 u10 u11 u12 u13 u14 u15 u16 u17 u18 u19 u20 w7 E7 f0 f1 f2 f3 f4 f5 f6 f7 f8 f9 f10 f11 f12 f13 f14 f15 f16 f17 f18 f19 f20 => ?_)
       cases f0
       cases f1
       cases f2
       cases f3
       cases f4
       cases f5
       cases f6
       cases f7
       cases f8
       cases f9
       cases f10
       cases f11
       cases f12
       cases f13
       cases f14
       cases f15
       cases f16
       cases f17
       cases f18
       cases f19
       cases f20
       refine wpList_nil (then_normal ?_)
       refine wcf ?_
       refine wp_skip ?_
       refine block_normal (then_normal ?_)
       refine wp_region_lit ?_
       refine wv (.int .i64 (i : Int)) ?_
       refine wi64 ((i : Int) + 1) ?_
       refine wv (.int .i64 ((i : Int) + 1)) ?_
       refine wpList_nil (then_normal ?_)
       replace B1 := B1.ext E7
       replace B2 := B2.ext E7
       have H6 := HL1.trans E7
       refine ⟨_, ?_, i + 1, best, rfl, ?_, ?_, H6, B1, B2, exJ (by kernel_rfl)⟩
       · omega
       · omega
       · first | exact firstC_n hb_ (by assumption) | exact firstC_h hb_ (by assumption) (by assumption) | exact firstC_b hb_ (by assumption) (by assumption) (by omega) | exact firstC_t hb_ (by assumption) (by assumption) (decide_eq_true (by simp only [Int.toNat_natCast]; omega)) | exact firstC_f hb_ (by assumption) (by omega) (decide_eq_false (by simp only [Int.toNat_natCast]; omega))
   · skip
     have h2d := dF h2
     refine wp_exit ?_
     refine then_exit ?_
     refine then_exit ?_
     refine block_exit ?_
     refine then_normal ?_
     refine wp_seq ?_
     refine wsr ?_
     refine wv (.int .i64 best) ?_
     refine wv (.bool (decide (best < 0))) ?_
     refine wpList_nil (then_normal ?_)
     refine wsplit (decide (best < 0)) (fun h7 => ?_) (fun h7 => ?_)
     · skip
       have h7d := dT h7
       refine wsr ?_
       refine wv (.int .i64 0) ?_
       refine wv (.int .i64 0) ?_
       refine wv (.int .i64 6) ?_
       refine wpList_nil (then_normal ?_)
       refine wp_ret ?_
       refine then_ret ?_
       refine ret3 (.int .i64 (rich0 F x y)) (.int .i64 (rich1 F x y)) (.int .i64 (rich2 F x y)) rfl ?_ ?_ ?_ rfl ?_
       · refine (resT (v := .int .i64 0) (by kernel_rfl)).trans ?_
         refine congrArg (Value.int _) ?_
         first | (have hz_ := firstC_end hb_ (by omega) (by omega)) | skip
         try (have hr_ : best = richC F x y := by rw [richC_eq]; exact hz_)
         try subst hr_
         unfold rich0; first | rw [if_neg (by first | assumption | (simp [*]; done) | omega)] | rw [if_pos (by first | assumption | omega), if_pos (by omega)] | rw [if_pos (by first | assumption | omega), if_neg (by omega)]
       · refine (resT (v := .int .i64 0) (by kernel_rfl)).trans ?_
         refine congrArg (Value.int _) ?_
         first | (have hz_ := firstC_end hb_ (by omega) (by omega)) | skip
         try (have hr_ : best = richC F x y := by rw [richC_eq]; exact hz_)
         try subst hr_
         unfold rich1; first | rw [if_neg (by first | assumption | (simp [*]; done) | omega)] | rw [if_pos (by first | assumption | omega), if_pos (by omega)] | rw [if_pos (by first | assumption | omega), if_neg (by omega)]
       · refine (resT (v := .int .i64 6) (by kernel_rfl)).trans ?_
         refine congrArg (Value.int _) ?_
         first | (have hz_ := firstC_end hb_ (by omega) (by omega)) | skip
         try (have hr_ : best = richC F x y := by rw [richC_eq]; exact hz_)
         try subst hr_
         unfold rich2; first | rw [if_neg (by first | assumption | (simp [*]; done) | omega)] | rw [if_pos (by first | assumption | omega), if_pos (by omega)] | rw [if_pos (by first | assumption | omega), if_neg (by omega)]
       exact ⟨rfl, HL1⟩
     · skip
       have h7d := dF h7
       refine wp_skip ?_
       refine then_normal ?_
       refine wp_seq ?_
       refine wp_frame (a' := ⟨#[.agg F.cells, .agg #[.int .u64 x, .int .u64 y], .pointer (some ⟨g1, 0, none⟩), .pointer (some ⟨g2, 0, none⟩), .int .i64 0, .int .i64 0, .int .i64 0, .int .i64 best, .int .i64 (i : Int), .bool (okB F), .bool (!(okB F)), .int .i64 (i : Int), .bool (decide ((i : Int) < 100)), J1 13, J1 14, J1 15, J1 16, J1 17, J1 18, J1 19, J1 20, J1 21, J1 22, J1 23, J1 24, J1 25, J1 26, J1 27, J1 28, J1 29, J1 30, J1 31, J1 32, J1 33, J1 34, J1 35, J1 36, .int .i64 best, .bool (decide (best < 0)), undef, undef, undef, undef, undef, undef], []⟩) (by kernel_rfl) ?_
       have ce5 := hF.s1 ((best).toNat) (by omega)
       have ce6 := ok_cell h1 ((best).toNat) (by omega)
       refine region_go 9 [39, 40, 41, 42, 43, 44, 4, 5, 6] [[], [], [], [2, 1], [3], [4], [0], [5], []]
        (fun i_ => ([.val (.int .i64 best), .val (.int .i64 best), .val (.pointer (some ⟨g1, 102, none⟩)), .val (.pointer (some ⟨g1, 102 + (best).toNat, none⟩)), .val (.int .i16 (F.s ((best).toNat))), .val (.int .i64 (F.s ((best).toNat))), .val (.int .i64 best), .val (.int .i64 (F.s ((best).toNat))), .val (.int .i64 0)] : List Fct).getD i_ .any)
        (by kernel_rfl) (by kernel_rfl) (by decide) (by simp) rfl (all_succ (all_succ (all_succ (all_succ (all_succ (all_succ (all_succ (all_succ (all_succ all_zero ?_) ?_) ?_) ?_) ?_) ?_) ?_) ?_) ?_) ?_
       · refine step0 rfl rfl rfl (fun wr hw => ?_)
         exact OpRun.val (.int .i64 best) (.int .i64 best) (by kernel_rfl) rfl ⟨Ext.refl _, rfl⟩
       · refine step0 rfl rfl rfl (fun wr hw => ?_)
         exact OpRun.val (.int .i64 best) (.int .i64 best) (by kernel_rfl) rfl ⟨Ext.refl _, rfl⟩
       · refine step0 rfl rfl rfl (fun wr hw => ?_)
         exact OpRun.val (.pointer (some ⟨g1, 102, none⟩)) (.pointer (some ⟨g1, 102, none⟩)) (by kernel_rfl) rfl ⟨Ext.refl _, rfl⟩
       · refine step2 rfl rfl rfl rfl rfl (fun u0 u1 wr hw h0 h1 => ?_)
         cases h0
         cases h1
         exact OpRun.ixa (i := best) (k := .i64) (g := g1) (off := 102) arrt__100_int16 rfl (by kernel_rfl) (by kernel_rfl) (by omega) (by omega) ⟨Ext.refl _, rfl⟩
       · refine step1 rfl rfl rfl rfl (fun u0 wr hw h0 => ?_)
         cases h0
         exact OpRun.cell (g := g1) (off := 102 + (best).toNat) (v := .int .i16 (F.s ((best).toNat))) scal_int16 rfl (by kernel_rfl) ((B1.ext hw).get (Fld.gets _ _ (by omega))) ⟨Ext.refl _, rfl⟩
       · refine step1 rfl rfl rfl rfl (fun u0 wr hw h0 => ?_)
         cases h0
         exact OpRun.val (.int .i64 (IntKind.i64.wrap (F.s ((best).toNat)))) (.int .i64 (F.s ((best).toNat))) (by kernel_rfl) (by exact congrArg _ (IntWalk.i64_in _ (by omega))) ⟨Ext.refl _, rfl⟩
       · refine step1 rfl rfl rfl rfl (fun u0 wr hw h0 => ?_)
         cases h0
         exact OpRun.val (.int .i64 best) (.int .i64 best) (by kernel_rfl) rfl ⟨Ext.refl _, rfl⟩
       · refine step1 rfl rfl rfl rfl (fun u0 wr hw h0 => ?_)
         cases h0
         exact OpRun.val (.int .i64 (F.s ((best).toNat))) (.int .i64 (F.s ((best).toNat))) (by kernel_rfl) rfl ⟨Ext.refl _, rfl⟩
       · refine step0 rfl rfl rfl (fun wr hw => ?_)
         exact OpRun.val (.int .i64 0) (.int .i64 0) (by kernel_rfl) rfl ⟨Ext.refl _, rfl⟩
       refine end9 (fun u0 u1 u2 u3 u4 u5 u6 u7 u8 w8 E8 f0 f1 f2 f3 f4 f5 f6 f7 f8 => ?_)
       cases f0
       cases f1
       cases f2
       cases f3
       cases f4
       cases f5
       cases f6
       cases f7
       cases f8
       refine wpList_nil (then_normal ?_)
       refine wp_ret ?_
       have H7 := HL1.trans E8
       refine ret3 (.int .i64 (rich0 F x y)) (.int .i64 (rich1 F x y)) (.int .i64 (rich2 F x y)) rfl ?_ ?_ ?_ rfl ?_
       · refine (resT (v := .int .i64 best) (by kernel_rfl)).trans ?_
         refine congrArg (Value.int _) ?_
         first | (have hz_ := firstC_end hb_ (by omega) (by omega)) | skip
         try (have hr_ : best = richC F x y := by rw [richC_eq]; exact hz_)
         try subst hr_
         unfold rich0; first | rw [if_neg (by first | assumption | (simp [*]; done) | omega)] | rw [if_pos (by first | assumption | omega), if_pos (by omega)] | rw [if_pos (by first | assumption | omega), if_neg (by omega)]
       · refine (resT (v := .int .i64 (F.s ((best).toNat))) (by kernel_rfl)).trans ?_
         refine congrArg (Value.int _) ?_
         first | (have hz_ := firstC_end hb_ (by omega) (by omega)) | skip
         try (have hr_ : best = richC F x y := by rw [richC_eq]; exact hz_)
         try subst hr_
         unfold rich1; first | rw [if_neg (by first | assumption | (simp [*]; done) | omega)] | rw [if_pos (by first | assumption | omega), if_pos (by omega)] | rw [if_pos (by first | assumption | omega), if_neg (by omega)]
       · refine (resT (v := .int .i64 0) (by kernel_rfl)).trans ?_
         refine congrArg (Value.int _) ?_
         first | (have hz_ := firstC_end hb_ (by omega) (by omega)) | skip
         try (have hr_ : best = richC F x y := by rw [richC_eq]; exact hz_)
         try subst hr_
         unfold rich2; first | rw [if_neg (by first | assumption | (simp [*]; done) | omega)] | rw [if_pos (by first | assumption | omega), if_pos (by omega)] | rw [if_pos (by first | assumption | omega), if_neg (by omega)]
       exact ⟨rfl, H7⟩


--# iRichestIn_any
theorem iRichestIn_any (F : Fld) (hF : F.wf) (x y : Int) (w : World) :
 Calls Try.prog 41 #[.agg F.cells, .agg #[.int .u64 x, .int .u64 y]] w fun e w' => e = .returned (.tuple #[.int .i64 (rich0 F x y), .int .i64 (rich1 F x y), .int .i64 (rich2 F x y)]) ∧ Ext w w' := by
 refine calls_of_wp Try.func41 rfl ?_
 refine wp_frame (a' := ⟨#[.agg F.cells, .agg #[.int .u64 x, .int .u64 y], undef, undef, undef, undef, undef, undef, undef, undef, undef, undef, undef, undef, undef, undef, undef, undef, undef, undef, undef, undef], []⟩) (by kernel_rfl) ?_
 refine wsr ?_
 refine wbox F.cells ?_
 intro g1 w1 B1 E1 _
 refine wbox #[.int .u64 x, .int .u64 y] ?_
 intro g2 w2 B2 E2 _
 refine wv (.int .i64 0) ?_
 refine wv (.int .i64 0) ?_
 refine wv (.int .i64 0) ?_
 refine wpList_nil (then_normal ?_)
 refine wp_seq ?_
 refine wsr ?_
 replace B1 := B1.ext E2
 refine wrow row_impl_Field B1 (by exact Fld.size_cells _) ?_
 refine wcl (iValidField_any F hF _) ?_
 intro w3 E3
 refine wv (.bool (!(okB F))) ?_
 refine wpList_nil (then_normal ?_)
 have H1 := (((Ext.refl w).trans E1).trans E2).trans E3
 refine wsplit (!(okB F)) (fun h1 => ?_) (fun h1 => ?_)
 · skip
   replace h1 := nbT h1
   refine wsr ?_
   refine wv (.int .i64 0) ?_
   refine wv (.int .i64 0) ?_
   refine wv (.int .i64 1) ?_
   refine wpList_nil (then_normal ?_)
   refine wp_ret ?_
   refine then_ret ?_
   refine ret3 (.int .i64 (rich0 F x y)) (.int .i64 (rich1 F x y)) (.int .i64 (rich2 F x y)) rfl ?_ ?_ ?_ rfl ?_
   · refine (resT (v := .int .i64 0) (by kernel_rfl)).trans ?_
     refine congrArg (Value.int _) ?_
     unfold rich0; first | rw [if_neg (by first | assumption | (simp [*]; done) | omega)] | rw [if_pos (by first | assumption | omega), if_pos (by omega)] | rw [if_pos (by first | assumption | omega), if_neg (by omega)]
   · refine (resT (v := .int .i64 0) (by kernel_rfl)).trans ?_
     refine congrArg (Value.int _) ?_
     unfold rich1; first | rw [if_neg (by first | assumption | (simp [*]; done) | omega)] | rw [if_pos (by first | assumption | omega), if_pos (by omega)] | rw [if_pos (by first | assumption | omega), if_neg (by omega)]
   · refine (resT (v := .int .i64 1) (by kernel_rfl)).trans ?_
     refine congrArg (Value.int _) ?_
     unfold rich2; first | rw [if_neg (by first | assumption | (simp [*]; done) | omega)] | rw [if_pos (by first | assumption | omega), if_pos (by omega)] | rw [if_pos (by first | assumption | omega), if_neg (by omega)]
   exact ⟨rfl, H1⟩
 · skip
   replace h1 := nbF h1
   refine wp_skip ?_
   refine then_normal ?_
   refine wsr ?_
   replace B2 := B2.ext E3
   refine wrow row_impl_Cells B2 (by rfl) ?_
   refine wv (.func (.func 85) #[] #[.pointer (some ⟨g1, 0, none⟩)]) ?_
   replace B1 := B1.ext E3
   refine wcl (V := .int .i64 (richC F x y)) (S := fun w_ => Ext w3 w_) (by rw [richC_eq]; exact first_any F hF g1 _ x y (.func (.func 85) #[] #[.pointer (some ⟨g1, 0, none⟩)]) 85 (fun a_ b_ => #[.int .i64 a_, .int .i64 b_, .pointer (some ⟨g1, 0, none⟩)]) (fun a_ b_ => decide (F.s b_.toNat < F.s a_.toNat)) (fun _ _ _ => by kernel_rfl) _ B1 (fun a_ b_ _ Ia_ Ib_ E_ => by have Ja_ := isB_true.1 Ia_; have Jb_ := isB_true.1 Ib_; exact richest1_any a_ b_ (by omega) (by omega) F hF g1 _ _ (B1.ext E_))) ?_
   intro w4 E4
   have rc1 := richC_in F x y
   refine wv (.int .i64 (richC F x y)) ?_
   refine wpList_nil (then_normal ?_)
   refine wp_seq ?_
   refine wsr ?_
   refine wv (.int .i64 (richC F x y)) ?_
   refine wv (.bool (decide ((richC F x y) < 0))) ?_
   refine wpList_nil (then_normal ?_)
   refine wsplit (decide ((richC F x y) < 0)) (fun h2 => ?_) (fun h2 => ?_)
   · skip
     have h2d := dT h2
     refine wsr ?_
     refine wv (.int .i64 0) ?_
     refine wv (.int .i64 0) ?_
     refine wv (.int .i64 6) ?_
     refine wpList_nil (then_normal ?_)
     refine wp_ret ?_
     refine then_ret ?_
     have H2 := H1.trans E4
     refine ret3 (.int .i64 (rich0 F x y)) (.int .i64 (rich1 F x y)) (.int .i64 (rich2 F x y)) rfl ?_ ?_ ?_ rfl ?_
     · refine (resT (v := .int .i64 0) (by kernel_rfl)).trans ?_
       refine congrArg (Value.int _) ?_
       unfold rich0; first | rw [if_neg (by first | assumption | (simp [*]; done) | omega)] | rw [if_pos (by first | assumption | omega), if_pos (by omega)] | rw [if_pos (by first | assumption | omega), if_neg (by omega)]
     · refine (resT (v := .int .i64 0) (by kernel_rfl)).trans ?_
       refine congrArg (Value.int _) ?_
       unfold rich1; first | rw [if_neg (by first | assumption | (simp [*]; done) | omega)] | rw [if_pos (by first | assumption | omega), if_pos (by omega)] | rw [if_pos (by first | assumption | omega), if_neg (by omega)]
     · refine (resT (v := .int .i64 6) (by kernel_rfl)).trans ?_
       refine congrArg (Value.int _) ?_
       unfold rich2; first | rw [if_neg (by first | assumption | (simp [*]; done) | omega)] | rw [if_pos (by first | assumption | omega), if_pos (by omega)] | rw [if_pos (by first | assumption | omega), if_neg (by omega)]
     exact ⟨rfl, H2⟩
   · skip
     have h2d := dF h2
     refine wp_skip ?_
     refine then_normal ?_
     refine wp_seq ?_
     refine wp_frame (a' := ⟨#[.agg F.cells, .agg #[.int .u64 x, .int .u64 y], .pointer (some ⟨g1, 0, none⟩), .pointer (some ⟨g2, 0, none⟩), .int .i64 0, .int .i64 0, .int .i64 0, .int .i64 (richC F x y), .agg F.cells, .bool (okB F), .bool (!(okB F)), .agg #[.int .u64 x, .int .u64 y], .func (.func 85) #[] #[.pointer (some ⟨g1, 0, none⟩)], .int .i64 (richC F x y), .int .i64 (richC F x y), .bool (decide ((richC F x y) < 0)), undef, undef, undef, undef, undef, undef], []⟩) (by kernel_rfl) ?_
     replace B1 := B1.ext E4
     have ce1 := hF.s1 ((richC F x y).toNat) (by omega)
     have ce2 := ok_cell h1 ((richC F x y).toNat) (by omega)
     refine region_go 9 [16, 17, 18, 19, 20, 21, 4, 5, 6] [[], [], [], [2, 1], [3], [4], [0], [5], []]
      (fun i_ => ([.val (.int .i64 (richC F x y)), .val (.int .i64 (richC F x y)), .val (.pointer (some ⟨g1, 102, none⟩)), .val (.pointer (some ⟨g1, 102 + (richC F x y).toNat, none⟩)), .val (.int .i16 (F.s ((richC F x y).toNat))), .val (.int .i64 (F.s ((richC F x y).toNat))), .val (.int .i64 (richC F x y)), .val (.int .i64 (F.s ((richC F x y).toNat))), .val (.int .i64 0)] : List Fct).getD i_ .any)
      (by kernel_rfl) (by kernel_rfl) (by decide) (by simp) rfl (all_succ (all_succ (all_succ (all_succ (all_succ (all_succ (all_succ (all_succ (all_succ all_zero ?_) ?_) ?_) ?_) ?_) ?_) ?_) ?_) ?_) ?_
     · refine step0 rfl rfl rfl (fun wr hw => ?_)
       exact OpRun.val (.int .i64 (richC F x y)) (.int .i64 (richC F x y)) (by kernel_rfl) rfl ⟨Ext.refl _, rfl⟩
     · refine step0 rfl rfl rfl (fun wr hw => ?_)
       exact OpRun.val (.int .i64 (richC F x y)) (.int .i64 (richC F x y)) (by kernel_rfl) rfl ⟨Ext.refl _, rfl⟩
     · refine step0 rfl rfl rfl (fun wr hw => ?_)
       exact OpRun.val (.pointer (some ⟨g1, 102, none⟩)) (.pointer (some ⟨g1, 102, none⟩)) (by kernel_rfl) rfl ⟨Ext.refl _, rfl⟩
     · refine step2 rfl rfl rfl rfl rfl (fun u0 u1 wr hw h0 h1 => ?_)
       cases h0
       cases h1
       exact OpRun.ixa (i := richC F x y) (k := .i64) (g := g1) (off := 102) arrt__100_int16 rfl (by kernel_rfl) (by kernel_rfl) (by omega) (by omega) ⟨Ext.refl _, rfl⟩
     · refine step1 rfl rfl rfl rfl (fun u0 wr hw h0 => ?_)
       cases h0
       exact OpRun.cell (g := g1) (off := 102 + (richC F x y).toNat) (v := .int .i16 (F.s ((richC F x y).toNat))) scal_int16 rfl (by kernel_rfl) ((B1.ext hw).get (Fld.gets _ _ (by omega))) ⟨Ext.refl _, rfl⟩
     · refine step1 rfl rfl rfl rfl (fun u0 wr hw h0 => ?_)
       cases h0
       exact OpRun.val (.int .i64 (IntKind.i64.wrap (F.s ((richC F x y).toNat)))) (.int .i64 (F.s ((richC F x y).toNat))) (by kernel_rfl) (by exact congrArg _ (IntWalk.i64_in _ (by omega))) ⟨Ext.refl _, rfl⟩
     · refine step1 rfl rfl rfl rfl (fun u0 wr hw h0 => ?_)
       cases h0
       exact OpRun.val (.int .i64 (richC F x y)) (.int .i64 (richC F x y)) (by kernel_rfl) rfl ⟨Ext.refl _, rfl⟩
     · refine step1 rfl rfl rfl rfl (fun u0 wr hw h0 => ?_)
       cases h0
       exact OpRun.val (.int .i64 (F.s ((richC F x y).toNat))) (.int .i64 (F.s ((richC F x y).toNat))) (by kernel_rfl) rfl ⟨Ext.refl _, rfl⟩
     · refine step0 rfl rfl rfl (fun wr hw => ?_)
       exact OpRun.val (.int .i64 0) (.int .i64 0) (by kernel_rfl) rfl ⟨Ext.refl _, rfl⟩
     refine end9 (fun u0 u1 u2 u3 u4 u5 u6 u7 u8 w5 E5 f0 f1 f2 f3 f4 f5 f6 f7 f8 => ?_)
     cases f0
     cases f1
     cases f2
     cases f3
     cases f4
     cases f5
     cases f6
     cases f7
     cases f8
     refine wpList_nil (then_normal ?_)
     refine wp_ret ?_
     have H3 := (H1.trans E4).trans E5
     refine ret3 (.int .i64 (rich0 F x y)) (.int .i64 (rich1 F x y)) (.int .i64 (rich2 F x y)) rfl ?_ ?_ ?_ rfl ?_
     · refine (resT (v := .int .i64 (richC F x y)) (by kernel_rfl)).trans ?_
       refine congrArg (Value.int _) ?_
       unfold rich0; first | rw [if_neg (by first | assumption | (simp [*]; done) | omega)] | rw [if_pos (by first | assumption | omega), if_pos (by omega)] | rw [if_pos (by first | assumption | omega), if_neg (by omega)]
     · refine (resT (v := .int .i64 (F.s ((richC F x y).toNat))) (by kernel_rfl)).trans ?_
       refine congrArg (Value.int _) ?_
       unfold rich1; first | rw [if_neg (by first | assumption | (simp [*]; done) | omega)] | rw [if_pos (by first | assumption | omega), if_pos (by omega)] | rw [if_pos (by first | assumption | omega), if_neg (by omega)]
     · refine (resT (v := .int .i64 0) (by kernel_rfl)).trans ?_
       refine congrArg (Value.int _) ?_
       unfold rich2; first | rw [if_neg (by first | assumption | (simp [*]; done) | omega)] | rw [if_pos (by first | assumption | omega), if_pos (by omega)] | rw [if_pos (by first | assumption | omega), if_neg (by omega)]
     exact ⟨rfl, H3⟩


--# sCellsOf_any
theorem sCellsOf_any (xs : List Int) (b cap : Nat) (cs : Array Value) (hS : SlI cs xs.length cap .i64 xs) (hx : xs.length ≤ 1048576) (w : World) (hb : Blk w b 2 cs) :
 Calls Try.prog 60 #[.slice (some ⟨b, 0, none⟩) xs.length cap] w fun e w' => e = .returned (.tuple #[.agg #[.int .u64 ((ofL xs).1), .int .u64 ((ofL xs).2)], .int .i64 (ofC xs)]) ∧ Ext w w' := by
 refine calls_of_wp Try.func60 rfl ?_
 refine wp_frame (a' := ⟨#[.slice (some ⟨b, 0, none⟩) xs.length cap, undef, undef, undef, undef, undef, undef, undef, undef, undef, undef, undef, undef, undef, undef, undef, undef, undef, undef, undef, undef, undef, undef, undef, undef, undef], []⟩) (by kernel_rfl) ?_
 refine wsr ?_
 refine wnew #[.int .u64 0, .int .u64 0] Try.zeroValue33 rfl ?_
 intro g1 w1 B1 E1 hg_
 have q_b_g1 := Nat.ne_of_lt (Nat.lt_of_lt_of_le hb.lt hg_)
 have lo_g1 := Nat.le_trans ((Ext.refl w)).size hg_
 refine wv (.int .i64 0) ?_
 refine wpList_nil (then_normal ?_)
 refine wsr ?_
 refine wv (.agg #[.int .u64 0, .int .u64 0]) ?_
 replace hb := hb.ext E1
 have H1 := (Ext.refl w).trans E1
 refine wnew #[.int .u64 0, .int .u64 0] Try.zeroValue33 rfl ?_
 intro g2 w2 B2 E2 hg_
 have q_b_g2 := Nat.ne_of_lt (Nat.lt_of_lt_of_le hb.lt hg_)
 have q_g1_g2 := Nat.ne_of_lt (Nat.lt_of_lt_of_le B1.lt hg_)
 have lo_g2 := Nat.le_trans (H1).size hg_
 refine wput #[.int .u64 0, .int .u64 0] row_impl_Cells B2 (by rfl) (by rfl) (by kernel_rfl) ?_
 intro w3 B2_ X1
 clear B2; have B2 := B2_; clear B2_
 refine wpList_nil (then_normal ?_)
 refine wp_seq ?_
 refine wsr ?_
 refine wv (.int .i64 0) ?_
 refine wpList_nil (then_normal ?_)
 refine wp_block ?_
 replace hb := X1.blk (hb.ext E2) q_b_g2
 replace B1 := X1.blk (B1.ext E2) q_g1_g2
 have H2 := X1.ext w lo_g2 (H1.trans E2)
 refine wp_loop_k (fun m1 a wl1 => ∃ (i : Nat), m1 = xs.length - i ∧ i ≤ xs.length ∧ (∀ j, j < i → inB (atI xs j) 0 99 = true) ∧ Ext w wl1 ∧ Blk wl1 b 2 cs ∧ Blk wl1 g1 33 #[.int .u64 0, .int .u64 0] ∧ Blk wl1 g2 33 #[.int .u64 ((setL xs i).1), .int .u64 ((setL xs i).2)] ∧ (∃ J1 : Nat → Value, a = ⟨#[.slice (some ⟨b, 0, none⟩) xs.length cap, undef, .pointer (some ⟨g1, 0, none⟩), J1 3, .pointer (some ⟨g2, 0, none⟩), .int .i64 (i : Int), .agg #[.int .u64 0, .int .u64 0], J1 7, J1 8, J1 9, J1 10, J1 11, J1 12, J1 13, J1 14, J1 15, J1 16, J1 17, J1 18, J1 19, J1 20, J1 21, J1 22, J1 23, J1 24, undef], []⟩)) (xs.length) ?_ ?_
 · refine ⟨0, rfl, ?_, ?_, H2, hb, B1, ?_, exJ (by kernel_rfl)⟩
   · omega
   · intro j hj; omega
   · rw [setL_0]; exact B2
 intro m1 a wl1 hI
 obtain ⟨i, rfl, hi_, hall, HL1, hb, B1, B2, J1, rfl⟩ := hI
 refine wp_seq ?_
 refine wsr ?_
 refine wv (.int .i64 (i : Int)) ?_
 refine wv (.slice (some ⟨b, 0, none⟩) xs.length cap) ?_
 refine wv (.int .i64 (xs.length : Int)) ?_
 refine wv (.bool (decide ((i : Int) < (xs.length : Int)))) ?_
 refine wpList_nil (then_normal ?_)
 refine wsplit (decide ((i : Int) < (xs.length : Int))) (fun h1 => ?_) (fun h1 => ?_)
 · skip
   have h1d := dT h1
   refine wp_skip ?_
   refine then_normal ?_
   refine wp_seq ?_
   refine wp_block ?_
   refine wp_seq ?_
   refine wsr ?_
   refine wv (.slice (some ⟨b, 0, none⟩) xs.length cap) ?_
   refine wv (.int .i64 (i : Int)) ?_
   refine wsix1 b 0 xs.length cap i .i64 slit__int64 ?_
   refine wld b (0 + i) scal_int64 (hb.get (SlI.get hS (by omega))) ?_
   refine wcl (l00In_any (atI xs i) 0 99 _) ?_
   intro w4 E3
   refine wv (.bool (!(inB (atI xs i) 0 99))) ?_
   refine wpList_nil (then_normal ?_)
   have H3 := HL1.trans E3
   refine wsplit (!(inB (atI xs i) 0 99)) (fun h2 => ?_) (fun h2 => ?_)
   · skip
     replace h2 := nbT h2
     have h2d := inF h2
     refine wsr ?_
     refine wv (.agg #[.int .u64 0, .int .u64 0]) ?_
     replace B1 := B1.ext E3
     refine wput #[.int .u64 0, .int .u64 0] row_impl_Cells B1 (by rfl) (by rfl) (by kernel_rfl) ?_
     intro w5 B1_ X2
     clear B1; have B1 := B1_; clear B1_
     refine wv (.int .i64 2) ?_
     refine wpList_nil (then_normal ?_)
     refine wp_ret ?_
     refine then_ret (block_ret (then_ret (then_ret (block_ret (then_ret ?_)))))
     have H4 := X2.ext w lo_g1 H3
     refine ret2 (.agg #[.int .u64 ((ofL xs).1), .int .u64 ((ofL xs).2)]) (.int .i64 (ofC xs)) rfl ?_ ?_ rfl ?_
     · refine ⟨g1, 33, #[.int .u64 0, .int .u64 0], _, by kernel_rfl, B1, row_impl_Cells, ?_, ?_⟩
       · rfl
       · show (.agg #[.int .u64 ((ofL xs).1), .int .u64 ((ofL xs).2)] : Value) = (.agg #[.int .u64 0, .int .u64 0])
         refine congrArg Value.agg ?_
         first | rw [ofL_f (allIn_f (i := i) (by omega) (by assumption))] | rw [ofL_t (allIn_t (fun j hj => hall j (by omega))) (by omega) (by omega)]
     · refine (resT (v := .int .i64 2) (by kernel_rfl)).trans ?_
       refine congrArg (Value.int _) ?_
       first | exact (ofC_f (allIn_f (i := i) (by omega) (by assumption))).symm | exact (ofC_t (allIn_t (fun j hj => hall j (by omega)))).symm
     exact ⟨rfl, H4⟩
   · skip
     replace h2 := nbF h2
     have h2d := inT h2
     refine wp_skip ?_
     refine then_normal ?_
     refine wp_region_lit ?_
     refine wv (.slice (some ⟨b, 0, none⟩) xs.length cap) ?_
     refine wv (.int .i64 (i : Int)) ?_
     refine wsix1 b 0 xs.length cap i .i64 slit__int64 ?_
     replace hb := hb.ext E3
     refine wld b (0 + i) scal_int64 (hb.get (SlI.get hS (by omega))) ?_
     replace B2 := B2.ext E3
     refine wcl (l01Put_any ((setL xs i).1) ((setL xs i).2) g2 _ (atI xs i) (by omega) _ B2) ?_
     rintro w6 ⟨B2_, X3⟩
     clear B2; have B2 := B2_; clear B2_
     refine wpList_nil (block_normal (then_normal ?_))
     refine wp_region_lit ?_
     refine wv (.int .i64 (i : Int)) ?_
     refine wi64 ((i : Int) + 1) ?_
     refine wv (.int .i64 ((i : Int) + 1)) ?_
     refine wpList_nil (then_normal ?_)
     replace hb := X3.blk hb q_b_g2
     replace B1 := X3.blk (B1.ext E3) q_g1_g2
     have H5 := X3.ext w lo_g2 H3
     refine ⟨_, ?_, i + 1, rfl, ?_, ?_, H5, hb, B1, ?_, exJ (by kernel_rfl)⟩
     · omega
     · omega
     · exact all_step hall (by assumption)
     · rw [setL_s (by omega)]; exact B2
 · skip
   have h1d := dF h1
   refine wp_exit ?_
   refine then_exit ?_
   refine then_exit ?_
   refine block_exit ?_
   refine then_normal ?_
   refine wsr ?_
   refine wrow row_impl_Cells B2 (by rfl) ?_
   refine wput #[.int .u64 ((setL xs i).1), .int .u64 ((setL xs i).2)] row_impl_Cells B1 (by rfl) (by rfl) (by kernel_rfl) ?_
   intro w7 B1_ X4
   clear B1; have B1 := B1_; clear B1_
   refine wv (.int .i64 0) ?_
   refine wpList_nil (then_normal ?_)
   refine wp_ret ?_
   have H6 := X4.ext w lo_g1 HL1
   refine ret2 (.agg #[.int .u64 ((ofL xs).1), .int .u64 ((ofL xs).2)]) (.int .i64 (ofC xs)) rfl ?_ ?_ rfl ?_
   · refine ⟨g1, 33, #[.int .u64 ((setL xs i).1), .int .u64 ((setL xs i).2)], _, by kernel_rfl, B1, row_impl_Cells, ?_, ?_⟩
     · rfl
     · show (.agg #[.int .u64 ((ofL xs).1), .int .u64 ((ofL xs).2)] : Value) = (.agg #[.int .u64 ((setL xs i).1), .int .u64 ((setL xs i).2)])
       refine congrArg Value.agg ?_
       first | rw [ofL_f (allIn_f (i := i) (by omega) (by assumption))] | rw [ofL_t (allIn_t (fun j hj => hall j (by omega))) (by omega) (by omega)]
   · refine (resT (v := .int .i64 0) (by kernel_rfl)).trans ?_
     refine congrArg (Value.int _) ?_
     first | exact (ofC_f (allIn_f (i := i) (by omega) (by assumption))).symm | exact (ofC_t (allIn_t (fun j hj => hall j (by omega)))).symm
   exact ⟨rfl, H6⟩


--# iCellsOf_any
theorem iCellsOf_any (xs : List Int) (b cap : Nat) (cs : Array Value) (hS : SlI cs xs.length cap .i64 xs) (hx : xs.length ≤ 1048576) (w : World) (hb : Blk w b 2 cs) :
 Calls Try.prog 35 #[.slice (some ⟨b, 0, none⟩) xs.length cap] w fun e w' => e = .returned (.tuple #[.agg #[.int .u64 ((ofL xs).1), .int .u64 ((ofL xs).2)], .int .i64 (ofC xs)]) ∧ Ext w w' := by
 refine calls_of_wp Try.func35 rfl ?_
 refine wp_frame (a' := ⟨#[.slice (some ⟨b, 0, none⟩) xs.length cap, undef, undef, undef, undef, undef, undef, undef, undef, undef, undef, undef, undef, undef, undef, undef, undef, undef, undef, undef, undef, undef], []⟩) (by kernel_rfl) ?_
 refine wsr ?_
 refine wnew #[.int .u64 0, .int .u64 0] Try.zeroValue33 rfl ?_
 intro g1 w1 B1 E1 hg_
 have q_b_g1 := Nat.ne_of_lt (Nat.lt_of_lt_of_le hb.lt hg_)
 have lo_g1 := Nat.le_trans ((Ext.refl w)).size hg_
 refine wv (.int .i64 0) ?_
 refine wpList_nil (then_normal ?_)
 refine wsr ?_
 refine wv (.agg #[.int .u64 0, .int .u64 0]) ?_
 replace hb := hb.ext E1
 have H1 := (Ext.refl w).trans E1
 refine wnew #[.int .u64 0, .int .u64 0] Try.zeroValue33 rfl ?_
 intro g2 w2 B2 E2 hg_
 have q_b_g2 := Nat.ne_of_lt (Nat.lt_of_lt_of_le hb.lt hg_)
 have q_g1_g2 := Nat.ne_of_lt (Nat.lt_of_lt_of_le B1.lt hg_)
 have lo_g2 := Nat.le_trans (H1).size hg_
 refine wput #[.int .u64 0, .int .u64 0] row_impl_Cells B2 (by rfl) (by rfl) (by kernel_rfl) ?_
 intro w3 B2_ X1
 clear B2; have B2 := B2_; clear B2_
 refine wpList_nil (then_normal ?_)
 refine wp_seq ?_
 refine wsr ?_
 refine wv (.slice (some ⟨b, 0, none⟩) xs.length cap) ?_
 refine wv (.int .i64 (xs.length : Int)) ?_
 refine wv (.int .i64 0) ?_
 refine wpList_nil (then_normal ?_)
 refine wp_block ?_
 replace hb := X1.blk (hb.ext E2) q_b_g2
 replace B1 := X1.blk (B1.ext E2) q_g1_g2
 have H2 := X1.ext w lo_g2 (H1.trans E2)
 refine wp_loop_k (fun m1 a wl1 => ∃ (i : Nat), m1 = xs.length - i ∧ i ≤ xs.length ∧ (∀ j, j < i → inB (atI xs j) 0 99 = true) ∧ Ext w wl1 ∧ Blk wl1 b 2 cs ∧ Blk wl1 g1 33 #[.int .u64 0, .int .u64 0] ∧ Blk wl1 g2 33 #[.int .u64 ((setL xs i).1), .int .u64 ((setL xs i).2)] ∧ (∃ J1 : Nat → Value, a = ⟨#[.slice (some ⟨b, 0, none⟩) xs.length cap, undef, .pointer (some ⟨g1, 0, none⟩), J1 3, .pointer (some ⟨g2, 0, none⟩), undef, J1 6, .agg #[.int .u64 0, .int .u64 0], .slice (some ⟨b, 0, none⟩) xs.length cap, .int .i64 (xs.length : Int), .int .i64 (i : Int), J1 11, J1 12, J1 13, J1 14, J1 15, J1 16, J1 17, J1 18, J1 19, J1 20, undef], []⟩)) (xs.length) ?_ ?_
 · refine ⟨0, rfl, ?_, ?_, H2, hb, B1, ?_, exJ (by kernel_rfl)⟩
   · omega
   · intro j hj; omega
   · rw [setL_0]; exact B2
 intro m1 a wl1 hI
 obtain ⟨i, rfl, hi_, hall, HL1, hb, B1, B2, J1, rfl⟩ := hI
 refine wsr ?_
 refine wv (.bool (decide ((i : Int) < (xs.length : Int)))) ?_
 refine wpList_nil (then_normal ?_)
 refine wp_seq ?_
 refine wsplit (decide ((i : Int) < (xs.length : Int))) (fun h1 => ?_) (fun h1 => ?_)
 · skip
   have h1d := dT h1
   refine wp_skip ?_
   refine then_normal ?_
   refine wp_seq ?_
   refine wp_block ?_
   refine wsr ?_
   refine wsix1 b 0 xs.length cap i .i64 slit__int64 ?_
   refine wld b (0 + i) scal_int64 (hb.get (SlI.get hS (by omega))) ?_
   refine wv (.int .i64 (atI xs i)) ?_
   refine wpList_nil (then_normal ?_)
   refine wp_seq ?_
   refine wsr ?_
   refine wv (.int .i64 (atI xs i)) ?_
   refine wcl (within_any (atI xs i) 0 99 _) ?_
   intro w4 E3
   refine wv (.bool (!(inB (atI xs i) 0 99))) ?_
   refine wpList_nil (then_normal ?_)
   have H3 := HL1.trans E3
   refine wsplit (!(inB (atI xs i) 0 99)) (fun h2 => ?_) (fun h2 => ?_)
   · skip
     replace h2 := nbT h2
     have h2d := inF h2
     refine wsr ?_
     refine wv (.agg #[.int .u64 0, .int .u64 0]) ?_
     replace B1 := B1.ext E3
     refine wput #[.int .u64 0, .int .u64 0] row_impl_Cells B1 (by rfl) (by rfl) (by kernel_rfl) ?_
     intro w5 B1_ X2
     clear B1; have B1 := B1_; clear B1_
     refine wv (.int .i64 2) ?_
     refine wpList_nil (then_normal ?_)
     refine wp_ret ?_
     refine then_ret (block_ret (then_ret (then_ret (block_ret (then_ret ?_)))))
     have H4 := X2.ext w lo_g1 H3
     refine ret2 (.agg #[.int .u64 ((ofL xs).1), .int .u64 ((ofL xs).2)]) (.int .i64 (ofC xs)) rfl ?_ ?_ rfl ?_
     · refine ⟨g1, 33, #[.int .u64 0, .int .u64 0], _, by kernel_rfl, B1, row_impl_Cells, ?_, ?_⟩
       · rfl
       · show (.agg #[.int .u64 ((ofL xs).1), .int .u64 ((ofL xs).2)] : Value) = (.agg #[.int .u64 0, .int .u64 0])
         refine congrArg Value.agg ?_
         first | rw [ofL_f (allIn_f (i := i) (by omega) (by assumption))] | rw [ofL_t (allIn_t (fun j hj => hall j (by omega))) (by omega) (by omega)]
     · refine (resT (v := .int .i64 2) (by kernel_rfl)).trans ?_
       refine congrArg (Value.int _) ?_
       first | exact (ofC_f (allIn_f (i := i) (by omega) (by assumption))).symm | exact (ofC_t (allIn_t (fun j hj => hall j (by omega)))).symm
     exact ⟨rfl, H4⟩
   · skip
     replace h2 := nbF h2
     have h2d := inT h2
     refine wp_skip ?_
     refine then_normal ?_
     refine wp_region_lit ?_
     refine wv (.int .i64 (atI xs i)) ?_
     replace B2 := B2.ext E3
     refine wcl (put_any ((setL xs i).1) ((setL xs i).2) g2 _ (atI xs i) (by omega) _ B2) ?_
     rintro w6 ⟨B2_, X3⟩
     clear B2; have B2 := B2_; clear B2_
     refine wpList_nil (block_normal (then_normal ?_))
     refine wp_region_lit ?_
     refine wi64 ((i : Int) + 1) ?_
     refine wv (.int .i64 ((i : Int) + 1)) ?_
     refine wpList_nil (then_normal ?_)
     replace hb := X3.blk (hb.ext E3) q_b_g2
     replace B1 := X3.blk (B1.ext E3) q_g1_g2
     have H5 := X3.ext w lo_g2 H3
     refine ⟨_, ?_, i + 1, rfl, ?_, ?_, H5, hb, B1, ?_, exJ (by kernel_rfl)⟩
     · omega
     · omega
     · exact all_step hall (by assumption)
     · rw [setL_s (by omega)]; exact B2
 · skip
   have h1d := dF h1
   refine wp_exit ?_
   refine then_exit ?_
   refine then_exit ?_
   refine block_exit ?_
   refine then_normal ?_
   refine wsr ?_
   refine wrow row_impl_Cells B2 (by rfl) ?_
   refine wput #[.int .u64 ((setL xs i).1), .int .u64 ((setL xs i).2)] row_impl_Cells B1 (by rfl) (by rfl) (by kernel_rfl) ?_
   intro w7 B1_ X4
   clear B1; have B1 := B1_; clear B1_
   refine wv (.int .i64 0) ?_
   refine wpList_nil (then_normal ?_)
   refine wp_ret ?_
   have H6 := X4.ext w lo_g1 HL1
   refine ret2 (.agg #[.int .u64 ((ofL xs).1), .int .u64 ((ofL xs).2)]) (.int .i64 (ofC xs)) rfl ?_ ?_ rfl ?_
   · refine ⟨g1, 33, #[.int .u64 ((setL xs i).1), .int .u64 ((setL xs i).2)], _, by kernel_rfl, B1, row_impl_Cells, ?_, ?_⟩
     · rfl
     · show (.agg #[.int .u64 ((ofL xs).1), .int .u64 ((ofL xs).2)] : Value) = (.agg #[.int .u64 ((setL xs i).1), .int .u64 ((setL xs i).2)])
       refine congrArg Value.agg ?_
       first | rw [ofL_f (allIn_f (i := i) (by omega) (by assumption))] | rw [ofL_t (allIn_t (fun j hj => hall j (by omega))) (by omega) (by omega)]
   · refine (resT (v := .int .i64 0) (by kernel_rfl)).trans ?_
     refine congrArg (Value.int _) ?_
     first | exact (ofC_f (allIn_f (i := i) (by omega) (by assumption))).symm | exact (ofC_t (allIn_t (fun j hj => hall j (by omega)))).symm
   exact ⟨rfl, H6⟩


--# l01List_any
theorem l01List_any (x y : Int) (b : Nat) (t : TypeId) (w : World) (hb : Blk w b t #[.int .u64 x, .int .u64 y]) :
 Calls Try.prog 74 #[.pointer (some ⟨b, 0, none⟩)] w fun e w' => RetI w 2 .i64 (listL x y) id e w' := by
 refine calls_of_wp Try.func74 rfl ?_
 refine wp_frame (a' := ⟨#[.pointer (some ⟨b, 0, none⟩), undef, undef, undef, undef, undef, undef, undef, undef, undef, undef, undef, undef, undef, undef, undef, undef, undef], []⟩) (by kernel_rfl) ?_
 refine wsr ?_
 refine wv (.slice none 0 0) ?_
 refine wpList_nil (then_normal ?_)
 refine wsr ?_
 refine wbsl 0 #[] slt__int64 ?_
 intro g1 w1 B1 E1 hg_
 have q_b_g1 := Nat.ne_of_lt (Nat.lt_of_lt_of_le hb.lt hg_)
 have lo_g1 := Nat.le_trans ((Ext.refl w)).size hg_
 have S1 : SlI #[] 0 0 .i64 [] := SlI.nil
 refine wv (.slice (some ⟨g1, 0, none⟩) 0 0) ?_
 refine wpList_nil (then_normal ?_)
 refine wp_seq ?_
 refine wsr ?_
 refine wv (.int .i64 0) ?_
 refine wpList_nil (then_normal ?_)
 refine wp_block ?_
 replace hb := hb.ext E1
 have H1 := (Ext.refl w).trans E1
 refine wp_loop_k (fun m1 a wl1 => ∃ (i : Nat) (go : Nat) (no : Nat) (capo : Nat) (cso : Array Value), m1 = 100 - i ∧ i ≤ 100 ∧ SlI cso no capo .i64 (listN x y i) ∧ w.heap.size ≤ go ∧ b ≠ go ∧ Ext w wl1 ∧ Blk wl1 b t #[.int .u64 x, .int .u64 y] ∧ Blk wl1 go 2 cso ∧ (∃ J1 : Nat → Value, a = ⟨#[.pointer (some ⟨b, 0, none⟩), undef, .slice none 0 0, .slice (some ⟨go, 0, none⟩) no capo, .int .i64 (i : Int), .slice (some ⟨g1, 0, none⟩) 0 0, J1 6, J1 7, J1 8, J1 9, J1 10, J1 11, J1 12, J1 13, J1 14, J1 15, J1 16, undef], []⟩)) (100) ?_ ?_
 · refine ⟨0, g1, 0, 0, #[], rfl, ?_, ?_, ?_, ?_, H1, hb, B1, exJ (by kernel_rfl)⟩
   · omega
   · refine S1.of_eq ?_
     exact (listN_0 x y).symm
   · exact lo_g1
   · exact q_b_g1
 intro m1 a wl1 hI
 obtain ⟨i, go, no, capo, cso, rfl, hi_, So, lo_go, n_b_go, HL1, hb, Bo, J1, rfl⟩ := hI
 have cl_ := listN_length x y i
 have len_So := So.len
 refine wp_seq ?_
 refine wsr ?_
 refine wv (.int .i64 (i : Int)) ?_
 refine wv (.bool (decide ((i : Int) < 100))) ?_
 refine wpList_nil (then_normal ?_)
 refine wsplit (decide ((i : Int) < 100)) (fun h1 => ?_) (fun h1 => ?_)
 · skip
   have h1d := dT h1
   refine wp_skip ?_
   refine then_normal ?_
   refine wp_seq ?_
   refine wp_block ?_
   refine wsr ?_
   refine wv (.pointer (some ⟨b, 0, none⟩)) ?_
   refine wv (.int .i64 (i : Int)) ?_
   refine wcl (l01Has_any x y b _ (i : Int) _ hb) ?_
   intro w2 E2
   refine wpList_nil (then_normal ?_)
   have H2 := HL1.trans E2
   refine wsplit (hasB x y (i : Int)) (fun h2 => ?_) (fun h2 => ?_)
   · skip
     refine wp_region_lit ?_
     refine wv (.slice (some ⟨go, 0, none⟩) no capo) ?_
     refine wv (.int .i64 (i : Int)) ?_
     replace hb := hb.ext E2
     replace Bo := Bo.ext E2
     refine wbsl 1 #[.int .i64 (i : Int)] slt__int64 ?_
     intro g2 w3 B2 E3 hg_
     have q_b_g2 := Nat.ne_of_lt (Nat.lt_of_lt_of_le hb.lt hg_)
     have q_go_g2 := Nat.ne_of_lt (Nat.lt_of_lt_of_le Bo.lt hg_)
     have lo_g2 := Nat.le_trans (H2).size hg_
     replace hb := hb.ext E3
     replace Bo := Bo.ext E3
     have H3 := H2.trans E3
     refine wappi (i : Int) slt__int64 Bo So B2 ?_
     intro g3 cap1 cs1 w4 B3 S2 X1 or1
     have n_b_g3 := ne_app hb n_b_go or1
     have n_g2_g3 := ne_app B2 (Ne.symm q_go_g2) or1
     have lo_g3 := Wr.lo or1 lo_go (H3).size
     refine wv (.slice (some ⟨g3, 0, none⟩) (no + 1) cap1) ?_
     refine wpList_nil (block_normal (then_normal ?_))
     refine wp_region_lit ?_
     refine wv (.int .i64 (i : Int)) ?_
     refine wi64 ((i : Int) + 1) ?_
     refine wv (.int .i64 ((i : Int) + 1)) ?_
     refine wpList_nil (then_normal ?_)
     replace hb := X1.blk hb n_b_go
     have H4 := X1.ext w lo_go H3
     refine ⟨_, ?_, i + 1, g3, no + 1, cap1, cs1, rfl, ?_, ?_, ?_, ?_, H4, hb, B3, exJ (by kernel_rfl)⟩
     · omega
     · omega
     · refine S2.of_eq ?_
       first | exact (listN_1 (by assumption)).symm | exact (listN_2 (by assumption)).symm
     · exact lo_g3
     · exact n_b_g3
   · skip
     refine wp_skip ?_
     refine block_normal (then_normal ?_)
     refine wp_region_lit ?_
     refine wv (.int .i64 (i : Int)) ?_
     refine wi64 ((i : Int) + 1) ?_
     refine wv (.int .i64 ((i : Int) + 1)) ?_
     refine wpList_nil (then_normal ?_)
     replace hb := hb.ext E2
     replace Bo := Bo.ext E2
     refine ⟨_, ?_, i + 1, go, no, capo, cso, rfl, ?_, ?_, ?_, ?_, H2, hb, Bo, exJ (by kernel_rfl)⟩
     · omega
     · omega
     · refine So.of_eq ?_
       first | exact (listN_1 (by assumption)).symm | exact (listN_2 (by assumption)).symm
     · exact lo_go
     · exact n_b_go
 · skip
   have h1d := dF h1
   refine wp_exit ?_
   refine then_exit ?_
   refine then_exit ?_
   refine block_exit ?_
   refine then_normal ?_
   refine wsr ?_
   refine wv (.slice (some ⟨go, 0, none⟩) no capo) ?_
   refine wv (.slice (some ⟨go, 0, none⟩) no capo) ?_
   refine wpList_nil (then_normal ?_)
   refine wp_ret ?_
   refine ret1 (.slice (some ⟨go, 0, none⟩) no capo) rfl ?_ rfl ?_
   · exact resT (by kernel_rfl)
   have hq : listN x y i = listL x y := by
     exact listN_end (by omega) (by omega)
   exact ⟨go, no, capo, cso, rfl, Bo, So.of_eq hq, HL1, lo_go⟩


--# iListOf_any
theorem iListOf_any (x y : Int) (w : World) :
 Calls Try.prog 34 #[.agg #[.int .u64 x, .int .u64 y]] w fun e w' => RetI w 2 .i64 (listL x y) id e w' := by
 refine calls_of_wp Try.func34 rfl ?_
 refine wp_frame (a' := ⟨#[.agg #[.int .u64 x, .int .u64 y], undef, undef, undef, undef, undef, undef, undef, undef, undef, undef, undef, undef, undef, undef, undef, undef, undef], []⟩) (by kernel_rfl) ?_
 refine wsr ?_
 refine wbox #[.int .u64 x, .int .u64 y] ?_
 intro g1 w1 B1 E1 hg_
 have lo_g1 := Nat.le_trans ((Ext.refl w)).size hg_
 refine wv (.slice none 0 0) ?_
 refine wpList_nil (then_normal ?_)
 refine wsr ?_
 have H1 := (Ext.refl w).trans E1
 refine wbsl 0 #[] slt__int64 ?_
 intro g2 w2 B2 E2 hg_
 have q_g1_g2 := Nat.ne_of_lt (Nat.lt_of_lt_of_le B1.lt hg_)
 have lo_g2 := Nat.le_trans (H1).size hg_
 have S1 : SlI #[] 0 0 .i64 [] := SlI.nil
 refine wv (.slice (some ⟨g2, 0, none⟩) 0 0) ?_
 refine wpList_nil (then_normal ?_)
 refine wp_seq ?_
 refine wsr ?_
 refine wv (.int .i64 0) ?_
 refine wpList_nil (then_normal ?_)
 refine wp_block ?_
 replace B1 := B1.ext E2
 have H2 := H1.trans E2
 refine wp_loop_k (fun m1 a wl1 => ∃ (i : Nat) (go : Nat) (no : Nat) (capo : Nat) (cso : Array Value), m1 = 100 - i ∧ i ≤ 100 ∧ SlI cso no capo .i64 (listN x y i) ∧ w.heap.size ≤ go ∧ g1 ≠ go ∧ Ext w wl1 ∧ Blk wl1 g1 33 #[.int .u64 x, .int .u64 y] ∧ Blk wl1 go 2 cso ∧ (∃ J1 : Nat → Value, a = ⟨#[.agg #[.int .u64 x, .int .u64 y], .pointer (some ⟨g1, 0, none⟩), .slice none 0 0, .slice (some ⟨go, 0, none⟩) no capo, J1 4, .slice (some ⟨g2, 0, none⟩) 0 0, .int .i64 (i : Int), J1 7, J1 8, J1 9, J1 10, J1 11, J1 12, J1 13, J1 14, J1 15, J1 16, undef], []⟩)) (100) ?_ ?_
 · refine ⟨0, g2, 0, 0, #[], rfl, ?_, ?_, ?_, ?_, H2, B1, B2, exJ (by kernel_rfl)⟩
   · omega
   · refine S1.of_eq ?_
     exact (listN_0 x y).symm
   · exact lo_g2
   · exact q_g1_g2
 intro m1 a wl1 hI
 obtain ⟨i, go, no, capo, cso, rfl, hi_, So, lo_go, n_g1_go, HL1, B1, Bo, J1, rfl⟩ := hI
 have cl_ := listN_length x y i
 have len_So := So.len
 refine wsr ?_
 refine wv (.bool (decide ((i : Int) < 100))) ?_
 refine wpList_nil (then_normal ?_)
 refine wp_seq ?_
 refine wsplit (decide ((i : Int) < 100)) (fun h1 => ?_) (fun h1 => ?_)
 · skip
   have h1d := dT h1
   refine wp_skip ?_
   refine then_normal ?_
   refine wp_seq ?_
   refine wp_block ?_
   refine wsr ?_
   refine wv (.int .i64 (i : Int)) ?_
   refine wv (.int .i64 (i : Int)) ?_
   refine wpList_nil (then_normal ?_)
   refine wsr ?_
   refine wrow row_impl_Cells B1 (by rfl) ?_
   refine wv (.int .i64 (i : Int)) ?_
   refine wcl (iHasCell_any x y (i : Int) _) ?_
   intro w3 E3
   refine wpList_nil (then_normal ?_)
   have H3 := HL1.trans E3
   refine wsplit (hasB x y (i : Int)) (fun h2 => ?_) (fun h2 => ?_)
   · skip
     refine wp_region_lit ?_
     refine wv (.slice (some ⟨go, 0, none⟩) no capo) ?_
     refine wv (.int .i64 (i : Int)) ?_
     replace B1 := B1.ext E3
     replace Bo := Bo.ext E3
     refine wbsl 1 #[.int .i64 (i : Int)] slt__int64 ?_
     intro g3 w4 B3 E4 hg_
     have q_g1_g3 := Nat.ne_of_lt (Nat.lt_of_lt_of_le B1.lt hg_)
     have q_go_g3 := Nat.ne_of_lt (Nat.lt_of_lt_of_le Bo.lt hg_)
     have lo_g3 := Nat.le_trans (H3).size hg_
     replace B1 := B1.ext E4
     replace Bo := Bo.ext E4
     have H4 := H3.trans E4
     refine wappi (i : Int) slt__int64 Bo So B3 ?_
     intro g4 cap1 cs1 w5 B4 S2 X1 or1
     have n_g1_g4 := ne_app B1 n_g1_go or1
     have n_g3_g4 := ne_app B3 (Ne.symm q_go_g3) or1
     have lo_g4 := Wr.lo or1 lo_go (H4).size
     refine wv (.slice (some ⟨g4, 0, none⟩) (no + 1) cap1) ?_
     refine wpList_nil (block_normal (then_normal ?_))
     refine wp_region_lit ?_
     refine wi64 ((i : Int) + 1) ?_
     refine wv (.int .i64 ((i : Int) + 1)) ?_
     refine wpList_nil (then_normal ?_)
     replace B1 := X1.blk B1 n_g1_go
     have H5 := X1.ext w lo_go H4
     refine ⟨_, ?_, i + 1, g4, no + 1, cap1, cs1, rfl, ?_, ?_, ?_, ?_, H5, B1, B4, exJ (by kernel_rfl)⟩
     · omega
     · omega
     · refine S2.of_eq ?_
       first | exact (listN_1 (by assumption)).symm | exact (listN_2 (by assumption)).symm
     · exact lo_g4
     · exact n_g1_g4
   · skip
     refine wp_skip ?_
     refine block_normal (then_normal ?_)
     refine wp_region_lit ?_
     refine wi64 ((i : Int) + 1) ?_
     refine wv (.int .i64 ((i : Int) + 1)) ?_
     refine wpList_nil (then_normal ?_)
     replace B1 := B1.ext E3
     replace Bo := Bo.ext E3
     refine ⟨_, ?_, i + 1, go, no, capo, cso, rfl, ?_, ?_, ?_, ?_, H3, B1, Bo, exJ (by kernel_rfl)⟩
     · omega
     · omega
     · refine So.of_eq ?_
       first | exact (listN_1 (by assumption)).symm | exact (listN_2 (by assumption)).symm
     · exact lo_go
     · exact n_g1_go
 · skip
   have h1d := dF h1
   refine wp_exit ?_
   refine then_exit ?_
   refine then_exit ?_
   refine block_exit ?_
   refine then_normal ?_
   refine wsr ?_
   refine wv (.slice (some ⟨go, 0, none⟩) no capo) ?_
   refine wv (.slice (some ⟨go, 0, none⟩) no capo) ?_
   refine wpList_nil (then_normal ?_)
   refine wp_ret ?_
   refine ret1 (.slice (some ⟨go, 0, none⟩) no capo) rfl ?_ rfl ?_
   · exact resT (by kernel_rfl)
   have hq : listN x y i = listL x y := by
     exact listN_end (by omega) (by omega)
   exact ⟨go, no, capo, cso, rfl, Bo, So.of_eq hq, HL1, lo_go⟩


--# toInt64S_some
theorem toInt64S_some (xs : List Int) (ad : Addr) (cap : Nat) (hx : xs.length ≤ 1048576) (w : World) (hA : SlA w ad .i64 xs) :
 Calls Try.prog 61 #[.slice (some ad) xs.length cap] w fun e w' => RetI w 2 .i64 xs id e w' := by
 refine calls_of_wp Try.func61 rfl ?_
 refine wp_frame (a' := ⟨#[.slice (some ad) xs.length cap, undef, undef, undef, undef, undef, undef, undef, undef, undef, undef, undef, undef, undef, undef, undef, undef, undef, undef, undef, undef, undef], []⟩) (by kernel_rfl) ?_
 refine wsr ?_
 refine wv (.slice none 0 0) ?_
 refine wpList_nil (then_normal ?_)
 refine wsr ?_
 refine wv (.slice (some ad) xs.length cap) ?_
 refine wv (.int .i64 (xs.length : Int)) ?_
 refine wmsl (k1 := .i64) (k2 := .i64) xs.length slt__int64 ?_
 intro g1 w1 B1 E1 hg_
 have lo_g1 := Nat.le_trans ((Ext.refl w)).size hg_
 have S1 := madeI (k := .i64) xs.length (by simp only [maxLen]; omega)
 refine wv (.slice (some ⟨g1, 0, none⟩) xs.length xs.length) ?_
 refine wpList_nil (then_normal ?_)
 refine wp_seq ?_
 refine wsr ?_
 refine wv (.int .i64 0) ?_
 refine wpList_nil (then_normal ?_)
 refine wp_block ?_
 have H1 := (Ext.refl w).trans E1
 refine wp_loop_k (fun m1 a wl1 => ∃ (i : Nat) (ys : List Int) (cs_ : Array Value), m1 = xs.length - i ∧ i ≤ xs.length ∧ SlI cs_ xs.length xs.length .i64 ys ∧ ys.length = xs.length ∧ (∀ j, j < i → atI ys j = atI xs j) ∧ Ext w wl1 ∧ Blk wl1 g1 2 cs_ ∧ (∃ J1 : Nat → Value, a = ⟨#[.slice (some ad) xs.length cap, undef, .slice none 0 0, .slice (some ⟨g1, 0, none⟩) xs.length xs.length, .int .i64 (i : Int), .slice (some ad) xs.length cap, .int .i64 (xs.length : Int), .slice (some ⟨g1, 0, none⟩) xs.length xs.length, J1 8, J1 9, J1 10, J1 11, J1 12, J1 13, J1 14, J1 15, J1 16, J1 17, J1 18, J1 19, J1 20, undef], []⟩)) (xs.length) ?_ ?_
 · refine ⟨0, List.replicate xs.length (0 : Int), (madeCells (Value.int .i64 0).cells (xs.length * 1)), rfl, ?_, ?_, ?_, ?_, H1, B1, exJ (by kernel_rfl)⟩
   · omega
   · exact S1
   · simp
   · intro j hj; omega
 intro m1 a wl1 hI
 obtain ⟨i, ys, cs_, rfl, hi_, Sm, hl_, hys, HL1, B1, J1, rfl⟩ := hI
 refine wp_seq ?_
 refine wsr ?_
 refine wv (.int .i64 (i : Int)) ?_
 refine wv (.slice (some ad) xs.length cap) ?_
 refine wv (.int .i64 (xs.length : Int)) ?_
 refine wv (.bool (decide ((i : Int) < (xs.length : Int)))) ?_
 refine wpList_nil (then_normal ?_)
 refine wsplit (decide ((i : Int) < (xs.length : Int))) (fun h1 => ?_) (fun h1 => ?_)
 · skip
   have h1d := dT h1
   refine wp_skip ?_
   refine then_normal ?_
   refine wp_seq ?_
   refine wp_block ?_
   refine wp_region_lit ?_
   refine wv (.slice (some ⟨g1, 0, none⟩) xs.length xs.length) ?_
   refine wv (.int .i64 (i : Int)) ?_
   refine wv (.slice (some ad) xs.length cap) ?_
   refine wv (.int .i64 (i : Int)) ?_
   refine wsixA ad xs.length cap i .i64 slit__int64 ?_
   refine wldA (v := .int .i64 (atI xs i)) (ad.add (i * 1)) scal_int64 ((SlA.ext hA HL1).get (by omega)) ?_
   refine wsix1 g1 0 xs.length xs.length i .i64 slit__int64 ?_
   have S2 := SlI.set Sm i (atI xs i)
   refine wst g1 (0 + i) (.int .i64 (atI xs i)) scal_int64 B1 (rfl) (by exact SlI.lt Sm (by omega)) ?_
   intro w2 B1_ X1
   clear B1; have B1 := B1_; clear B1_
   refine wpList_nil (block_normal (then_normal ?_))
   refine wp_region_lit ?_
   refine wv (.int .i64 (i : Int)) ?_
   refine wi64 ((i : Int) + 1) ?_
   refine wv (.int .i64 ((i : Int) + 1)) ?_
   refine wpList_nil (then_normal ?_)
   have H2 := X1.ext w lo_g1 HL1
   refine ⟨_, ?_, i + 1, ys.set i (atI xs i), (cs_.setIfInBounds (0 + i) (.int .i64 (atI xs i))), rfl, ?_, ?_, ?_, ?_, H2, B1, exJ (by kernel_rfl)⟩
   · omega
   · omega
   · exact S2
   · rw [List.length_set]; exact hl_
   · intro j hj
     by_cases hji : i = j
     · subst hji; rw [atI_set_self (by omega)]
     · rw [atI_set_ne (by omega) hji]; exact hys j (by omega)
 · skip
   have h1d := dF h1
   refine wp_exit ?_
   refine then_exit ?_
   refine then_exit ?_
   refine block_exit ?_
   refine then_normal ?_
   refine wsr ?_
   refine wv (.slice (some ⟨g1, 0, none⟩) xs.length xs.length) ?_
   refine wv (.slice (some ⟨g1, 0, none⟩) xs.length xs.length) ?_
   refine wpList_nil (then_normal ?_)
   refine wp_ret ?_
   refine ret1 (.slice (some ⟨g1, 0, none⟩) xs.length xs.length) rfl ?_ rfl ?_
   · exact resT (by kernel_rfl)
   have hq : ys = xs := by
     exact list_eq (by omega) (fun j hj => hys j (by omega))
   exact ⟨g1, xs.length, xs.length, cs_, rfl, B1, Sm.of_eq hq, HL1, lo_g1⟩


--# toInt64S_nil
theorem toInt64S_nil (w : World) :
 Calls Try.prog 61 #[.slice none 0 0] w fun e w' => RetI w 2 .i64 ([] : List Int) id e w' := by
 refine calls_of_wp Try.func61 rfl ?_
 refine wp_frame (a' := ⟨#[.slice none 0 0, undef, undef, undef, undef, undef, undef, undef, undef, undef, undef, undef, undef, undef, undef, undef, undef, undef, undef, undef, undef, undef], []⟩) (by kernel_rfl) ?_
 refine wsr ?_
 refine wv (.slice none 0 0) ?_
 refine wpList_nil (then_normal ?_)
 refine wsr ?_
 refine wv (.slice none 0 0) ?_
 refine wv (.int .i64 0) ?_
 refine wmsl (k1 := .i64) (k2 := .i64) 0 slt__int64 ?_
 intro g1 w1 B1 E1 hg_
 have lo_g1 := Nat.le_trans ((Ext.refl w)).size hg_
 have S1 := madeI (k := .i64) 0 (by simp only [maxLen]; omega)
 refine wv (.slice (some ⟨g1, 0, none⟩) 0 0) ?_
 refine wpList_nil (then_normal ?_)
 refine wp_seq ?_
 refine wsr ?_
 refine wv (.int .i64 0) ?_
 refine wpList_nil (then_normal ?_)
 refine wp_block ?_
 refine wp_loop_rounds 1 ?_
 refine rounds_s ?_
 refine wp_seq ?_
 refine wsr ?_
 refine wv (.int .i64 0) ?_
 refine wv (.slice none 0 0) ?_
 refine wv (.int .i64 0) ?_
 refine wv (.bool false) ?_
 refine wpList_nil (then_normal ?_)
 refine wcf ?_
 refine wp_exit ?_
 refine then_exit ?_
 refine then_exit ?_
 refine block_exit ?_
 refine then_normal ?_
 refine wsr ?_
 refine wv (.slice (some ⟨g1, 0, none⟩) 0 0) ?_
 refine wv (.slice (some ⟨g1, 0, none⟩) 0 0) ?_
 refine wpList_nil (then_normal ?_)
 refine wp_ret ?_
 refine ret1 (.slice (some ⟨g1, 0, none⟩) 0 0) rfl ?_ rfl ?_
 · exact resT (by kernel_rfl)
 have H1 := (Ext.refl w).trans E1
 have hq : List.replicate 0 (0 : Int) = ([] : List Int) := by
   rfl
 exact ⟨g1, 0, 0, (madeCells (Value.int .i64 0).cells (0 * 1)), rfl, B1, S1.of_eq hq, H1, lo_g1⟩


--# toInt64S_any
theorem toInt64S_any (xs : List Int) (v : Value) (hx : xs.length ≤ 1048576) (w : World) (h : SlIn w v .i64 xs) : Calls Try.prog 61 #[v] w (RetI w 2 .i64 xs id) := by
  rcases h with ⟨rfl, rfl⟩ | ⟨ad, cap, rfl, h⟩
  · exact toInt64S_nil w
  · exact toInt64S_some xs ad cap hx w h

--# toBeat_some
theorem toBeat_some (xs : List Int) (ad : Addr) (cap : Nat) (hx : xs.length ≤ 1048576) (w : World) (hA : SlA w ad .i16 xs) :
 Calls Try.prog 57 #[.slice (some ad) xs.length cap] w fun e w' => RetI w 23 .i16 xs id e w' := by
 refine calls_of_wp Try.func57 rfl ?_
 refine wp_frame (a' := ⟨#[.slice (some ad) xs.length cap, undef, undef, undef, undef, undef, undef, undef, undef, undef, undef, undef, undef, undef, undef, undef, undef, undef, undef, undef, undef, undef], []⟩) (by kernel_rfl) ?_
 refine wsr ?_
 refine wv (.slice none 0 0) ?_
 refine wpList_nil (then_normal ?_)
 refine wsr ?_
 refine wv (.slice (some ad) xs.length cap) ?_
 refine wv (.int .i64 (xs.length : Int)) ?_
 refine wmsl (k1 := .i64) (k2 := .i64) xs.length slt_impl_Beat ?_
 intro g1 w1 B1 E1 hg_
 have lo_g1 := Nat.le_trans ((Ext.refl w)).size hg_
 have S1 := madeI (k := .i16) xs.length (by simp only [maxLen]; omega)
 refine wv (.slice (some ⟨g1, 0, none⟩) xs.length xs.length) ?_
 refine wpList_nil (then_normal ?_)
 refine wp_seq ?_
 refine wsr ?_
 refine wv (.int .i64 0) ?_
 refine wpList_nil (then_normal ?_)
 refine wp_block ?_
 have H1 := (Ext.refl w).trans E1
 refine wp_loop_k (fun m1 a wl1 => ∃ (i : Nat) (ys : List Int) (cs_ : Array Value), m1 = xs.length - i ∧ i ≤ xs.length ∧ SlI cs_ xs.length xs.length .i16 ys ∧ ys.length = xs.length ∧ (∀ j, j < i → atI ys j = atI xs j) ∧ Ext w wl1 ∧ Blk wl1 g1 23 cs_ ∧ (∃ J1 : Nat → Value, a = ⟨#[.slice (some ad) xs.length cap, undef, .slice none 0 0, .slice (some ⟨g1, 0, none⟩) xs.length xs.length, .int .i64 (i : Int), .slice (some ad) xs.length cap, .int .i64 (xs.length : Int), .slice (some ⟨g1, 0, none⟩) xs.length xs.length, J1 8, J1 9, J1 10, J1 11, J1 12, J1 13, J1 14, J1 15, J1 16, J1 17, J1 18, J1 19, J1 20, undef], []⟩)) (xs.length) ?_ ?_
 · refine ⟨0, List.replicate xs.length (0 : Int), (madeCells (Value.int .i16 0).cells (xs.length * 1)), rfl, ?_, ?_, ?_, ?_, H1, B1, exJ (by kernel_rfl)⟩
   · omega
   · exact S1
   · simp
   · intro j hj; omega
 intro m1 a wl1 hI
 obtain ⟨i, ys, cs_, rfl, hi_, Sm, hl_, hys, HL1, B1, J1, rfl⟩ := hI
 refine wp_seq ?_
 refine wsr ?_
 refine wv (.int .i64 (i : Int)) ?_
 refine wv (.slice (some ad) xs.length cap) ?_
 refine wv (.int .i64 (xs.length : Int)) ?_
 refine wv (.bool (decide ((i : Int) < (xs.length : Int)))) ?_
 refine wpList_nil (then_normal ?_)
 refine wsplit (decide ((i : Int) < (xs.length : Int))) (fun h1 => ?_) (fun h1 => ?_)
 · skip
   have h1d := dT h1
   refine wp_skip ?_
   refine then_normal ?_
   refine wp_seq ?_
   refine wp_block ?_
   refine wp_region_lit ?_
   refine wv (.slice (some ⟨g1, 0, none⟩) xs.length xs.length) ?_
   refine wv (.int .i64 (i : Int)) ?_
   refine wv (.slice (some ad) xs.length cap) ?_
   refine wv (.int .i64 (i : Int)) ?_
   refine wsixA ad xs.length cap i .i64 slit__int16 ?_
   refine wldA (v := .int .i16 (atI xs i)) (ad.add (i * 1)) scal_int16 ((SlA.ext hA HL1).get (by omega)) ?_
   refine wsix1 g1 0 xs.length xs.length i .i64 slit_impl_Beat ?_
   have S2 := SlI.set Sm i (atI xs i)
   refine wst g1 (0 + i) (.int .i16 (atI xs i)) scal_int16 B1 (rfl) (by exact SlI.lt Sm (by omega)) ?_
   intro w2 B1_ X1
   clear B1; have B1 := B1_; clear B1_
   refine wpList_nil (block_normal (then_normal ?_))
   refine wp_region_lit ?_
   refine wv (.int .i64 (i : Int)) ?_
   refine wi64 ((i : Int) + 1) ?_
   refine wv (.int .i64 ((i : Int) + 1)) ?_
   refine wpList_nil (then_normal ?_)
   have H2 := X1.ext w lo_g1 HL1
   refine ⟨_, ?_, i + 1, ys.set i (atI xs i), (cs_.setIfInBounds (0 + i) (.int .i16 (atI xs i))), rfl, ?_, ?_, ?_, ?_, H2, B1, exJ (by kernel_rfl)⟩
   · omega
   · omega
   · exact S2
   · rw [List.length_set]; exact hl_
   · intro j hj
     by_cases hji : i = j
     · subst hji; rw [atI_set_self (by omega)]
     · rw [atI_set_ne (by omega) hji]; exact hys j (by omega)
 · skip
   have h1d := dF h1
   refine wp_exit ?_
   refine then_exit ?_
   refine then_exit ?_
   refine block_exit ?_
   refine then_normal ?_
   refine wsr ?_
   refine wv (.slice (some ⟨g1, 0, none⟩) xs.length xs.length) ?_
   refine wv (.slice (some ⟨g1, 0, none⟩) xs.length xs.length) ?_
   refine wpList_nil (then_normal ?_)
   refine wp_ret ?_
   refine ret1 (.slice (some ⟨g1, 0, none⟩) xs.length xs.length) rfl ?_ rfl ?_
   · exact resT (by kernel_rfl)
   have hq : ys = xs := by
     exact list_eq (by omega) (fun j hj => hys j (by omega))
   exact ⟨g1, xs.length, xs.length, cs_, rfl, B1, Sm.of_eq hq, HL1, lo_g1⟩


--# toBeat_nil
theorem toBeat_nil (w : World) :
 Calls Try.prog 57 #[.slice none 0 0] w fun e w' => RetI w 23 .i16 ([] : List Int) id e w' := by
 refine calls_of_wp Try.func57 rfl ?_
 refine wp_frame (a' := ⟨#[.slice none 0 0, undef, undef, undef, undef, undef, undef, undef, undef, undef, undef, undef, undef, undef, undef, undef, undef, undef, undef, undef, undef, undef], []⟩) (by kernel_rfl) ?_
 refine wsr ?_
 refine wv (.slice none 0 0) ?_
 refine wpList_nil (then_normal ?_)
 refine wsr ?_
 refine wv (.slice none 0 0) ?_
 refine wv (.int .i64 0) ?_
 refine wmsl (k1 := .i64) (k2 := .i64) 0 slt_impl_Beat ?_
 intro g1 w1 B1 E1 hg_
 have lo_g1 := Nat.le_trans ((Ext.refl w)).size hg_
 have S1 := madeI (k := .i16) 0 (by simp only [maxLen]; omega)
 refine wv (.slice (some ⟨g1, 0, none⟩) 0 0) ?_
 refine wpList_nil (then_normal ?_)
 refine wp_seq ?_
 refine wsr ?_
 refine wv (.int .i64 0) ?_
 refine wpList_nil (then_normal ?_)
 refine wp_block ?_
 refine wp_loop_rounds 1 ?_
 refine rounds_s ?_
 refine wp_seq ?_
 refine wsr ?_
 refine wv (.int .i64 0) ?_
 refine wv (.slice none 0 0) ?_
 refine wv (.int .i64 0) ?_
 refine wv (.bool false) ?_
 refine wpList_nil (then_normal ?_)
 refine wcf ?_
 refine wp_exit ?_
 refine then_exit ?_
 refine then_exit ?_
 refine block_exit ?_
 refine then_normal ?_
 refine wsr ?_
 refine wv (.slice (some ⟨g1, 0, none⟩) 0 0) ?_
 refine wv (.slice (some ⟨g1, 0, none⟩) 0 0) ?_
 refine wpList_nil (then_normal ?_)
 refine wp_ret ?_
 refine ret1 (.slice (some ⟨g1, 0, none⟩) 0 0) rfl ?_ rfl ?_
 · exact resT (by kernel_rfl)
 have H1 := (Ext.refl w).trans E1
 have hq : List.replicate 0 (0 : Int) = ([] : List Int) := by
   rfl
 exact ⟨g1, 0, 0, (madeCells (Value.int .i16 0).cells (0 * 1)), rfl, B1, S1.of_eq hq, H1, lo_g1⟩


--# toBeat_any
theorem toBeat_any (xs : List Int) (v : Value) (hx : xs.length ≤ 1048576) (w : World) (h : SlIn w v .i16 xs) : Calls Try.prog 57 #[v] w (RetI w 23 .i16 xs id) := by
  rcases h with ⟨rfl, rfl⟩ | ⟨ad, cap, rfl, h⟩
  · exact toBeat_nil w
  · exact toBeat_some xs ad cap hx w h

--# eqInt64S_same
theorem eqInt64S_same (xs : List Int) (b cap : Nat) (cs : Array Value) (hS : SlI cs xs.length cap .i64 xs) (b2 cap2 : Nat) (cs2 : Array Value) (hS2 : SlI cs2 xs.length cap2 .i64 xs) (hx : xs.length ≤ 1048576) (w : World) (hb : Blk w b 2 cs) (hb2 : Blk w b2 2 cs2) :
 Calls Try.prog 62 #[.slice (some ⟨b, 0, none⟩) xs.length cap, .slice (some ⟨b2, 0, none⟩) xs.length cap2] w fun e w' => e = .returned (.bool true) ∧ Ext w w' := by
 refine calls_of_wp Try.func62 rfl ?_
 refine wp_frame (a' := ⟨#[.slice (some ⟨b, 0, none⟩) xs.length cap, .slice (some ⟨b2, 0, none⟩) xs.length cap2, undef, undef, undef, undef, undef, undef, undef, undef, undef, undef, undef, undef, undef, undef, undef, undef, undef, undef, undef, undef, undef, undef, undef, undef], []⟩) (by kernel_rfl) ?_
 refine wsr ?_
 refine wv (.bool false) ?_
 refine wpList_nil (then_normal ?_)
 refine wp_seq ?_
 refine wsr ?_
 refine wv (.slice (some ⟨b, 0, none⟩) xs.length cap) ?_
 refine wv (.int .i64 (xs.length : Int)) ?_
 refine wv (.slice (some ⟨b2, 0, none⟩) xs.length cap2) ?_
 refine wv (.int .i64 (xs.length : Int)) ?_
 refine wvv (.bool ((xs.length : Int) != (xs.length : Int))) (.bool false) (by simp) ?_
 refine wpList_nil (then_normal ?_)
 refine wcf ?_
 refine wp_skip ?_
 refine then_normal ?_
 refine wp_seq ?_
 refine wsr ?_
 refine wv (.int .i64 0) ?_
 refine wpList_nil (then_normal ?_)
 refine wp_block ?_
 refine wp_loop_k (fun m1 a wl1 => ∃ (i : Nat), m1 = xs.length - i ∧ i ≤ xs.length ∧ Ext w wl1 ∧ Blk wl1 b 2 cs ∧ Blk wl1 b2 2 cs2 ∧ (∃ J1 : Nat → Value, a = ⟨#[.slice (some ⟨b, 0, none⟩) xs.length cap, .slice (some ⟨b2, 0, none⟩) xs.length cap2, undef, undef, J1 4, .int .i64 (i : Int), .slice (some ⟨b, 0, none⟩) xs.length cap, .int .i64 (xs.length : Int), .slice (some ⟨b2, 0, none⟩) xs.length cap2, .int .i64 (xs.length : Int), .bool false, J1 11, J1 12, J1 13, J1 14, J1 15, J1 16, J1 17, J1 18, J1 19, J1 20, J1 21, J1 22, J1 23, J1 24, J1 25], []⟩)) (xs.length) ?_ ?_
 · refine ⟨0, rfl, ?_, (Ext.refl w), hb, hb2, exJ (by kernel_rfl)⟩
   · omega
 intro m1 a wl1 hI
 obtain ⟨i, rfl, hi_, HL1, hb, hb2, J1, rfl⟩ := hI
 refine wp_seq ?_
 refine wsr ?_
 refine wv (.int .i64 (i : Int)) ?_
 refine wv (.slice (some ⟨b, 0, none⟩) xs.length cap) ?_
 refine wv (.int .i64 (xs.length : Int)) ?_
 refine wv (.bool (decide ((i : Int) < (xs.length : Int)))) ?_
 refine wpList_nil (then_normal ?_)
 refine wsplit (decide ((i : Int) < (xs.length : Int))) (fun h1 => ?_) (fun h1 => ?_)
 · skip
   have h1d := dT h1
   refine wp_skip ?_
   refine then_normal ?_
   refine wp_seq ?_
   refine wp_block ?_
   refine wp_seq ?_
   refine wp_frame (a' := ⟨#[.slice (some ⟨b, 0, none⟩) xs.length cap, .slice (some ⟨b2, 0, none⟩) xs.length cap2, undef, undef, J1 4, .int .i64 (i : Int), .slice (some ⟨b, 0, none⟩) xs.length cap, .int .i64 (xs.length : Int), .slice (some ⟨b2, 0, none⟩) xs.length cap2, .int .i64 (xs.length : Int), .bool false, .int .i64 (i : Int), .slice (some ⟨b, 0, none⟩) xs.length cap, .int .i64 (xs.length : Int), .bool (decide ((i : Int) < (xs.length : Int))), J1 15, J1 16, J1 17, J1 18, J1 19, J1 20, J1 21, J1 22, J1 23, J1 24, J1 25], []⟩) (by kernel_rfl) ?_
   refine region_go 9 [17, 18, 19, 20, 21, 22, 23, 24, 25] [[], [], [0, 1], [2], [], [], [4, 5], [6], [3, 7]]
    (fun i_ => ([.val (.slice (some ⟨b, 0, none⟩) xs.length cap), .val (.int .i64 (i : Int)), .val (.pointer (some ⟨b, 0 + i, none⟩)), .val (.int .i64 (atI xs i)), .val (.slice (some ⟨b2, 0, none⟩) xs.length cap2), .val (.int .i64 (i : Int)), .val (.pointer (some ⟨b2, 0 + i, none⟩)), .val (.int .i64 (atI xs i)), .val (.bool false)] : List Fct).getD i_ .any)
    (by kernel_rfl) (by kernel_rfl) (by decide) (by simp) rfl (all_succ (all_succ (all_succ (all_succ (all_succ (all_succ (all_succ (all_succ (all_succ all_zero ?_) ?_) ?_) ?_) ?_) ?_) ?_) ?_) ?_) ?_
   · refine step0 rfl rfl rfl (fun wr hw => ?_)
     exact OpRun.val (.slice (some ⟨b, 0, none⟩) xs.length cap) (.slice (some ⟨b, 0, none⟩) xs.length cap) (by kernel_rfl) rfl ⟨Ext.refl _, rfl⟩
   · refine step0 rfl rfl rfl (fun wr hw => ?_)
     exact OpRun.val (.int .i64 (i : Int)) (.int .i64 (i : Int)) (by kernel_rfl) rfl ⟨Ext.refl _, rfl⟩
   · refine step2 rfl rfl rfl rfl rfl (fun u0 u1 wr hw h0 h1 => ?_)
     cases h0
     cases h1
     exact OpRun.six1 (i := i) (k := .i64) (g := b) (off := 0) (n := xs.length) (cap := cap) slit__int64 rfl (by kernel_rfl) (by kernel_rfl) (by omega) ⟨Ext.refl _, rfl⟩
   · refine step1 rfl rfl rfl rfl (fun u0 wr hw h0 => ?_)
     cases h0
     exact OpRun.cell (g := b) (off := 0 + i) (v := .int .i64 (atI xs i)) scal_int64 rfl (by kernel_rfl) ((hb.ext hw).get (SlI.get hS (by omega))) ⟨Ext.refl _, rfl⟩
   · refine step0 rfl rfl rfl (fun wr hw => ?_)
     exact OpRun.val (.slice (some ⟨b2, 0, none⟩) xs.length cap2) (.slice (some ⟨b2, 0, none⟩) xs.length cap2) (by kernel_rfl) rfl ⟨Ext.refl _, rfl⟩
   · refine step0 rfl rfl rfl (fun wr hw => ?_)
     exact OpRun.val (.int .i64 (i : Int)) (.int .i64 (i : Int)) (by kernel_rfl) rfl ⟨Ext.refl _, rfl⟩
   · refine step2 rfl rfl rfl rfl rfl (fun u0 u1 wr hw h0 h1 => ?_)
     cases h0
     cases h1
     exact OpRun.six1 (i := i) (k := .i64) (g := b2) (off := 0) (n := xs.length) (cap := cap2) slit__int64 rfl (by kernel_rfl) (by kernel_rfl) (by omega) ⟨Ext.refl _, rfl⟩
   · refine step1 rfl rfl rfl rfl (fun u0 wr hw h0 => ?_)
     cases h0
     exact OpRun.cell (g := b2) (off := 0 + i) (v := .int .i64 (atI xs i)) scal_int64 rfl (by kernel_rfl) ((hb2.ext hw).get (SlI.get hS2 (by omega))) ⟨Ext.refl _, rfl⟩
   · refine step2 rfl rfl rfl rfl rfl (fun u0 u1 wr hw h0 h1 => ?_)
     cases h0
     cases h1
     exact OpRun.val (.bool ((atI xs i) != (atI xs i))) (.bool false) (by kernel_rfl) (by simp) ⟨Ext.refl _, rfl⟩
   refine end9 (fun u0 u1 u2 u3 u4 u5 u6 u7 u8 w1 E1 f0 f1 f2 f3 f4 f5 f6 f7 f8 => ?_)
   cases f0
   cases f1
   cases f2
   cases f3
   cases f4
   cases f5
   cases f6
   cases f7
   cases f8
   refine wpList_nil (then_normal ?_)
   refine wcf ?_
   refine wp_skip ?_
   refine block_normal (then_normal ?_)
   refine wp_region_lit ?_
   refine wv (.int .i64 (i : Int)) ?_
   refine wi64 ((i : Int) + 1) ?_
   refine wv (.int .i64 ((i : Int) + 1)) ?_
   refine wpList_nil (then_normal ?_)
   replace hb := hb.ext E1
   replace hb2 := hb2.ext E1
   have H1 := HL1.trans E1
   refine ⟨_, ?_, i + 1, rfl, ?_, H1, hb, hb2, exJ (by kernel_rfl)⟩
   · omega
   · omega
 · skip
   have h1d := dF h1
   refine wp_exit ?_
   refine then_exit ?_
   refine then_exit ?_
   refine block_exit ?_
   refine then_normal ?_
   refine wsr ?_
   refine wv (.bool true) ?_
   refine wpList_nil (then_normal ?_)
   refine wp_ret ?_
   refine ret1 (.bool true) rfl ?_ rfl ?_
   · exact resT (by kernel_rfl)
   exact ⟨rfl, HL1⟩


--# eqBeat_same
theorem eqBeat_same (xs : List Int) (b cap : Nat) (cs : Array Value) (hS : SlI cs xs.length cap .i16 xs) (b2 cap2 : Nat) (cs2 : Array Value) (hS2 : SlI cs2 xs.length cap2 .i16 xs) (hx : xs.length ≤ 1048576) (w : World) (hb : Blk w b 23 cs) (hb2 : Blk w b2 23 cs2) :
 Calls Try.prog 59 #[.slice (some ⟨b, 0, none⟩) xs.length cap, .slice (some ⟨b2, 0, none⟩) xs.length cap2] w fun e w' => e = .returned (.bool true) ∧ Ext w w' := by
 refine calls_of_wp Try.func59 rfl ?_
 refine wp_frame (a' := ⟨#[.slice (some ⟨b, 0, none⟩) xs.length cap, .slice (some ⟨b2, 0, none⟩) xs.length cap2, undef, undef, undef, undef, undef, undef, undef, undef, undef, undef, undef, undef, undef, undef, undef, undef, undef, undef, undef, undef, undef, undef, undef, undef], []⟩) (by kernel_rfl) ?_
 refine wsr ?_
 refine wv (.bool false) ?_
 refine wpList_nil (then_normal ?_)
 refine wp_seq ?_
 refine wsr ?_
 refine wv (.slice (some ⟨b, 0, none⟩) xs.length cap) ?_
 refine wv (.int .i64 (xs.length : Int)) ?_
 refine wv (.slice (some ⟨b2, 0, none⟩) xs.length cap2) ?_
 refine wv (.int .i64 (xs.length : Int)) ?_
 refine wvv (.bool ((xs.length : Int) != (xs.length : Int))) (.bool false) (by simp) ?_
 refine wpList_nil (then_normal ?_)
 refine wcf ?_
 refine wp_skip ?_
 refine then_normal ?_
 refine wp_seq ?_
 refine wsr ?_
 refine wv (.int .i64 0) ?_
 refine wpList_nil (then_normal ?_)
 refine wp_block ?_
 refine wp_loop_k (fun m1 a wl1 => ∃ (i : Nat), m1 = xs.length - i ∧ i ≤ xs.length ∧ Ext w wl1 ∧ Blk wl1 b 23 cs ∧ Blk wl1 b2 23 cs2 ∧ (∃ J1 : Nat → Value, a = ⟨#[.slice (some ⟨b, 0, none⟩) xs.length cap, .slice (some ⟨b2, 0, none⟩) xs.length cap2, undef, undef, J1 4, .int .i64 (i : Int), .slice (some ⟨b, 0, none⟩) xs.length cap, .int .i64 (xs.length : Int), .slice (some ⟨b2, 0, none⟩) xs.length cap2, .int .i64 (xs.length : Int), .bool false, J1 11, J1 12, J1 13, J1 14, J1 15, J1 16, J1 17, J1 18, J1 19, J1 20, J1 21, J1 22, J1 23, J1 24, J1 25], []⟩)) (xs.length) ?_ ?_
 · refine ⟨0, rfl, ?_, (Ext.refl w), hb, hb2, exJ (by kernel_rfl)⟩
   · omega
 intro m1 a wl1 hI
 obtain ⟨i, rfl, hi_, HL1, hb, hb2, J1, rfl⟩ := hI
 refine wp_seq ?_
 refine wsr ?_
 refine wv (.int .i64 (i : Int)) ?_
 refine wv (.slice (some ⟨b, 0, none⟩) xs.length cap) ?_
 refine wv (.int .i64 (xs.length : Int)) ?_
 refine wv (.bool (decide ((i : Int) < (xs.length : Int)))) ?_
 refine wpList_nil (then_normal ?_)
 refine wsplit (decide ((i : Int) < (xs.length : Int))) (fun h1 => ?_) (fun h1 => ?_)
 · skip
   have h1d := dT h1
   refine wp_skip ?_
   refine then_normal ?_
   refine wp_seq ?_
   refine wp_block ?_
   refine wp_seq ?_
   refine wp_frame (a' := ⟨#[.slice (some ⟨b, 0, none⟩) xs.length cap, .slice (some ⟨b2, 0, none⟩) xs.length cap2, undef, undef, J1 4, .int .i64 (i : Int), .slice (some ⟨b, 0, none⟩) xs.length cap, .int .i64 (xs.length : Int), .slice (some ⟨b2, 0, none⟩) xs.length cap2, .int .i64 (xs.length : Int), .bool false, .int .i64 (i : Int), .slice (some ⟨b, 0, none⟩) xs.length cap, .int .i64 (xs.length : Int), .bool (decide ((i : Int) < (xs.length : Int))), J1 15, J1 16, J1 17, J1 18, J1 19, J1 20, J1 21, J1 22, J1 23, J1 24, J1 25], []⟩) (by kernel_rfl) ?_
   refine region_go 9 [17, 18, 19, 20, 21, 22, 23, 24, 25] [[], [], [0, 1], [2], [], [], [4, 5], [6], [3, 7]]
    (fun i_ => ([.val (.slice (some ⟨b, 0, none⟩) xs.length cap), .val (.int .i64 (i : Int)), .val (.pointer (some ⟨b, 0 + i, none⟩)), .val (.int .i16 (atI xs i)), .val (.slice (some ⟨b2, 0, none⟩) xs.length cap2), .val (.int .i64 (i : Int)), .val (.pointer (some ⟨b2, 0 + i, none⟩)), .val (.int .i16 (atI xs i)), .val (.bool false)] : List Fct).getD i_ .any)
    (by kernel_rfl) (by kernel_rfl) (by decide) (by simp) rfl (all_succ (all_succ (all_succ (all_succ (all_succ (all_succ (all_succ (all_succ (all_succ all_zero ?_) ?_) ?_) ?_) ?_) ?_) ?_) ?_) ?_) ?_
   · refine step0 rfl rfl rfl (fun wr hw => ?_)
     exact OpRun.val (.slice (some ⟨b, 0, none⟩) xs.length cap) (.slice (some ⟨b, 0, none⟩) xs.length cap) (by kernel_rfl) rfl ⟨Ext.refl _, rfl⟩
   · refine step0 rfl rfl rfl (fun wr hw => ?_)
     exact OpRun.val (.int .i64 (i : Int)) (.int .i64 (i : Int)) (by kernel_rfl) rfl ⟨Ext.refl _, rfl⟩
   · refine step2 rfl rfl rfl rfl rfl (fun u0 u1 wr hw h0 h1 => ?_)
     cases h0
     cases h1
     exact OpRun.six1 (i := i) (k := .i64) (g := b) (off := 0) (n := xs.length) (cap := cap) slit_impl_Beat rfl (by kernel_rfl) (by kernel_rfl) (by omega) ⟨Ext.refl _, rfl⟩
   · refine step1 rfl rfl rfl rfl (fun u0 wr hw h0 => ?_)
     cases h0
     exact OpRun.cell (g := b) (off := 0 + i) (v := .int .i16 (atI xs i)) scal_int16 rfl (by kernel_rfl) ((hb.ext hw).get (SlI.get hS (by omega))) ⟨Ext.refl _, rfl⟩
   · refine step0 rfl rfl rfl (fun wr hw => ?_)
     exact OpRun.val (.slice (some ⟨b2, 0, none⟩) xs.length cap2) (.slice (some ⟨b2, 0, none⟩) xs.length cap2) (by kernel_rfl) rfl ⟨Ext.refl _, rfl⟩
   · refine step0 rfl rfl rfl (fun wr hw => ?_)
     exact OpRun.val (.int .i64 (i : Int)) (.int .i64 (i : Int)) (by kernel_rfl) rfl ⟨Ext.refl _, rfl⟩
   · refine step2 rfl rfl rfl rfl rfl (fun u0 u1 wr hw h0 h1 => ?_)
     cases h0
     cases h1
     exact OpRun.six1 (i := i) (k := .i64) (g := b2) (off := 0) (n := xs.length) (cap := cap2) slit_impl_Beat rfl (by kernel_rfl) (by kernel_rfl) (by omega) ⟨Ext.refl _, rfl⟩
   · refine step1 rfl rfl rfl rfl (fun u0 wr hw h0 => ?_)
     cases h0
     exact OpRun.cell (g := b2) (off := 0 + i) (v := .int .i16 (atI xs i)) scal_int16 rfl (by kernel_rfl) ((hb2.ext hw).get (SlI.get hS2 (by omega))) ⟨Ext.refl _, rfl⟩
   · refine step2 rfl rfl rfl rfl rfl (fun u0 u1 wr hw h0 h1 => ?_)
     cases h0
     cases h1
     exact OpRun.val (.bool ((atI xs i) != (atI xs i))) (.bool false) (by kernel_rfl) (by simp) ⟨Ext.refl _, rfl⟩
   refine end9 (fun u0 u1 u2 u3 u4 u5 u6 u7 u8 w1 E1 f0 f1 f2 f3 f4 f5 f6 f7 f8 => ?_)
   cases f0
   cases f1
   cases f2
   cases f3
   cases f4
   cases f5
   cases f6
   cases f7
   cases f8
   refine wpList_nil (then_normal ?_)
   refine wcf ?_
   refine wp_skip ?_
   refine block_normal (then_normal ?_)
   refine wp_region_lit ?_
   refine wv (.int .i64 (i : Int)) ?_
   refine wi64 ((i : Int) + 1) ?_
   refine wv (.int .i64 ((i : Int) + 1)) ?_
   refine wpList_nil (then_normal ?_)
   replace hb := hb.ext E1
   replace hb2 := hb2.ext E1
   have H1 := HL1.trans E1
   refine ⟨_, ?_, i + 1, rfl, ?_, H1, hb, hb2, exJ (by kernel_rfl)⟩
   · omega
   · omega
 · skip
   have h1d := dF h1
   refine wp_exit ?_
   refine then_exit ?_
   refine then_exit ?_
   refine block_exit ?_
   refine then_normal ?_
   refine wsr ?_
   refine wv (.bool true) ?_
   refine wpList_nil (then_normal ?_)
   refine wp_ret ?_
   refine ret1 (.bool true) rfl ?_ rfl ?_
   · exact resT (by kernel_rfl)
   exact ⟨rfl, HL1⟩


--# sRingOf_any
theorem sRingOf_any (F : Fld) (hF : F.wf) (o : Int) (m : Int) (w : World) :
 Calls Try.prog 44 #[.agg F.cells, .int .i64 o, .int .i64 m] w fun e w' => e = .returned (.tuple #[.agg #[.int .u64 ((ringS F o m).1), .int .u64 ((ringS F o m).2)], .int .i64 (code F (isB F o && inB m 0 200))]) ∧ Ext w w' := by
 refine calls_of_wp Try.func44 rfl ?_
 refine wp_frame (a' := ⟨#[.agg F.cells, .int .i64 o, .int .i64 m, undef, undef, undef, undef, undef, undef, undef, undef, undef, undef, undef, undef, undef, undef, undef, undef, undef], []⟩) (by kernel_rfl) ?_
 refine wsr ?_
 refine wbox F.cells ?_
 intro g1 w1 B1 E1 hg_
 have lo_g1 := Nat.le_trans ((Ext.refl w)).size hg_
 have H1 := (Ext.refl w).trans E1
 refine wnew #[.int .u64 0, .int .u64 0] Try.zeroValue33 rfl ?_
 intro g2 w2 B2 E2 hg_
 have q_g1_g2 := Nat.ne_of_lt (Nat.lt_of_lt_of_le B1.lt hg_)
 have lo_g2 := Nat.le_trans (H1).size hg_
 refine wv (.int .i64 0) ?_
 refine wpList_nil (then_normal ?_)
 refine wp_seq ?_
 refine wsr ?_
 refine wv (.int .i64 o) ?_
 refine wv (.int .i64 m) ?_
 refine wcl (l00In_any m 0 200 _) ?_
 intro w3 E3
 replace B1 := (B1.ext E2).ext E3
 refine wcl (l01Asked_any F hF g1 _ o (inB m 0 200) (isB F o && (inB m 0 200)) rfl _ B1) ?_
 intro w4 E4
 refine wv (.int .i64 (code F (isB F o && (inB m 0 200)))) ?_
 refine wpList_nil (then_normal ?_)
 refine wsr ?_
 refine wv (.int .i64 (code F (isB F o && (inB m 0 200)))) ?_
 refine wv (.bool ((code F (isB F o && (inB m 0 200))) != 0)) ?_
 refine wpList_nil (then_normal ?_)
 have H2 := ((H1.trans E2).trans E3).trans E4
 refine wsplit ((code F (isB F o && (inB m 0 200))) != 0) (fun h1 => ?_) (fun h1 => ?_)
 · skip
   have h1d := nT h1
   refine wsr ?_
   refine wv (.agg #[.int .u64 0, .int .u64 0]) ?_
   refine wv (.int .i64 (code F (isB F o && (inB m 0 200)))) ?_
   replace B2 := (B2.ext E3).ext E4
   refine wput #[.int .u64 0, .int .u64 0] row_impl_Cells B2 (by rfl) (by rfl) (by kernel_rfl) ?_
   intro w5 B2_ X1
   clear B2; have B2 := B2_; clear B2_
   refine wv (.int .i64 (code F (isB F o && (inB m 0 200)))) ?_
   refine wpList_nil (then_normal ?_)
   refine wp_ret ?_
   refine then_ret ?_
   have H3 := X1.ext w lo_g2 H2
   refine ret2 (.agg #[.int .u64 ((ringS F o m).1), .int .u64 ((ringS F o m).2)]) (.int .i64 (code F (isB F o && inB m 0 200))) rfl ?_ ?_ rfl ?_
   · refine ⟨g2, 33, #[.int .u64 0, .int .u64 0], _, by kernel_rfl, B2, row_impl_Cells, ?_, ?_⟩
     · rfl
     · show (.agg #[.int .u64 ((ringS F o m).1), .int .u64 ((ringS F o m).2)] : Value) = (.agg #[.int .u64 0, .int .u64 0])
       refine congrArg Value.agg ?_
       first | rw [ringS_f (by assumption)] | rw [ringS_t (by assumption)]
   · refine (resT (v := .int .i64 (code F (isB F o && (inB m 0 200)))) (by kernel_rfl)).trans ?_
     refine congrArg (Value.int _) ?_
     first | (rw [if_pos (by assumption)]; done) | (rw [if_neg (by assumption)]; done) | rfl | assumption | (symm; assumption)
   exact ⟨rfl, H3⟩
 · skip
   have h1d := nF h1
   have h1o := (code_zero h1d).1
   have h1z := (code_zero h1d).2
   obtain ⟨h1za, h1zb⟩ := andT h1z
   have h1zad := isB_true.1 h1za
   have h1zbd := inT h1zb
   refine wp_skip ?_
   refine then_normal ?_
   refine wsr ?_
   refine wv (.int .i64 o) ?_
   refine wv (.int .i64 m) ?_
   replace B1 := B1.ext E4
   refine wcl (l01Ring_any F hF g1 _ o m (by omega) _ B1) ?_
   intro w6 E5
   replace B2 := ((B2.ext E3).ext E4).ext E5
   refine wput #[.int .u64 ((setC F (fun c_ => decide (sqr o c_ ≤ m)) 100).1), .int .u64 ((setC F (fun c_ => decide (sqr o c_ ≤ m)) 100).2)] row_impl_Cells B2 (by rfl) (by rfl) (by kernel_rfl) ?_
   intro w7 B2_ X2
   clear B2; have B2 := B2_; clear B2_
   refine wv (.int .i64 0) ?_
   refine wpList_nil (then_normal ?_)
   refine wp_ret ?_
   have H4 := X2.ext w lo_g2 (H2.trans E5)
   refine ret2 (.agg #[.int .u64 ((ringS F o m).1), .int .u64 ((ringS F o m).2)]) (.int .i64 (code F (isB F o && inB m 0 200))) rfl ?_ ?_ rfl ?_
   · refine ⟨g2, 33, #[.int .u64 ((setC F (fun c_ => decide (sqr o c_ ≤ m)) 100).1), .int .u64 ((setC F (fun c_ => decide (sqr o c_ ≤ m)) 100).2)], _, by kernel_rfl, B2, row_impl_Cells, ?_, ?_⟩
     · rfl
     · show (.agg #[.int .u64 ((ringS F o m).1), .int .u64 ((ringS F o m).2)] : Value) = (.agg #[.int .u64 ((setC F (fun c_ => decide (sqr o c_ ≤ m)) 100).1), .int .u64 ((setC F (fun c_ => decide (sqr o c_ ≤ m)) 100).2)])
       refine congrArg Value.agg ?_
       first | rw [ringS_f (by assumption)] | rw [ringS_t (by assumption)]
   · refine (resT (v := .int .i64 0) (by kernel_rfl)).trans ?_
     refine congrArg (Value.int _) ?_
     first | (rw [if_pos (by assumption)]; done) | (rw [if_neg (by assumption)]; done) | rfl | assumption | (symm; assumption)
   exact ⟨rfl, H4⟩


--# iRingOf_any
theorem iRingOf_any (F : Fld) (hF : F.wf) (o : Int) (m : Int) (w : World) :
 Calls Try.prog 43 #[.agg F.cells, .int .i64 o, .int .i64 m] w fun e w' => e = .returned (.tuple #[.agg #[.int .u64 ((ringS F o m).1), .int .u64 ((ringS F o m).2)], .int .i64 (code F (isB F o && inB m 0 200))]) ∧ Ext w w' := by
 refine calls_of_wp Try.func43 rfl ?_
 refine wp_frame (a' := ⟨#[.agg F.cells, .int .i64 o, .int .i64 m, undef, undef, undef, undef, undef, undef, undef, undef, undef, undef, undef, undef, undef, undef, undef], []⟩) (by kernel_rfl) ?_
 refine wsr ?_
 refine wbox F.cells ?_
 intro g1 w1 B1 E1 hg_
 have lo_g1 := Nat.le_trans ((Ext.refl w)).size hg_
 have H1 := (Ext.refl w).trans E1
 refine wboxv (.int .i64 o) ?_
 intro g2 w2 B2 E2 hg_
 have q_g1_g2 := Nat.ne_of_lt (Nat.lt_of_lt_of_le B1.lt hg_)
 have lo_g2 := Nat.le_trans (H1).size hg_
 replace B1 := B1.ext E2
 have H2 := H1.trans E2
 refine wboxv (.int .i64 m) ?_
 intro g3 w3 B3 E3 hg_
 have q_g1_g3 := Nat.ne_of_lt (Nat.lt_of_lt_of_le B1.lt hg_)
 have q_g2_g3 := Nat.ne_of_lt (Nat.lt_of_lt_of_le B2.lt hg_)
 have lo_g3 := Nat.le_trans (H2).size hg_
 replace B1 := B1.ext E3
 have H3 := H2.trans E3
 replace B2 := B2.ext E3
 refine wnew #[.int .u64 0, .int .u64 0] Try.zeroValue33 rfl ?_
 intro g4 w4 B4 E4 hg_
 have q_g1_g4 := Nat.ne_of_lt (Nat.lt_of_lt_of_le B1.lt hg_)
 have q_g2_g4 := Nat.ne_of_lt (Nat.lt_of_lt_of_le B2.lt hg_)
 have q_g3_g4 := Nat.ne_of_lt (Nat.lt_of_lt_of_le B3.lt hg_)
 have lo_g4 := Nat.le_trans (H3).size hg_
 refine wv (.int .i64 0) ?_
 refine wpList_nil (then_normal ?_)
 refine wp_seq ?_
 refine wsr ?_
 refine wv (.func (.func 88) #[] #[.pointer (some ⟨g1, 0, none⟩), .pointer (some ⟨g2, 0, none⟩), .pointer (some ⟨g3, 0, none⟩)]) ?_
 replace B1 := B1.ext E4
 replace B2 := B2.ext E4
 replace B3 := B3.ext E4
 refine wcl (fieldCode_any F hF g1 _ (.func (.func 88) #[] #[.pointer (some ⟨g1, 0, none⟩), .pointer (some ⟨g2, 0, none⟩), .pointer (some ⟨g3, 0, none⟩)]) 88 #[.pointer (some ⟨g1, 0, none⟩), .pointer (some ⟨g2, 0, none⟩), .pointer (some ⟨g3, 0, none⟩)] (fun _ => by kernel_rfl) (isB F o && inB m 0 200) _ B1 (fun _ E_ => RingOf1_any F hF g1 _ o g2 _ m g3 _ _ (B1.ext E_) (B2.ext E_) (B3.ext E_))) ?_
 intro w5 E5
 refine wv (.int .i64 (code F (isB F o && inB m 0 200))) ?_
 refine wpList_nil (then_normal ?_)
 refine wsr ?_
 refine wv (.int .i64 (code F (isB F o && inB m 0 200))) ?_
 refine wv (.bool ((code F (isB F o && inB m 0 200)) != 0)) ?_
 refine wpList_nil (then_normal ?_)
 have H4 := (H3.trans E4).trans E5
 refine wsplit ((code F (isB F o && inB m 0 200)) != 0) (fun h1 => ?_) (fun h1 => ?_)
 · skip
   have h1d := nT h1
   refine wsr ?_
   refine wv (.agg #[.int .u64 0, .int .u64 0]) ?_
   refine wv (.int .i64 (code F (isB F o && inB m 0 200))) ?_
   replace B4 := B4.ext E5
   refine wput #[.int .u64 0, .int .u64 0] row_impl_Cells B4 (by rfl) (by rfl) (by kernel_rfl) ?_
   intro w6 B4_ X1
   clear B4; have B4 := B4_; clear B4_
   refine wv (.int .i64 (code F (isB F o && inB m 0 200))) ?_
   refine wpList_nil (then_normal ?_)
   refine wp_ret ?_
   refine then_ret ?_
   have H5 := X1.ext w lo_g4 H4
   refine ret2 (.agg #[.int .u64 ((ringS F o m).1), .int .u64 ((ringS F o m).2)]) (.int .i64 (code F (isB F o && inB m 0 200))) rfl ?_ ?_ rfl ?_
   · refine ⟨g4, 33, #[.int .u64 0, .int .u64 0], _, by kernel_rfl, B4, row_impl_Cells, ?_, ?_⟩
     · rfl
     · show (.agg #[.int .u64 ((ringS F o m).1), .int .u64 ((ringS F o m).2)] : Value) = (.agg #[.int .u64 0, .int .u64 0])
       refine congrArg Value.agg ?_
       first | rw [ringS_f (by assumption)] | rw [ringS_t (by assumption)]
   · exact resT (by kernel_rfl)
   exact ⟨rfl, H5⟩
 · skip
   have h1d := nF h1
   have h1o := (code_zero h1d).1
   have h1z := (code_zero h1d).2
   obtain ⟨h1za, h1zb⟩ := andT h1z
   have h1zad := isB_true.1 h1za
   have h1zbd := inT h1zb
   refine wp_skip ?_
   refine then_normal ?_
   refine wsr ?_
   replace B2 := B2.ext E5
   refine wld (v := .int .i64 o) g2 (0) scal_int64 (B2.get (rfl)) ?_
   replace B3 := B3.ext E5
   refine wld (v := .int .i64 m) g3 (0) scal_int64 (B3.get (rfl)) ?_
   replace B1 := B1.ext E5
   refine wcl (ring_any F hF g1 _ o m (by omega) _ B1) ?_
   intro w7 E6
   replace B4 := (B4.ext E5).ext E6
   refine wput #[.int .u64 ((setC F (fun c_ => decide (sqr o c_ ≤ m)) 100).1), .int .u64 ((setC F (fun c_ => decide (sqr o c_ ≤ m)) 100).2)] row_impl_Cells B4 (by rfl) (by rfl) (by kernel_rfl) ?_
   intro w8 B4_ X2
   clear B4; have B4 := B4_; clear B4_
   refine wv (.int .i64 0) ?_
   refine wpList_nil (then_normal ?_)
   refine wp_ret ?_
   have H6 := X2.ext w lo_g4 (H4.trans E6)
   refine ret2 (.agg #[.int .u64 ((ringS F o m).1), .int .u64 ((ringS F o m).2)]) (.int .i64 (code F (isB F o && inB m 0 200))) rfl ?_ ?_ rfl ?_
   · refine ⟨g4, 33, #[.int .u64 ((setC F (fun c_ => decide (sqr o c_ ≤ m)) 100).1), .int .u64 ((setC F (fun c_ => decide (sqr o c_ ≤ m)) 100).2)], _, by kernel_rfl, B4, row_impl_Cells, ?_, ?_⟩
     · rfl
     · show (.agg #[.int .u64 ((ringS F o m).1), .int .u64 ((ringS F o m).2)] : Value) = (.agg #[.int .u64 ((setC F (fun c_ => decide (sqr o c_ ≤ m)) 100).1), .int .u64 ((setC F (fun c_ => decide (sqr o c_ ≤ m)) 100).2)])
       refine congrArg Value.agg ?_
       first | rw [ringS_f (by assumption)] | rw [ringS_t (by assumption)]
   · refine (resT (v := .int .i64 0) (by kernel_rfl)).trans ?_
     refine congrArg (Value.int _) ?_
     first | (rw [if_pos (by assumption)]; done) | (rw [if_neg (by assumption)]; done) | rfl | assumption | (symm; assumption)
   exact ⟨rfl, H6⟩


