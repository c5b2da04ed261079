/-
  Contracts: sets and lists. No conditions.
-/
import Derived.Test.YtdhidmigngmgjaaTy
import Derived.Test.YtdhidmigngmgjaaSl
import Derived.Test.YtdhidmigngmgjaaMth
import Derived.Test.YtdhidmigngmgjaaFn3
namespace Go.Proofs.Ytdhidmigngmgjaa
open Go.RowKit
set_option linter.unusedSimpArgs false
set_option linter.unusedVariables false
set_option maxHeartbeats 4000000
set_option maxRecDepth 100000
attribute [local irreducible] wpList Code.wp
--# iHasCell_any
theorem iHasCell_any (x y : Int) (c : Int) (w : World) :
 Calls Try.prog 27 #[.agg #[.int .u64 x, .int .u64 y], .int .i64 c] w fun e w' => e = .returned (.bool (hasB x y c)) ∧ Ext w w' := by
 refine calls_of_wp Try.func27 rfl ?_
 refine wp_frame (a' := ⟨#[.agg #[.int .u64 x, .int .u64 y], .int .i64 c, undef, undef, undef, undef, undef, undef, undef, undef, undef, undef, undef, undef, undef, undef, undef, undef], []⟩) (by kernel_rfl) ?_
 refine wsr ?_
 refine wbox #[.int .u64 x, .int .u64 y] ?_
 intro g1 w1 B1 E1 _
 refine wv (.bool false) ?_
 refine wpList_nil (then_normal ?_)
 refine wsr ?_
 refine wv (.int .i64 c) ?_
 refine wcl (within_any c 0 99 _) ?_
 intro w2 E2
 refine wv (.bool (inB c 0 99)) ?_
 have H1 := ((Ext.refl w).trans E1).trans E2
 refine split_bool (inB c 0 99) (fun h1 => ?_) (fun h1 => ?_)
 · skip
   refine wbl 7 true h1 ?_
   have h1d := inT h1
   refine wv (.int .i64 c) ?_
   refine wquo c 64 ?_
   refine wix g1 0 (c / 64) .i64 arrt_impl_Cells ?_
   replace B1 := B1.ext E2
   refine wld (v := .int .u64 (wd x y c)) g1 (0 + (c / 64).toNat) scal_uint64 (B1.get (by rw [Nat.zero_add]; exact cells2a _ _ _ (by omega) (by omega))) ?_
   refine wv (.int .i64 c) ?_
   refine wrem c 64 ?_
   refine wshr .u64 .i64 (wd x y c) (c % 64) ?_
   refine wv (.int .u64 (bits BinOp.and IntKind.u64 ((wd x y c) / 2 ^ (c % 64).toNat) 1)) ?_
   refine wv (.bool ((bits BinOp.and IntKind.u64 ((wd x y c) / 2 ^ (c % 64).toNat) 1) == 1)) ?_
   refine wv (.bool ((bits BinOp.and IntKind.u64 ((wd x y c) / 2 ^ (c % 64).toNat) 1) == 1)) ?_
   refine wv (.bool ((bits BinOp.and IntKind.u64 ((wd x y c) / 2 ^ (c % 64).toNat) 1) == 1)) ?_
   refine wpList_nil (then_normal ?_)
   refine wp_ret ?_
   refine ret1 (.bool (hasB x y c)) rfl ?_ rfl ?_
   · refine (resT (v := .bool ((bits BinOp.and IntKind.u64 ((wd x y c) / 2 ^ (c % 64).toNat) 1) == 1)) (by kernel_rfl)).trans ?_
     refine congrArg Value.bool ?_
     first | exact (hasB_out (by assumption)).symm | exact (hasB_in (by assumption)).symm
   exact ⟨rfl, H1⟩
 · skip
   refine wbl 7 false h1 ?_
   have h1d := inF h1
   refine wsk ?_
   refine wsk ?_
   refine wsk ?_
   refine wsk ?_
   refine wsk ?_
   refine wsk ?_
   refine wsk ?_
   refine wsk ?_
   refine wsk ?_
   refine wv (.bool false) ?_
   refine wv (.bool false) ?_
   refine wpList_nil (then_normal ?_)
   refine wp_ret ?_
   refine ret1 (.bool (hasB x y c)) rfl ?_ rfl ?_
   · refine (resT (v := .bool false) (by kernel_rfl)).trans ?_
     refine congrArg Value.bool ?_
     first | exact (hasB_out (by assumption)).symm | exact (hasB_in (by assumption)).symm
   exact ⟨rfl, H1⟩


--# l01Has_any
theorem l01Has_any (x y : Int) (b : Nat) (t : TypeId) (c : Int) (w : World) (hb : Blk w b t #[.int .u64 x, .int .u64 y]) :
 Calls Try.prog 55 #[.pointer (some ⟨b, 0, none⟩), .int .i64 c] w fun e w' => e = .returned (.bool (hasB x y c)) ∧ Ext w w' := by
 refine calls_of_wp Try.func55 rfl ?_
 refine wp_frame (a' := ⟨#[.pointer (some ⟨b, 0, none⟩), .int .i64 c, undef, undef, undef, undef, undef, undef, undef, undef, undef, undef, undef, undef, undef, undef, undef, undef, undef, undef, undef], []⟩) (by kernel_rfl) ?_
 refine wsr ?_
 refine wv (.bool false) ?_
 refine wpList_nil (then_normal ?_)
 refine wsr ?_
 refine wv (.int .i64 c) ?_
 refine wcl (l00In_any c 0 99 _) ?_
 intro w1 E1
 refine wv (.bool (inB c 0 99)) ?_
 refine split_bool (inB c 0 99) (fun h1 => ?_) (fun h1 => ?_)
 · skip
   refine wbl 7 true h1 ?_
   have h1d := inT h1
   refine wv (.pointer (some ⟨b, 0, none⟩)) ?_
   refine wv (.int .i64 c) ?_
   refine wquo c 64 ?_
   refine wv (.pointer (some ⟨b, 0, none⟩)) ?_
   refine wix b 0 (c / 64) .i64 arrt_impl_Cells ?_
   replace hb := hb.ext E1
   refine wld (v := .int .u64 (wd x y c)) b (0 + (c / 64).toNat) scal_uint64 (hb.get (by rw [Nat.zero_add]; exact cells2a _ _ _ (by omega) (by omega))) ?_
   refine wv (.int .i64 c) ?_
   refine wrem c 64 ?_
   refine wu64 (c % 64) ?_
   refine wshr .u64 .u64 (wd x y c) (c % 64) ?_
   refine wv (.int .u64 (bits BinOp.and IntKind.u64 ((wd x y c) / 2 ^ (c % 64).toNat) 1)) ?_
   refine wv (.bool ((bits BinOp.and IntKind.u64 ((wd x y c) / 2 ^ (c % 64).toNat) 1) == 1)) ?_
   refine wv (.bool ((bits BinOp.and IntKind.u64 ((wd x y c) / 2 ^ (c % 64).toNat) 1) == 1)) ?_
   refine wv (.bool ((bits BinOp.and IntKind.u64 ((wd x y c) / 2 ^ (c % 64).toNat) 1) == 1)) ?_
   refine wpList_nil (then_normal ?_)
   refine wp_ret ?_
   have H1 := (Ext.refl w).trans E1
   refine ret1 (.bool (hasB x y c)) rfl ?_ rfl ?_
   · refine (resT (v := .bool ((bits BinOp.and IntKind.u64 ((wd x y c) / 2 ^ (c % 64).toNat) 1) == 1)) (by kernel_rfl)).trans ?_
     refine congrArg Value.bool ?_
     first | exact (hasB_out (by assumption)).symm | exact (hasB_in (by assumption)).symm
   exact ⟨rfl, H1⟩
 · skip
   refine wbl 7 false h1 ?_
   have h1d := inF h1
   refine wsk ?_
   refine wsk ?_
   refine wsk ?_
   refine wsk ?_
   refine wsk ?_
   refine wsk ?_
   refine wsk ?_
   refine wsk ?_
   refine wsk ?_
   refine wsk ?_
   refine wsk ?_
   refine wsk ?_
   refine wv (.bool false) ?_
   refine wv (.bool false) ?_
   refine wpList_nil (then_normal ?_)
   refine wp_ret ?_
   have H2 := (Ext.refl w).trans E1
   refine ret1 (.bool (hasB x y c)) rfl ?_ rfl ?_
   · refine (resT (v := .bool false) (by kernel_rfl)).trans ?_
     refine congrArg Value.bool ?_
     first | exact (hasB_out (by assumption)).symm | exact (hasB_in (by assumption)).symm
   exact ⟨rfl, H2⟩


--# sHasCell_any
theorem sHasCell_any (x y : Int) (c : Int) (w : World) :
 Calls Try.prog 30 #[.agg #[.int .u64 x, .int .u64 y], .int .i64 c] w fun e w' => e = .returned (.bool (hasB x y c)) ∧ Ext w w' := by
 refine calls_of_wp Try.func30 rfl ?_
 refine wp_frame (a' := ⟨#[.agg #[.int .u64 x, .int .u64 y], .int .i64 c, undef, undef, undef, undef, undef], []⟩) (by kernel_rfl) ?_
 refine wsr ?_
 refine wbox #[.int .u64 x, .int .u64 y] ?_
 intro g1 w1 B1 E1 _
 refine wv (.bool false) ?_
 refine wpList_nil (then_normal ?_)
 refine wsr ?_
 refine wv (.int .i64 c) ?_
 refine wcl (l01Has_any x y g1 _ c _ B1) ?_
 intro w2 E2
 refine wv (.bool (hasB x y c)) ?_
 refine wpList_nil (then_normal ?_)
 refine wp_ret ?_
 have H1 := ((Ext.refl w).trans E1).trans E2
 refine ret1 (.bool (hasB x y c)) rfl ?_ rfl ?_
 · exact resT (by kernel_rfl)
 exact ⟨rfl, H1⟩


--# put_any
theorem put_any (x y : Int) (b : Nat) (t : TypeId) (c : Int) (hc : 0 ≤ c ∧ c ≤ 99) (w : World) (hb : Blk w b t #[.int .u64 x, .int .u64 y]) :
 Calls Try.prog 40 #[.pointer (some ⟨b, 0, none⟩), .int .i64 c] w fun e w' => e = .returned (.tuple #[]) ∧ Blk w' b t #[.int .u64 ((putS (x, y) c).1), .int .u64 ((putS (x, y) c).2)] ∧ Wr b w w' := by
 refine calls_of_wp Try.func40 rfl ?_
 refine wp_frame (a' := ⟨#[.pointer (some ⟨b, 0, none⟩), .int .i64 c, undef, undef, undef, undef, undef, undef, undef, undef, undef, undef, undef, undef, undef, undef], []⟩) (by kernel_rfl) ?_
 refine region_go 12 [4, 5, 6, 7, 8, 9, 10, 11, 12, 13, 14, 15] [[], [], [1], [0], [3, 2], [4], [], [6], [7], [5, 8], [0], [10, 2]]
  (fun i_ => ([.val (.pointer (some ⟨b, 0, none⟩)), .val (.int .i64 c), .val (.int .i64 (c / 64)), .val (.pointer (some ⟨b, 0, none⟩)), .val (.pointer (some ⟨b, 0 + (c / 64).toNat, none⟩)), .val (.int .u64 (wd x y c)), .val (.int .i64 c), .val (.int .i64 (c % 64)), .val (.int .u64 (IntKind.u64.wrap (1 * 2 ^ (c % 64).toNat))), .val (.int .u64 (bits BinOp.or IntKind.u64 (wd x y c) (IntKind.u64.wrap (1 * 2 ^ (c % 64).toNat)))), .val (.pointer (some ⟨b, 0, none⟩)), .val (.pointer (some ⟨b, 0 + (c / 64).toNat, none⟩))] : List Fct).getD i_ .any)
  (by kernel_rfl) (by kernel_rfl) (by decide) (by simp) rfl (all_succ (all_succ (all_succ (all_succ (all_succ (all_succ (all_succ (all_succ (all_succ (all_succ (all_succ (all_succ all_zero ?_) ?_) ?_) ?_) ?_) ?_) ?_) ?_) ?_) ?_) ?_) ?_) ?_
 · refine step0 rfl rfl rfl (fun wr hw => ?_)
   exact OpRun.val (.pointer (some ⟨b, 0, none⟩)) (.pointer (some ⟨b, 0, none⟩)) (by kernel_rfl) rfl ⟨Ext.refl _, rfl⟩
 · refine step0 rfl rfl rfl (fun wr hw => ?_)
   exact OpRun.val (.int .i64 c) (.int .i64 c) (by kernel_rfl) rfl ⟨Ext.refl _, rfl⟩
 · refine step1 rfl rfl rfl rfl (fun u0 wr hw h0 => ?_)
   cases h0
   exact OpRun.val (.int .i64 (IntKind.i64.wrap (Int.tdiv c 64))) (.int .i64 (c / 64)) (by kernel_rfl) (by exact congrArg _ (quo_in (by omega) (by omega))) ⟨Ext.refl _, rfl⟩
 · refine step1 rfl rfl rfl rfl (fun u0 wr hw h0 => ?_)
   cases h0
   exact OpRun.val (.pointer (some ⟨b, 0, none⟩)) (.pointer (some ⟨b, 0, none⟩)) (by kernel_rfl) rfl ⟨Ext.refl _, rfl⟩
 · refine step2 rfl rfl rfl rfl rfl (fun u0 u1 wr hw h0 h1 => ?_)
   cases h0
   cases h1
   exact OpRun.ixa (i := c / 64) (k := .i64) (g := b) (off := 0) arrt_impl_Cells rfl (by kernel_rfl) (by kernel_rfl) (by omega) (by omega) ⟨Ext.refl _, rfl⟩
 · refine step1 rfl rfl rfl rfl (fun u0 wr hw h0 => ?_)
   cases h0
   exact OpRun.cell (g := b) (off := 0 + (c / 64).toNat) (v := .int .u64 (wd x y c)) scal_uint64 rfl (by kernel_rfl) ((hb.ext hw).get (by rw [Nat.zero_add]; exact cells2a _ _ _ (by omega) (by omega))) ⟨Ext.refl _, rfl⟩
 · refine step0 rfl rfl rfl (fun wr hw => ?_)
   exact OpRun.val (.int .i64 c) (.int .i64 c) (by kernel_rfl) rfl ⟨Ext.refl _, rfl⟩
 · refine step1 rfl rfl rfl rfl (fun u0 wr hw h0 => ?_)
   cases h0
   exact OpRun.val (.int .i64 (Int.tmod c 64)) (.int .i64 (c % 64)) (by kernel_rfl) (by exact congrArg _ (Int.tmod_eq_emod_of_nonneg (by omega))) ⟨Ext.refl _, rfl⟩
 · refine step1 rfl rfl rfl rfl (fun u0 wr hw h0 => ?_)
   cases h0
   exact OpRun.shl (k := .u64) (k2 := .i64) (a := 1) (n := c % 64) rfl (by kernel_rfl) (by kernel_rfl) (by omega) (by simp only [IntKind.bits]; omega) ⟨Ext.refl _, rfl⟩
 · refine step2 rfl rfl rfl rfl rfl (fun u0 u1 wr hw h0 h1 => ?_)
   cases h0
   cases h1
   exact OpRun.val (.int .u64 (bits BinOp.or IntKind.u64 (wd x y c) (IntKind.u64.wrap (1 * 2 ^ (c % 64).toNat)))) (.int .u64 (bits BinOp.or IntKind.u64 (wd x y c) (IntKind.u64.wrap (1 * 2 ^ (c % 64).toNat)))) (by kernel_rfl) rfl ⟨Ext.refl _, rfl⟩
 · refine step1 rfl rfl rfl rfl (fun u0 wr hw h0 => ?_)
   cases h0
   exact OpRun.val (.pointer (some ⟨b, 0, none⟩)) (.pointer (some ⟨b, 0, none⟩)) (by kernel_rfl) rfl ⟨Ext.refl _, rfl⟩
 · refine step2 rfl rfl rfl rfl rfl (fun u0 u1 wr hw h0 h1 => ?_)
   cases h0
   cases h1
   exact OpRun.ixa (i := c / 64) (k := .i64) (g := b) (off := 0) arrt_impl_Cells rfl (by kernel_rfl) (by kernel_rfl) (by omega) (by omega) ⟨Ext.refl _, rfl⟩
 refine end12 (fun u0 u1 u2 u3 u4 u5 u6 u7 u8 u9 u10 u11 w1 E1 f0 f1 f2 f3 f4 f5 f6 f7 f8 f9 f10 f11 => ?_)
 cases f0
 cases f1
 cases f2
 cases f3
 cases f4
 cases f5
 cases f6
 cases f7
 cases f8
 cases f9
 cases f10
 cases f11
 replace hb := hb.ext E1
 refine wst b (0 + (c / 64).toNat) (.int .u64 (bits BinOp.or IntKind.u64 (wd x y c) (IntKind.u64.wrap (1 * 2 ^ (c % 64).toNat)))) scal_uint64 hb (set2 (by omega)) (by first | (simp; done) | (simp; omega)) ?_
 intro w2 hb_ X1
 clear hb; have hb := hb_; clear hb_
 refine wpList_nil ?_
 refine end0_ rfl rfl ?_
 have H1 := ((Wr.of_ext (Ext.refl w)).trans (Wr.of_ext E1)).trans X1
 refine ⟨rfl, ?_, H1⟩
 have hq : (#[.int .u64 (pw0 x c (bits BinOp.or IntKind.u64 (wd x y c) (IntKind.u64.wrap (1 * 2 ^ (c % 64).toNat)))), .int .u64 (pw1 y c (bits BinOp.or IntKind.u64 (wd x y c) (IntKind.u64.wrap (1 * 2 ^ (c % 64).toNat))))] : Array Value) = #[.int .u64 ((putS (x, y) c).1), .int .u64 ((putS (x, y) c).2)] := by
   unfold putS; rfl
 rw [← hq]
 exact hb


--# l01Put_any
theorem l01Put_any (x y : Int) (b : Nat) (t : TypeId) (c : Int) (hc : 0 ≤ c ∧ c ≤ 99) (w : World) (hb : Blk w b t #[.int .u64 x, .int .u64 y]) :
 Calls Try.prog 35 #[.pointer (some ⟨b, 0, none⟩), .int .i64 c] w fun e w' => e = .returned (.tuple #[]) ∧ Blk w' b t #[.int .u64 ((putS (x, y) c).1), .int .u64 ((putS (x, y) c).2)] ∧ Wr b w w' := by
 refine calls_of_wp Try.func35 rfl ?_
 refine wp_frame (a' := ⟨#[.pointer (some ⟨b, 0, none⟩), .int .i64 c, undef, undef, undef, undef, undef, undef, undef, undef, undef, undef, undef, undef, undef, undef, undef], []⟩) (by kernel_rfl) ?_
 refine region_go 13 [4, 5, 6, 7, 8, 9, 10, 11, 12, 13, 14, 15, 16] [[], [], [1], [0], [3, 2], [4], [], [6], [7], [8], [5, 9], [0], [11, 2]]
  (fun i_ => ([.val (.pointer (some ⟨b, 0, none⟩)), .val (.int .i64 c), .val (.int .i64 (c / 64)), .val (.pointer (some ⟨b, 0, none⟩)), .val (.pointer (some ⟨b, 0 + (c / 64).toNat, none⟩)), .val (.int .u64 (wd x y c)), .val (.int .i64 c), .val (.int .i64 (c % 64)), .val (.int .u64 (c % 64)), .val (.int .u64 (IntKind.u64.wrap (1 * 2 ^ (c % 64).toNat))), .val (.int .u64 (bits BinOp.or IntKind.u64 (wd x y c) (IntKind.u64.wrap (1 * 2 ^ (c % 64).toNat)))), .val (.pointer (some ⟨b, 0, none⟩)), .val (.pointer (some ⟨b, 0 + (c / 64).toNat, none⟩))] : List Fct).getD i_ .any)
  (by kernel_rfl) (by kernel_rfl) (by decide) (by simp) rfl (all_succ (all_succ (all_succ (all_succ (all_succ (all_succ (all_succ (all_succ (all_succ (all_succ (all_succ (all_succ (all_succ all_zero ?_) ?_) ?_) ?_) ?_) ?_) ?_) ?_) ?_) ?_) ?_) ?_) ?_) ?_
 · refine step0 rfl rfl rfl (fun wr hw => ?_)
   exact OpRun.val (.pointer (some ⟨b, 0, none⟩)) (.pointer (some ⟨b, 0, none⟩)) (by kernel_rfl) rfl ⟨Ext.refl _, rfl⟩
 · refine step0 rfl rfl rfl (fun wr hw => ?_)
   exact OpRun.val (.int .i64 c) (.int .i64 c) (by kernel_rfl) rfl ⟨Ext.refl _, rfl⟩
 · refine step1 rfl rfl rfl rfl (fun u0 wr hw h0 => ?_)
   cases h0
   exact OpRun.val (.int .i64 (IntKind.i64.wrap (Int.tdiv c 64))) (.int .i64 (c / 64)) (by kernel_rfl) (by exact congrArg _ (quo_in (by omega) (by omega))) ⟨Ext.refl _, rfl⟩
 · refine step1 rfl rfl rfl rfl (fun u0 wr hw h0 => ?_)
   cases h0
   exact OpRun.val (.pointer (some ⟨b, 0, none⟩)) (.pointer (some ⟨b, 0, none⟩)) (by kernel_rfl) rfl ⟨Ext.refl _, rfl⟩
 · refine step2 rfl rfl rfl rfl rfl (fun u0 u1 wr hw h0 h1 => ?_)
   cases h0
   cases h1
   exact OpRun.ixa (i := c / 64) (k := .i64) (g := b) (off := 0) arrt_impl_Cells rfl (by kernel_rfl) (by kernel_rfl) (by omega) (by omega) ⟨Ext.refl _, rfl⟩
 · refine step1 rfl rfl rfl rfl (fun u0 wr hw h0 => ?_)
   cases h0
   exact OpRun.cell (g := b) (off := 0 + (c / 64).toNat) (v := .int .u64 (wd x y c)) scal_uint64 rfl (by kernel_rfl) ((hb.ext hw).get (by rw [Nat.zero_add]; exact cells2a _ _ _ (by omega) (by omega))) ⟨Ext.refl _, rfl⟩
 · refine step0 rfl rfl rfl (fun wr hw => ?_)
   exact OpRun.val (.int .i64 c) (.int .i64 c) (by kernel_rfl) rfl ⟨Ext.refl _, rfl⟩
 · refine step1 rfl rfl rfl rfl (fun u0 wr hw h0 => ?_)
   cases h0
   exact OpRun.val (.int .i64 (Int.tmod c 64)) (.int .i64 (c % 64)) (by kernel_rfl) (by exact congrArg _ (Int.tmod_eq_emod_of_nonneg (by omega))) ⟨Ext.refl _, rfl⟩
 · refine step1 rfl rfl rfl rfl (fun u0 wr hw h0 => ?_)
   cases h0
   exact OpRun.val (.int .u64 (IntKind.u64.wrap (c % 64))) (.int .u64 (c % 64)) (by kernel_rfl) (by exact congrArg _ (IntWalk.u64_in _ (by omega))) ⟨Ext.refl _, rfl⟩
 · refine step1 rfl rfl rfl rfl (fun u0 wr hw h0 => ?_)
   cases h0
   exact OpRun.shl (k := .u64) (k2 := .u64) (a := 1) (n := c % 64) rfl (by kernel_rfl) (by kernel_rfl) (by omega) (by simp only [IntKind.bits]; omega) ⟨Ext.refl _, rfl⟩
 · refine step2 rfl rfl rfl rfl rfl (fun u0 u1 wr hw h0 h1 => ?_)
   cases h0
   cases h1
   exact OpRun.val (.int .u64 (bits BinOp.or IntKind.u64 (wd x y c) (IntKind.u64.wrap (1 * 2 ^ (c % 64).toNat)))) (.int .u64 (bits BinOp.or IntKind.u64 (wd x y c) (IntKind.u64.wrap (1 * 2 ^ (c % 64).toNat)))) (by kernel_rfl) rfl ⟨Ext.refl _, rfl⟩
 · refine step1 rfl rfl rfl rfl (fun u0 wr hw h0 => ?_)
   cases h0
   exact OpRun.val (.pointer (some ⟨b, 0, none⟩)) (.pointer (some ⟨b, 0, none⟩)) (by kernel_rfl) rfl ⟨Ext.refl _, rfl⟩
 · refine step2 rfl rfl rfl rfl rfl (fun u0 u1 wr hw h0 h1 => ?_)
   cases h0
   cases h1
   exact OpRun.ixa (i := c / 64) (k := .i64) (g := b) (off := 0) arrt_impl_Cells rfl (by kernel_rfl) (by kernel_rfl) (by omega) (by omega) ⟨Ext.refl _, rfl⟩
 refine end13 (fun u0 u1 u2 u3 u4 u5 u6 u7 u8 u9 u10 u11 u12 w1 E1 f0 f1 f2 f3 f4 f5 f6 f7 f8 f9 f10 f11 f12 => ?_)
 cases f0
 cases f1
 cases f2
 cases f3
 cases f4
 cases f5
 cases f6
 cases f7
 cases f8
 cases f9
 cases f10
 cases f11
 cases f12
 replace hb := hb.ext E1
 refine wst b (0 + (c / 64).toNat) (.int .u64 (bits BinOp.or IntKind.u64 (wd x y c) (IntKind.u64.wrap (1 * 2 ^ (c % 64).toNat)))) scal_uint64 hb (set2 (by omega)) (by first | (simp; done) | (simp; omega)) ?_
 intro w2 hb_ X1
 clear hb; have hb := hb_; clear hb_
 refine wpList_nil ?_
 refine end0_ rfl rfl ?_
 have H1 := ((Wr.of_ext (Ext.refl w)).trans (Wr.of_ext E1)).trans X1
 refine ⟨rfl, ?_, H1⟩
 have hq : (#[.int .u64 (pw0 x c (bits BinOp.or IntKind.u64 (wd x y c) (IntKind.u64.wrap (1 * 2 ^ (c % 64).toNat)))), .int .u64 (pw1 y c (bits BinOp.or IntKind.u64 (wd x y c) (IntKind.u64.wrap (1 * 2 ^ (c % 64).toNat))))] : Array Value) = #[.int .u64 ((putS (x, y) c).1), .int .u64 ((putS (x, y) c).2)] := by
   unfold putS; rfl
 rw [← hq]
 exact hb


--# cells_any
theorem cells_any (F : Fld) (hF : F.wf) (b : Nat) (t : TypeId) (w : World) (hb : Blk w b t F.cells) :
 Calls Try.prog 70 #[.pointer (some ⟨b, 0, none⟩)] w fun e w' => RetI w 2 .i64 (cellsL F) id e w' := by
 refine calls_of_wp Try.func70 rfl ?_
 refine wp_frame (a' := ⟨#[.pointer (some ⟨b, 0, none⟩), undef, undef, undef, undef, undef, undef, undef, undef, undef, undef, undef, undef, undef, undef, undef, undef, undef], []⟩) (by kernel_rfl) ?_
 refine wsr ?_
 refine wv (.slice none 0 0) ?_
 refine wpList_nil (then_normal ?_)
 refine wsr ?_
 refine wbsl 0 #[] slt__int64 ?_
 intro g1 w1 B1 E1 hg_
 have q_b_g1 := Nat.ne_of_lt (Nat.lt_of_lt_of_le hb.lt hg_)
 have lo_g1 := Nat.le_trans ((Ext.refl w)).size hg_
 have S1 : SlI #[] 0 0 .i64 [] := SlI.nil
 refine wv (.slice (some ⟨g1, 0, none⟩) 0 0) ?_
 refine wpList_nil (then_normal ?_)
 refine wp_seq ?_
 refine wsr ?_
 refine wv (.int .i64 0) ?_
 refine wpList_nil (then_normal ?_)
 refine wp_block ?_
 replace hb := hb.ext E1
 have H1 := (Ext.refl w).trans E1
 refine wp_loop_k (fun m1 a wl1 => ∃ (i : Nat) (go : Nat) (no : Nat) (capo : Nat) (cso : Array Value), m1 = 100 - i ∧ i ≤ 100 ∧ SlI cso no capo .i64 (cellsN F i) ∧ w.heap.size ≤ go ∧ b ≠ go ∧ Ext w wl1 ∧ Blk wl1 b t F.cells ∧ Blk wl1 go 2 cso ∧ (∃ J1 : Nat → Value, a = ⟨#[.pointer (some ⟨b, 0, none⟩), undef, .slice none 0 0, .slice (some ⟨go, 0, none⟩) no capo, J1 4, .slice (some ⟨g1, 0, none⟩) 0 0, .int .i64 (i : Int), J1 7, J1 8, J1 9, J1 10, J1 11, J1 12, J1 13, J1 14, J1 15, J1 16, undef], []⟩)) (100) ?_ ?_
 · refine ⟨0, g1, 0, 0, #[], rfl, ?_, ?_, ?_, ?_, H1, hb, B1, exJ (by kernel_rfl)⟩
   · omega
   · refine S1.of_eq ?_
     exact (cellsN_0 F).symm
   · exact lo_g1
   · exact q_b_g1
 intro m1 a wl1 hI
 obtain ⟨i, go, no, capo, cso, rfl, hi_, So, lo_go, n_b_go, HL1, hb, Bo, J1, rfl⟩ := hI
 have cl_ := cellsN_length F i
 have len_So := So.len
 refine wsr ?_
 refine wv (.bool (decide ((i : Int) < 100))) ?_
 refine wpList_nil (then_normal ?_)
 refine wp_seq ?_
 refine wsplit (decide ((i : Int) < 100)) (fun h1 => ?_) (fun h1 => ?_)
 · skip
   have h1d := dT h1
   refine wp_skip ?_
   refine then_normal ?_
   refine wp_seq ?_
   refine wp_block ?_
   refine wsr ?_
   refine wv (.int .i64 (i : Int)) ?_
   refine wv (.int .i64 (i : Int)) ?_
   refine wpList_nil (then_normal ?_)
   refine wsr ?_
   refine wv (.pointer (some ⟨b, 0, none⟩)) ?_
   refine wv (.int .i64 (i : Int)) ?_
   refine wcl (has_any F hF b _ (i : Int) _ hb) ?_
   intro w2 E2
   refine wpList_nil (then_normal ?_)
   have H2 := HL1.trans E2
   refine wsplit (isB F (i : Int)) (fun h2 => ?_) (fun h2 => ?_)
   · skip
     have h2d := isB_true.1 h2
     refine wp_region_lit ?_
     refine wv (.slice (some ⟨go, 0, none⟩) no capo) ?_
     refine wv (.int .i64 (i : Int)) ?_
     replace hb := hb.ext E2
     replace Bo := Bo.ext E2
     refine wbsl 1 #[.int .i64 (i : Int)] slt__int64 ?_
     intro g2 w3 B2 E3 hg_
     have q_b_g2 := Nat.ne_of_lt (Nat.lt_of_lt_of_le hb.lt hg_)
     have q_go_g2 := Nat.ne_of_lt (Nat.lt_of_lt_of_le Bo.lt hg_)
     have lo_g2 := Nat.le_trans (H2).size hg_
     replace hb := hb.ext E3
     replace Bo := Bo.ext E3
     have H3 := H2.trans E3
     refine wappi (i : Int) slt__int64 Bo So B2 ?_
     intro g3 cap1 cs1 w4 B3 S2 X1 or1
     have n_b_g3 := ne_app hb n_b_go or1
     have n_g2_g3 := ne_app B2 (Ne.symm q_go_g2) or1
     have lo_g3 := Wr.lo or1 lo_go (H3).size
     refine wv (.slice (some ⟨g3, 0, none⟩) (no + 1) cap1) ?_
     refine wpList_nil (block_normal (then_normal ?_))
     refine wp_region_lit ?_
     refine wi64 ((i : Int) + 1) ?_
     refine wv (.int .i64 ((i : Int) + 1)) ?_
     refine wpList_nil (then_normal ?_)
     replace hb := X1.blk hb n_b_go
     have H4 := X1.ext w lo_go H3
     refine ⟨_, ?_, i + 1, g3, no + 1, cap1, cs1, rfl, ?_, ?_, ?_, ?_, H4, hb, B3, exJ (by kernel_rfl)⟩
     · omega
     · omega
     · refine S2.of_eq ?_
       first | exact (cellsN_1 (by assumption)).symm | exact (cellsN_2 (by assumption)).symm
     · exact lo_g3
     · exact n_b_g3
   · skip
     refine wp_skip ?_
     refine block_normal (then_normal ?_)
     refine wp_region_lit ?_
     refine wi64 ((i : Int) + 1) ?_
     refine wv (.int .i64 ((i : Int) + 1)) ?_
     refine wpList_nil (then_normal ?_)
     replace hb := hb.ext E2
     replace Bo := Bo.ext E2
     refine ⟨_, ?_, i + 1, go, no, capo, cso, rfl, ?_, ?_, ?_, ?_, H2, hb, Bo, exJ (by kernel_rfl)⟩
     · omega
     · omega
     · refine So.of_eq ?_
       first | exact (cellsN_1 (by assumption)).symm | exact (cellsN_2 (by assumption)).symm
     · exact lo_go
     · exact n_b_go
 · skip
   have h1d := dF h1
   refine wp_exit ?_
   refine then_exit ?_
   refine then_exit ?_
   refine block_exit ?_
   refine then_normal ?_
   refine wsr ?_
   refine wv (.slice (some ⟨go, 0, none⟩) no capo) ?_
   refine wv (.slice (some ⟨go, 0, none⟩) no capo) ?_
   refine wpList_nil (then_normal ?_)
   refine wp_ret ?_
   refine ret1 (.slice (some ⟨go, 0, none⟩) no capo) rfl ?_ rfl ?_
   · exact resT (by kernel_rfl)
   have hq : cellsN F i = cellsL F := by
     exact cellsN_end (by omega) (by omega)
   exact ⟨go, no, capo, cso, rfl, Bo, So.of_eq hq, HL1, lo_go⟩


--# iCellsOf_any
theorem iCellsOf_any (xs : List Int) (b cap : Nat) (cs : Array Value) (hS : SlI cs xs.length cap .i64 xs) (hx : xs.length ≤ 1048576) (w : World) (hb : Blk w b 2 cs) :
 Calls Try.prog 15 #[.slice (some ⟨b, 0, none⟩) xs.length cap] w fun e w' => e = .returned (.tuple #[.agg #[.int .u64 ((ofL xs).1), .int .u64 ((ofL xs).2)], .int .i64 (ofC xs)]) ∧ Ext w w' := by
 refine calls_of_wp Try.func15 rfl ?_
 refine wp_frame (a' := ⟨#[.slice (some ⟨b, 0, none⟩) xs.length cap, undef, undef, undef, undef, undef, undef, undef, undef, undef, undef, undef, undef, undef, undef, undef, undef, undef, undef, undef, undef, undef], []⟩) (by kernel_rfl) ?_
 refine wsr ?_
 refine wnew #[.int .u64 0, .int .u64 0] Try.zeroValue33 rfl ?_
 intro g1 w1 B1 E1 hg_
 have q_b_g1 := Nat.ne_of_lt (Nat.lt_of_lt_of_le hb.lt hg_)
 have lo_g1 := Nat.le_trans ((Ext.refl w)).size hg_
 refine wv (.int .i64 0) ?_
 refine wpList_nil (then_normal ?_)
 refine wsr ?_
 refine wv (.agg #[.int .u64 0, .int .u64 0]) ?_
 have H1 := (Ext.refl w).trans E1
 replace hb := hb.ext E1
 refine wnew #[.int .u64 0, .int .u64 0] Try.zeroValue33 rfl ?_
 intro g2 w2 B2 E2 hg_
 have q_b_g2 := Nat.ne_of_lt (Nat.lt_of_lt_of_le hb.lt hg_)
 have q_g1_g2 := Nat.ne_of_lt (Nat.lt_of_lt_of_le B1.lt hg_)
 have lo_g2 := Nat.le_trans (H1).size hg_
 refine wput #[.int .u64 0, .int .u64 0] row_impl_Cells B2 (by rfl) (by rfl) (by kernel_rfl) ?_
 intro w3 B2_ X1
 clear B2; have B2 := B2_; clear B2_
 refine wpList_nil (then_normal ?_)
 refine wp_seq ?_
 refine wsr ?_
 refine wv (.slice (some ⟨b, 0, none⟩) xs.length cap) ?_
 refine wv (.int .i64 (xs.length : Int)) ?_
 refine wv (.int .i64 0) ?_
 refine wpList_nil (then_normal ?_)
 refine wp_block ?_
 replace hb := X1.blk (hb.ext E2) q_b_g2
 replace B1 := X1.blk (B1.ext E2) q_g1_g2
 have H2 := X1.ext w lo_g2 (H1.trans E2)
 refine wp_loop_k (fun m1 a wl1 => ∃ (i : Nat), m1 = xs.length - i ∧ i ≤ xs.length ∧ (∀ j, j < i → inB (atI xs j) 0 99 = true) ∧ Ext w wl1 ∧ Blk wl1 b 2 cs ∧ Blk wl1 g1 33 #[.int .u64 0, .int .u64 0] ∧ Blk wl1 g2 33 #[.int .u64 ((setL xs i).1), .int .u64 ((setL xs i).2)] ∧ (∃ J1 : Nat → Value, a = ⟨#[.slice (some ⟨b, 0, none⟩) xs.length cap, undef, .pointer (some ⟨g1, 0, none⟩), J1 3, .pointer (some ⟨g2, 0, none⟩), undef, J1 6, .agg #[.int .u64 0, .int .u64 0], .slice (some ⟨b, 0, none⟩) xs.length cap, .int .i64 (xs.length : Int), .int .i64 (i : Int), J1 11, J1 12, J1 13, J1 14, J1 15, J1 16, J1 17, J1 18, J1 19, J1 20, undef], []⟩)) (xs.length) ?_ ?_
 · refine ⟨0, rfl, ?_, ?_, H2, hb, B1, ?_, exJ (by kernel_rfl)⟩
   · omega
   · intro j hj; omega
   · rw [setL_0]; exact B2
 intro m1 a wl1 hI
 obtain ⟨i, rfl, hi_, hall, HL1, hb, B1, B2, J1, rfl⟩ := hI
 refine wsr ?_
 refine wv (.bool (decide ((i : Int) < (xs.length : Int)))) ?_
 refine wpList_nil (then_normal ?_)
 refine wp_seq ?_
 refine wsplit (decide ((i : Int) < (xs.length : Int))) (fun h1 => ?_) (fun h1 => ?_)
 · skip
   have h1d := dT h1
   refine wp_skip ?_
   refine then_normal ?_
   refine wp_seq ?_
   refine wp_block ?_
   refine wsr ?_
   refine wsix1 b 0 xs.length cap i .i64 slit__int64 ?_
   refine wld b (0 + i) scal_int64 (hb.get (SlI.get hS (by omega))) ?_
   refine wv (.int .i64 (atI xs i)) ?_
   refine wpList_nil (then_normal ?_)
   refine wp_seq ?_
   refine wsr ?_
   refine wv (.int .i64 (atI xs i)) ?_
   refine wcl (within_any (atI xs i) 0 99 _) ?_
   intro w4 E3
   refine wv (.bool (!(inB (atI xs i) 0 99))) ?_
   refine wpList_nil (then_normal ?_)
   have H3 := HL1.trans E3
   refine wsplit (!(inB (atI xs i) 0 99)) (fun h2 => ?_) (fun h2 => ?_)
   · skip
     replace h2 := nbT h2
     have h2d := inF h2
     refine wsr ?_
     refine wv (.agg #[.int .u64 0, .int .u64 0]) ?_
     replace B1 := B1.ext E3
     refine wput #[.int .u64 0, .int .u64 0] row_impl_Cells B1 (by rfl) (by rfl) (by kernel_rfl) ?_
     intro w5 B1_ X2
     clear B1; have B1 := B1_; clear B1_
     refine wv (.int .i64 2) ?_
     refine wpList_nil (then_normal ?_)
     refine wp_ret ?_
     refine then_ret (block_ret (then_ret (then_ret (block_ret (then_ret ?_)))))
     have H4 := X2.ext w lo_g1 H3
     refine ret2 (.agg #[.int .u64 ((ofL xs).1), .int .u64 ((ofL xs).2)]) (.int .i64 (ofC xs)) rfl ?_ ?_ rfl ?_
     · refine ⟨g1, 33, #[.int .u64 0, .int .u64 0], _, by kernel_rfl, B1, row_impl_Cells, ?_, ?_⟩
       · rfl
       · show (.agg #[.int .u64 ((ofL xs).1), .int .u64 ((ofL xs).2)] : Value) = (.agg #[.int .u64 0, .int .u64 0])
         refine congrArg Value.agg ?_
         first | rw [ofL_f (allIn_f (i := i) (by omega) (by assumption))] | rw [ofL_t (allIn_t (fun j hj => hall j (by omega))) (by omega) (by omega)]
     · refine (resT (v := .int .i64 2) (by kernel_rfl)).trans ?_
       refine congrArg (Value.int _) ?_
       first | exact (ofC_f (allIn_f (i := i) (by omega) (by assumption))).symm | exact (ofC_t (allIn_t (fun j hj => hall j (by omega)))).symm
     exact ⟨rfl, H4⟩
   · skip
     replace h2 := nbF h2
     have h2d := inT h2
     refine wp_skip ?_
     refine then_normal ?_
     refine wp_region_lit ?_
     refine wv (.int .i64 (atI xs i)) ?_
     replace B2 := B2.ext E3
     refine wcl (put_any ((setL xs i).1) ((setL xs i).2) g2 _ (atI xs i) (by omega) _ B2) ?_
     rintro w6 ⟨B2_, X3⟩
     clear B2; have B2 := B2_; clear B2_
     refine wpList_nil (block_normal (then_normal ?_))
     refine wp_region_lit ?_
     refine wi64 ((i : Int) + 1) ?_
     refine wv (.int .i64 ((i : Int) + 1)) ?_
     refine wpList_nil (then_normal ?_)
     replace hb := X3.blk (hb.ext E3) q_b_g2
     replace B1 := X3.blk (B1.ext E3) q_g1_g2
     have H5 := X3.ext w lo_g2 H3
     refine ⟨_, ?_, i + 1, rfl, ?_, ?_, H5, hb, B1, ?_, exJ (by kernel_rfl)⟩
     · omega
     · omega
     · exact all_step hall (by assumption)
     · rw [setL_s (by omega)]; exact B2
 · skip
   have h1d := dF h1
   refine wp_exit ?_
   refine then_exit ?_
   refine then_exit ?_
   refine block_exit ?_
   refine then_normal ?_
   refine wsr ?_
   refine wrow row_impl_Cells B2 (by rfl) ?_
   refine wput #[.int .u64 ((setL xs i).1), .int .u64 ((setL xs i).2)] row_impl_Cells B1 (by rfl) (by rfl) (by kernel_rfl) ?_
   intro w7 B1_ X4
   clear B1; have B1 := B1_; clear B1_
   refine wv (.int .i64 0) ?_
   refine wpList_nil (then_normal ?_)
   refine wp_ret ?_
   have H6 := X4.ext w lo_g1 HL1
   refine ret2 (.agg #[.int .u64 ((ofL xs).1), .int .u64 ((ofL xs).2)]) (.int .i64 (ofC xs)) rfl ?_ ?_ rfl ?_
   · refine ⟨g1, 33, #[.int .u64 ((setL xs i).1), .int .u64 ((setL xs i).2)], _, by kernel_rfl, B1, row_impl_Cells, ?_, ?_⟩
     · rfl
     · show (.agg #[.int .u64 ((ofL xs).1), .int .u64 ((ofL xs).2)] : Value) = (.agg #[.int .u64 ((setL xs i).1), .int .u64 ((setL xs i).2)])
       refine congrArg Value.agg ?_
       first | rw [ofL_f (allIn_f (i := i) (by omega) (by assumption))] | rw [ofL_t (allIn_t (fun j hj => hall j (by omega))) (by omega) (by omega)]
   · refine (resT (v := .int .i64 0) (by kernel_rfl)).trans ?_
     refine congrArg (Value.int _) ?_
     first | exact (ofC_f (allIn_f (i := i) (by omega) (by assumption))).symm | exact (ofC_t (allIn_t (fun j hj => hall j (by omega)))).symm
   exact ⟨rfl, H6⟩


--# l01List_any
theorem l01List_any (x y : Int) (b : Nat) (t : TypeId) (w : World) (hb : Blk w b t #[.int .u64 x, .int .u64 y]) :
 Calls Try.prog 41 #[.pointer (some ⟨b, 0, none⟩)] w fun e w' => RetI w 2 .i64 (listL x y) id e w' := by
 refine calls_of_wp Try.func41 rfl ?_
 refine wp_frame (a' := ⟨#[.pointer (some ⟨b, 0, none⟩), undef, undef, undef, undef, undef, undef, undef, undef, undef, undef, undef, undef, undef, undef, undef, undef, undef], []⟩) (by kernel_rfl) ?_
 refine wsr ?_
 refine wv (.slice none 0 0) ?_
 refine wpList_nil (then_normal ?_)
 refine wsr ?_
 refine wbsl 0 #[] slt__int64 ?_
 intro g1 w1 B1 E1 hg_
 have q_b_g1 := Nat.ne_of_lt (Nat.lt_of_lt_of_le hb.lt hg_)
 have lo_g1 := Nat.le_trans ((Ext.refl w)).size hg_
 have S1 : SlI #[] 0 0 .i64 [] := SlI.nil
 refine wv (.slice (some ⟨g1, 0, none⟩) 0 0) ?_
 refine wpList_nil (then_normal ?_)
 refine wp_seq ?_
 refine wsr ?_
 refine wv (.int .i64 0) ?_
 refine wpList_nil (then_normal ?_)
 refine wp_block ?_
 replace hb := hb.ext E1
 have H1 := (Ext.refl w).trans E1
 refine wp_loop_k (fun m1 a wl1 => ∃ (i : Nat) (go : Nat) (no : Nat) (capo : Nat) (cso : Array Value), m1 = 100 - i ∧ i ≤ 100 ∧ SlI cso no capo .i64 (listN x y i) ∧ w.heap.size ≤ go ∧ b ≠ go ∧ Ext w wl1 ∧ Blk wl1 b t #[.int .u64 x, .int .u64 y] ∧ Blk wl1 go 2 cso ∧ (∃ J1 : Nat → Value, a = ⟨#[.pointer (some ⟨b, 0, none⟩), undef, .slice none 0 0, .slice (some ⟨go, 0, none⟩) no capo, .int .i64 (i : Int), .slice (some ⟨g1, 0, none⟩) 0 0, J1 6, J1 7, J1 8, J1 9, J1 10, J1 11, J1 12, J1 13, J1 14, J1 15, J1 16, undef], []⟩)) (100) ?_ ?_
 · refine ⟨0, g1, 0, 0, #[], rfl, ?_, ?_, ?_, ?_, H1, hb, B1, exJ (by kernel_rfl)⟩
   · omega
   · refine S1.of_eq ?_
     exact (listN_0 x y).symm
   · exact lo_g1
   · exact q_b_g1
 intro m1 a wl1 hI
 obtain ⟨i, go, no, capo, cso, rfl, hi_, So, lo_go, n_b_go, HL1, hb, Bo, J1, rfl⟩ := hI
 have cl_ := listN_length x y i
 have len_So := So.len
 refine wp_seq ?_
 refine wsr ?_
 refine wv (.int .i64 (i : Int)) ?_
 refine wv (.bool (decide ((i : Int) < 100))) ?_
 refine wpList_nil (then_normal ?_)
 refine wsplit (decide ((i : Int) < 100)) (fun h1 => ?_) (fun h1 => ?_)
 · skip
   have h1d := dT h1
   refine wp_skip ?_
   refine then_normal ?_
   refine wp_seq ?_
   refine wp_block ?_
   refine wsr ?_
   refine wv (.pointer (some ⟨b, 0, none⟩)) ?_
   refine wv (.int .i64 (i : Int)) ?_
   refine wcl (l01Has_any x y b _ (i : Int) _ hb) ?_
   intro w2 E2
   refine wpList_nil (then_normal ?_)
   have H2 := HL1.trans E2
   refine wsplit (hasB x y (i : Int)) (fun h2 => ?_) (fun h2 => ?_)
   · skip
     refine wp_region_lit ?_
     refine wv (.slice (some ⟨go, 0, none⟩) no capo) ?_
     refine wv (.int .i64 (i : Int)) ?_
     replace hb := hb.ext E2
     replace Bo := Bo.ext E2
     refine wbsl 1 #[.int .i64 (i : Int)] slt__int64 ?_
     intro g2 w3 B2 E3 hg_
     have q_b_g2 := Nat.ne_of_lt (Nat.lt_of_lt_of_le hb.lt hg_)
     have q_go_g2 := Nat.ne_of_lt (Nat.lt_of_lt_of_le Bo.lt hg_)
     have lo_g2 := Nat.le_trans (H2).size hg_
     replace hb := hb.ext E3
     replace Bo := Bo.ext E3
     have H3 := H2.trans E3
     refine wappi (i : Int) slt__int64 Bo So B2 ?_
     intro g3 cap1 cs1 w4 B3 S2 X1 or1
     have n_b_g3 := ne_app hb n_b_go or1
     have n_g2_g3 := ne_app B2 (Ne.symm q_go_g2) or1
     have lo_g3 := Wr.lo or1 lo_go (H3).size
     refine wv (.slice (some ⟨g3, 0, none⟩) (no + 1) cap1) ?_
     refine wpList_nil (block_normal (then_normal ?_))
     refine wp_region_lit ?_
     refine wv (.int .i64 (i : Int)) ?_
     refine wi64 ((i : Int) + 1) ?_
     refine wv (.int .i64 ((i : Int) + 1)) ?_
     refine wpList_nil (then_normal ?_)
     replace hb := X1.blk hb n_b_go
     have H4 := X1.ext w lo_go H3
     refine ⟨_, ?_, i + 1, g3, no + 1, cap1, cs1, rfl, ?_, ?_, ?_, ?_, H4, hb, B3, exJ (by kernel_rfl)⟩
     · omega
     · omega
     · refine S2.of_eq ?_
       first | exact (listN_1 (by assumption)).symm | exact (listN_2 (by assumption)).symm
     · exact lo_g3
     · exact n_b_g3
   · skip
     refine wp_skip ?_
     refine block_normal (then_normal ?_)
     refine wp_region_lit ?_
     refine wv (.int .i64 (i : Int)) ?_
     refine wi64 ((i : Int) + 1) ?_
     refine wv (.int .i64 ((i : Int) + 1)) ?_
     refine wpList_nil (then_normal ?_)
     replace hb := hb.ext E2
     replace Bo := Bo.ext E2
     refine ⟨_, ?_, i + 1, go, no, capo, cso, rfl, ?_, ?_, ?_, ?_, H2, hb, Bo, exJ (by kernel_rfl)⟩
     · omega
     · omega
     · refine So.of_eq ?_
       first | exact (listN_1 (by assumption)).symm | exact (listN_2 (by assumption)).symm
     · exact lo_go
     · exact n_b_go
 · skip
   have h1d := dF h1
   refine wp_exit ?_
   refine then_exit ?_
   refine then_exit ?_
   refine block_exit ?_
   refine then_normal ?_
   refine wsr ?_
   refine wv (.slice (some ⟨go, 0, none⟩) no capo) ?_
   refine wv (.slice (some ⟨go, 0, none⟩) no capo) ?_
   refine wpList_nil (then_normal ?_)
   refine wp_ret ?_
   refine ret1 (.slice (some ⟨go, 0, none⟩) no capo) rfl ?_ rfl ?_
   · exact resT (by kernel_rfl)
   have hq : listN x y i = listL x y := by
     exact listN_end (by omega) (by omega)
   exact ⟨go, no, capo, cso, rfl, Bo, So.of_eq hq, HL1, lo_go⟩


--# iListOf_any
theorem iListOf_any (x y : Int) (w : World) :
 Calls Try.prog 14 #[.agg #[.int .u64 x, .int .u64 y]] w fun e w' => RetI w 2 .i64 (listL x y) id e w' := by
 refine calls_of_wp Try.func14 rfl ?_
 refine wp_frame (a' := ⟨#[.agg #[.int .u64 x, .int .u64 y], undef, undef, undef, undef, undef, undef, undef, undef, undef, undef, undef, undef, undef, undef, undef, undef, undef], []⟩) (by kernel_rfl) ?_
 refine wsr ?_
 refine wbox #[.int .u64 x, .int .u64 y] ?_
 intro g1 w1 B1 E1 hg_
 have lo_g1 := Nat.le_trans ((Ext.refl w)).size hg_
 refine wv (.slice none 0 0) ?_
 refine wpList_nil (then_normal ?_)
 refine wsr ?_
 have H1 := (Ext.refl w).trans E1
 refine wbsl 0 #[] slt__int64 ?_
 intro g2 w2 B2 E2 hg_
 have q_g1_g2 := Nat.ne_of_lt (Nat.lt_of_lt_of_le B1.lt hg_)
 have lo_g2 := Nat.le_trans (H1).size hg_
 have S1 : SlI #[] 0 0 .i64 [] := SlI.nil
 refine wv (.slice (some ⟨g2, 0, none⟩) 0 0) ?_
 refine wpList_nil (then_normal ?_)
 refine wp_seq ?_
 refine wsr ?_
 refine wv (.int .i64 0) ?_
 refine wpList_nil (then_normal ?_)
 refine wp_block ?_
 replace B1 := B1.ext E2
 have H2 := H1.trans E2
 refine wp_loop_k (fun m1 a wl1 => ∃ (i : Nat) (go : Nat) (no : Nat) (capo : Nat) (cso : Array Value), m1 = 100 - i ∧ i ≤ 100 ∧ SlI cso no capo .i64 (listN x y i) ∧ w.heap.size ≤ go ∧ g1 ≠ go ∧ Ext w wl1 ∧ Blk wl1 g1 33 #[.int .u64 x, .int .u64 y] ∧ Blk wl1 go 2 cso ∧ (∃ J1 : Nat → Value, a = ⟨#[.agg #[.int .u64 x, .int .u64 y], .pointer (some ⟨g1, 0, none⟩), .slice none 0 0, .slice (some ⟨go, 0, none⟩) no capo, J1 4, .slice (some ⟨g2, 0, none⟩) 0 0, .int .i64 (i : Int), J1 7, J1 8, J1 9, J1 10, J1 11, J1 12, J1 13, J1 14, J1 15, J1 16, undef], []⟩)) (100) ?_ ?_
 · refine ⟨0, g2, 0, 0, #[], rfl, ?_, ?_, ?_, ?_, H2, B1, B2, exJ (by kernel_rfl)⟩
   · omega
   · refine S1.of_eq ?_
     exact (listN_0 x y).symm
   · exact lo_g2
   · exact q_g1_g2
 intro m1 a wl1 hI
 obtain ⟨i, go, no, capo, cso, rfl, hi_, So, lo_go, n_g1_go, HL1, B1, Bo, J1, rfl⟩ := hI
 have cl_ := listN_length x y i
 have len_So := So.len
 refine wsr ?_
 refine wv (.bool (decide ((i : Int) < 100))) ?_
 refine wpList_nil (then_normal ?_)
 refine wp_seq ?_
 refine wsplit (decide ((i : Int) < 100)) (fun h1 => ?_) (fun h1 => ?_)
 · skip
   have h1d := dT h1
   refine wp_skip ?_
   refine then_normal ?_
   refine wp_seq ?_
   refine wp_block ?_
   refine wsr ?_
   refine wv (.int .i64 (i : Int)) ?_
   refine wv (.int .i64 (i : Int)) ?_
   refine wpList_nil (then_normal ?_)
   refine wsr ?_
   refine wrow row_impl_Cells B1 (by rfl) ?_
   refine wv (.int .i64 (i : Int)) ?_
   refine wcl (iHasCell_any x y (i : Int) _) ?_
   intro w3 E3
   refine wpList_nil (then_normal ?_)
   have H3 := HL1.trans E3
   refine wsplit (hasB x y (i : Int)) (fun h2 => ?_) (fun h2 => ?_)
   · skip
     refine wp_region_lit ?_
     refine wv (.slice (some ⟨go, 0, none⟩) no capo) ?_
     refine wv (.int .i64 (i : Int)) ?_
     replace B1 := B1.ext E3
     replace Bo := Bo.ext E3
     refine wbsl 1 #[.int .i64 (i : Int)] slt__int64 ?_
     intro g3 w4 B3 E4 hg_
     have q_g1_g3 := Nat.ne_of_lt (Nat.lt_of_lt_of_le B1.lt hg_)
     have q_go_g3 := Nat.ne_of_lt (Nat.lt_of_lt_of_le Bo.lt hg_)
     have lo_g3 := Nat.le_trans (H3).size hg_
     replace B1 := B1.ext E4
     replace Bo := Bo.ext E4
     have H4 := H3.trans E4
     refine wappi (i : Int) slt__int64 Bo So B3 ?_
     intro g4 cap1 cs1 w5 B4 S2 X1 or1
     have n_g1_g4 := ne_app B1 n_g1_go or1
     have n_g3_g4 := ne_app B3 (Ne.symm q_go_g3) or1
     have lo_g4 := Wr.lo or1 lo_go (H4).size
     refine wv (.slice (some ⟨g4, 0, none⟩) (no + 1) cap1) ?_
     refine wpList_nil (block_normal (then_normal ?_))
     refine wp_region_lit ?_
     refine wi64 ((i : Int) + 1) ?_
     refine wv (.int .i64 ((i : Int) + 1)) ?_
     refine wpList_nil (then_normal ?_)
     replace B1 := X1.blk B1 n_g1_go
     have H5 := X1.ext w lo_go H4
     refine ⟨_, ?_, i + 1, g4, no + 1, cap1, cs1, rfl, ?_, ?_, ?_, ?_, H5, B1, B4, exJ (by kernel_rfl)⟩
     · omega
     · omega
     · refine S2.of_eq ?_
       first | exact (listN_1 (by assumption)).symm | exact (listN_2 (by assumption)).symm
     · exact lo_g4
     · exact n_g1_g4
   · skip
     refine wp_skip ?_
     refine block_normal (then_normal ?_)
     refine wp_region_lit ?_
     refine wi64 ((i : Int) + 1) ?_
     refine wv (.int .i64 ((i : Int) + 1)) ?_
     refine wpList_nil (then_normal ?_)
     replace B1 := B1.ext E3
     replace Bo := Bo.ext E3
     refine ⟨_, ?_, i + 1, go, no, capo, cso, rfl, ?_, ?_, ?_, ?_, H3, B1, Bo, exJ (by kernel_rfl)⟩
     · omega
     · omega
     · refine So.of_eq ?_
       first | exact (listN_1 (by assumption)).symm | exact (listN_2 (by assumption)).symm
     · exact lo_go
     · exact n_g1_go
 · skip
   have h1d := dF h1
   refine wp_exit ?_
   refine then_exit ?_
   refine then_exit ?_
   refine block_exit ?_
   refine then_normal ?_
   refine wsr ?_
   refine wv (.slice (some ⟨go, 0, none⟩) no capo) ?_
   refine wv (.slice (some ⟨go, 0, none⟩) no capo) ?_
   refine wpList_nil (then_normal ?_)
   refine wp_ret ?_
   refine ret1 (.slice (some ⟨go, 0, none⟩) no capo) rfl ?_ rfl ?_
   · exact resT (by kernel_rfl)
   have hq : listN x y i = listL x y := by
     exact listN_end (by omega) (by omega)
   exact ⟨go, no, capo, cso, rfl, Bo, So.of_eq hq, HL1, lo_go⟩


