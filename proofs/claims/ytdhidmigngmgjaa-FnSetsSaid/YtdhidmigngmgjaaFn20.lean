/-
  Contracts: choices drawn from bytes. No conditions.
-/
import Derived.Test.YtdhidmigngmgjaaTy
import Derived.Test.YtdhidmigngmgjaaSl
import Derived.Test.YtdhidmigngmgjaaMth
import Derived.Test.YtdhidmigngmgjaaSl2
import Derived.Test.YtdhidmigngmgjaaSc
namespace Go.Proofs.Ytdhidmigngmgjaa
open Go.RowKit
set_option linter.unusedSimpArgs false
set_option linter.unusedVariables false
set_option maxHeartbeats 4000000
set_option maxRecDepth 100000
attribute [local irreducible] wpList Code.wp
--# srct
-- 68
theorem scalp_spec_l00Src : ScalT Try.prog 57 := ⟨_, Try.underlying57, rfl, by kernel_rfl⟩

--# next_some
theorem next_some (xs : List Int) (ad : Addr) (cap : Nat) (hx : xs.length ≤ 4096) (b : Nat) (t : TypeId) (j : Nat) (sd : Int) (hj : j ≤ 100000) (hxb : ∀ i, i < xs.length → 0 ≤ atI xs i ∧ atI xs i ≤ 255) (w : World) (hb : Blk w b t #[.slice (some ad) xs.length cap, .int .i64 (j : Int), .int .u64 sd]) (hA : SlA w ad .u8 xs) :
 Calls Try.prog 68 #[.pointer (some ⟨b, 0, none⟩)] w fun e w' => e = .returned (.int .i64 (srV xs j sd)) ∧ Blk w' b t #[.slice (some ad) xs.length cap, .int .i64 ((j + 1 : Nat) : Int), .int .u64 (srN xs j sd)] ∧ Wr b w w' := by
 have na0_ := raw40 (IntKind.u64.wrap (IntKind.u64.wrap (sd * 6364136223846793005) + atI xs j) + 1442695040888963407)
 have nu0_ := u64w (IntKind.u64.wrap (IntKind.u64.wrap (sd * 6364136223846793005) + atI xs j) + 1442695040888963407)
 have na1_ := raw40 (IntKind.u64.wrap (IntKind.u64.wrap (sd * 6364136223846793005) + 0) + 1442695040888963407)
 have nu1_ := u64w (IntKind.u64.wrap (IntKind.u64.wrap (sd * 6364136223846793005) + 0) + 1442695040888963407)
 have xb_ := hxb j
 refine calls_of_wp Try.func68 rfl ?_
 refine wp_frame (a' := ⟨#[.pointer (some ⟨b, 0, none⟩), undef, undef, undef, undef, undef, undef, undef, undef, undef, undef, undef, undef, undef, undef, undef, undef, undef, undef, undef, undef, undef, undef, undef, undef, undef, undef, undef, undef, undef, undef, undef, undef, undef, undef, undef, undef, undef, undef, undef, undef, undef, undef, undef, undef, undef, undef, undef, undef, undef, undef, undef, undef, undef, undef, undef, undef, undef, undef, undef, undef, undef], []⟩) (by kernel_rfl) ?_
 refine wsr ?_
 refine wv (.int .i64 0) ?_
 refine wpList_nil (then_normal ?_)
 refine wsr ?_
 refine wv (.int .i64 0) ?_
 refine wpList_nil (then_normal ?_)
 refine wp_seq ?_
 refine wp_seq ?_
 refine wp_frame (a' := ⟨#[.pointer (some ⟨b, 0, none⟩), undef, .int .i64 0, .int .i64 0, undef, undef, undef, undef, undef, undef, undef, undef, undef, undef, undef, undef, undef, undef, undef, undef, undef, undef, undef, undef, undef, undef, undef, undef, undef, undef, undef, undef, undef, undef, undef, undef, undef, undef, undef, undef, undef, undef, undef, undef, undef, undef, undef, undef, undef, undef, undef, undef, undef, undef, undef, undef, undef, undef, undef, undef, undef, undef], []⟩) (by kernel_rfl) ?_
 refine region_go 10 [4, 5, 6, 7, 8, 9, 10, 11, 12, 13] [[], [0], [1], [2], [], [4], [5], [6], [7], [3, 8]]
  (fun i_ => ([.val (.pointer (some ⟨b, 0, none⟩)), .val (.pointer (some ⟨b, 0, none⟩)), .val (.pointer (some ⟨b, 1, none⟩)), .val (.int .i64 (j : Int)), .val (.pointer (some ⟨b, 0, none⟩)), .val (.pointer (some ⟨b, 0, none⟩)), .val (.pointer (some ⟨b, 0, none⟩)), .val (.slice (some ad) xs.length cap), .val (.int .i64 (xs.length : Int)), .val (.bool (decide ((j : Int) < (xs.length : Int))))] : List Fct).getD i_ .any)
  (by kernel_rfl) (by kernel_rfl) (by decide) (by simp) rfl (all_succ (all_succ (all_succ (all_succ (all_succ (all_succ (all_succ (all_succ (all_succ (all_succ all_zero ?_) ?_) ?_) ?_) ?_) ?_) ?_) ?_) ?_) ?_) ?_
 · refine step0 rfl rfl rfl (fun wr hw => ?_)
   exact OpRun.val (.pointer (some ⟨b, 0, none⟩)) (.pointer (some ⟨b, 0, none⟩)) (by kernel_rfl) rfl ⟨Ext.refl _, rfl⟩
 · refine step1 rfl rfl rfl rfl (fun u0 wr hw h0 => ?_)
   cases h0
   exact OpRun.val (.pointer (some ⟨b, 0, none⟩)) (.pointer (some ⟨b, 0, none⟩)) (by kernel_rfl) rfl ⟨Ext.refl _, rfl⟩
 · refine step1 rfl rfl rfl rfl (fun u0 wr hw h0 => ?_)
   cases h0
   exact OpRun.val (.pointer (some ⟨b, 1, none⟩)) (.pointer (some ⟨b, 1, none⟩)) (by kernel_rfl) rfl ⟨Ext.refl _, rfl⟩
 · refine step1 rfl rfl rfl rfl (fun u0 wr hw h0 => ?_)
   cases h0
   exact OpRun.cell (g := b) (off := 1) (v := .int .i64 (j : Int)) scal_int rfl (by kernel_rfl) ((hb.ext hw).get (rfl)) ⟨Ext.refl _, rfl⟩
 · refine step0 rfl rfl rfl (fun wr hw => ?_)
   exact OpRun.val (.pointer (some ⟨b, 0, none⟩)) (.pointer (some ⟨b, 0, none⟩)) (by kernel_rfl) rfl ⟨Ext.refl _, rfl⟩
 · refine step1 rfl rfl rfl rfl (fun u0 wr hw h0 => ?_)
   cases h0
   exact OpRun.val (.pointer (some ⟨b, 0, none⟩)) (.pointer (some ⟨b, 0, none⟩)) (by kernel_rfl) rfl ⟨Ext.refl _, rfl⟩
 · refine step1 rfl rfl rfl rfl (fun u0 wr hw h0 => ?_)
   cases h0
   exact OpRun.val (.pointer (some ⟨b, 0, none⟩)) (.pointer (some ⟨b, 0, none⟩)) (by kernel_rfl) rfl ⟨Ext.refl _, rfl⟩
 · refine step1 rfl rfl rfl rfl (fun u0 wr hw h0 => ?_)
   cases h0
   exact OpRun.cell (g := b) (off := 0) (v := .slice (some ad) xs.length cap) scal__uint8 rfl (by kernel_rfl) ((hb.ext hw).get (rfl)) ⟨Ext.refl _, rfl⟩
 · refine step1 rfl rfl rfl rfl (fun u0 wr hw h0 => ?_)
   cases h0
   exact OpRun.val (.int .i64 (xs.length : Int)) (.int .i64 (xs.length : Int)) (by kernel_rfl) rfl ⟨Ext.refl _, rfl⟩
 · refine step2 rfl rfl rfl rfl rfl (fun u0 u1 wr hw h0 h1 => ?_)
   cases h0
   cases h1
   exact OpRun.val (.bool (decide ((j : Int) < (xs.length : Int)))) (.bool (decide ((j : Int) < (xs.length : Int)))) (by kernel_rfl) rfl ⟨Ext.refl _, rfl⟩
 refine end10 (fun u0 u1 u2 u3 u4 u5 u6 u7 u8 u9 w1 E1 f0 f1 f2 f3 f4 f5 f6 f7 f8 f9 => ?_)
 cases f0
 cases f1
 cases f2
 cases f3
 cases f4
 cases f5
 cases f6
 cases f7
 cases f8
 cases f9
 refine wpList_nil (then_normal ?_)
 have H1 := (Wr.of_ext (b := b) (Ext.refl w)).trans (Wr.of_ext E1)
 refine wsplit (decide ((j : Int) < (xs.length : Int))) (fun h1 => ?_) (fun h1 => ?_)
 · skip
   have h1d := dT h1
   refine wp_frame (a' := ⟨#[.pointer (some ⟨b, 0, none⟩), undef, .int .i64 0, .int .i64 0, .pointer (some ⟨b, 0, none⟩), .pointer (some ⟨b, 0, none⟩), .pointer (some ⟨b, 1, none⟩), .int .i64 (j : Int), .pointer (some ⟨b, 0, none⟩), .pointer (some ⟨b, 0, none⟩), .pointer (some ⟨b, 0, none⟩), .slice (some ad) xs.length cap, .int .i64 (xs.length : Int), .bool (decide ((j : Int) < (xs.length : Int))), undef, undef, undef, undef, undef, undef, undef, undef, undef, undef, undef, undef, undef, undef, undef, undef, undef, undef, undef, undef, undef, undef, undef, undef, undef, undef, undef, undef, undef, undef, undef, undef, undef, undef, undef, undef, undef, undef, undef, undef, undef, undef, undef, undef, undef, undef, undef, undef], []⟩) (by kernel_rfl) ?_
   replace hb := hb.ext E1
   refine region_go 12 [14, 15, 16, 17, 18, 19, 20, 21, 22, 23, 24, 3] [[], [0], [1], [2], [], [4], [5], [6], [3, 7], [8], [9], [10]]
    (fun i_ => ([.val (.pointer (some ⟨b, 0, none⟩)), .val (.pointer (some ⟨b, 0, none⟩)), .val (.pointer (some ⟨b, 0, none⟩)), .val (.slice (some ad) xs.length cap), .val (.pointer (some ⟨b, 0, none⟩)), .val (.pointer (some ⟨b, 0, none⟩)), .val (.pointer (some ⟨b, 1, none⟩)), .val (.int .i64 (j : Int)), .val (.pointer (some (ad.add (j * 1)))), .val (.int .u8 (atI xs j)), .val (.int .i64 (atI xs j)), .val (.int .i64 (atI xs j))] : List Fct).getD i_ .any)
    (by kernel_rfl) (by kernel_rfl) (by decide) (by simp) rfl (all_succ (all_succ (all_succ (all_succ (all_succ (all_succ (all_succ (all_succ (all_succ (all_succ (all_succ (all_succ all_zero ?_) ?_) ?_) ?_) ?_) ?_) ?_) ?_) ?_) ?_) ?_) ?_) ?_
   · refine step0 rfl rfl rfl (fun wr hw => ?_)
     exact OpRun.val (.pointer (some ⟨b, 0, none⟩)) (.pointer (some ⟨b, 0, none⟩)) (by kernel_rfl) rfl ⟨Ext.refl _, rfl⟩
   · refine step1 rfl rfl rfl rfl (fun u0 wr hw h0 => ?_)
     cases h0
     exact OpRun.val (.pointer (some ⟨b, 0, none⟩)) (.pointer (some ⟨b, 0, none⟩)) (by kernel_rfl) rfl ⟨Ext.refl _, rfl⟩
   · refine step1 rfl rfl rfl rfl (fun u0 wr hw h0 => ?_)
     cases h0
     exact OpRun.val (.pointer (some ⟨b, 0, none⟩)) (.pointer (some ⟨b, 0, none⟩)) (by kernel_rfl) rfl ⟨Ext.refl _, rfl⟩
   · refine step1 rfl rfl rfl rfl (fun u0 wr hw h0 => ?_)
     cases h0
     exact OpRun.cell (g := b) (off := 0) (v := .slice (some ad) xs.length cap) scal__uint8 rfl (by kernel_rfl) ((hb.ext hw).get (rfl)) ⟨Ext.refl _, rfl⟩
   · refine step0 rfl rfl rfl (fun wr hw => ?_)
     exact OpRun.val (.pointer (some ⟨b, 0, none⟩)) (.pointer (some ⟨b, 0, none⟩)) (by kernel_rfl) rfl ⟨Ext.refl _, rfl⟩
   · refine step1 rfl rfl rfl rfl (fun u0 wr hw h0 => ?_)
     cases h0
     exact OpRun.val (.pointer (some ⟨b, 0, none⟩)) (.pointer (some ⟨b, 0, none⟩)) (by kernel_rfl) rfl ⟨Ext.refl _, rfl⟩
   · refine step1 rfl rfl rfl rfl (fun u0 wr hw h0 => ?_)
     cases h0
     exact OpRun.val (.pointer (some ⟨b, 1, none⟩)) (.pointer (some ⟨b, 1, none⟩)) (by kernel_rfl) rfl ⟨Ext.refl _, rfl⟩
   · refine step1 rfl rfl rfl rfl (fun u0 wr hw h0 => ?_)
     cases h0
     exact OpRun.cell (g := b) (off := 1) (v := .int .i64 (j : Int)) scal_int rfl (by kernel_rfl) ((hb.ext hw).get (rfl)) ⟨Ext.refl _, rfl⟩
   · refine step2 rfl rfl rfl rfl rfl (fun u0 u1 wr hw h0 h1 => ?_)
     cases h0
     cases h1
     exact OpRun.sixA (ad := ad) (n := xs.length) (cap := cap) (i := j) (k := .i64) slit__uint8 rfl (by kernel_rfl) (by kernel_rfl) (by omega) ⟨Ext.refl _, rfl⟩
   · refine step1 rfl rfl rfl rfl (fun u0 wr hw h0 => ?_)
     cases h0
     exact OpRun.cellA scal_uint8 rfl (by kernel_rfl) ((SlA.ext (SlA.ext hA ((Ext.refl w).trans E1)) hw).get (i := j) (by omega)) ⟨Ext.refl _, rfl⟩
   · refine step1 rfl rfl rfl rfl (fun u0 wr hw h0 => ?_)
     cases h0
     exact OpRun.val (.int .i64 (IntKind.i64.wrap (atI xs j))) (.int .i64 (atI xs j)) (by kernel_rfl) (by exact congrArg _ (IntWalk.i64_in _ (by omega))) ⟨Ext.refl _, rfl⟩
   · refine step1 rfl rfl rfl rfl (fun u0 wr hw h0 => ?_)
     cases h0
     exact OpRun.val (.int .i64 (atI xs j)) (.int .i64 (atI xs j)) (by kernel_rfl) rfl ⟨Ext.refl _, rfl⟩
   refine end12 (fun u0 u1 u2 u3 u4 u5 u6 u7 u8 u9 u10 u11 w2 E2 f0 f1 f2 f3 f4 f5 f6 f7 f8 f9 f10 f11 => ?_)
   cases f0
   cases f1
   cases f2
   cases f3
   cases f4
   cases f5
   cases f6
   cases f7
   cases f8
   cases f9
   cases f10
   cases f11
   refine wpList_nil (then_normal ?_)
   refine wsr ?_
   refine wv (.pointer (some ⟨b, 0, none⟩)) ?_
   refine wv (.pointer (some ⟨b, 0, none⟩)) ?_
   refine wv (.pointer (some ⟨b, 1, none⟩)) ?_
   replace hb := hb.ext E2
   refine wld (v := .int .i64 (j : Int)) b (1) scal_int (hb.get (rfl)) ?_
   refine wi64 ((j : Int) + 1) ?_
   refine wv (.pointer (some ⟨b, 0, none⟩)) ?_
   refine wv (.pointer (some ⟨b, 1, none⟩)) ?_
   refine wst b (1) (.int .i64 ((j : Int) + 1)) scal_int hb (rfl) (by simp) ?_
   intro w3 hb_ X1
   clear hb; have hb := hb_; clear hb_
   refine wpList_nil (then_normal ?_)
   refine wsr ?_
   refine wv (.pointer (some ⟨b, 0, none⟩)) ?_
   refine wv (.pointer (some ⟨b, 0, none⟩)) ?_
   refine wv (.pointer (some ⟨b, 0, none⟩)) ?_
   refine wv (.pointer (some ⟨b, 2, none⟩)) ?_
   refine wld (v := .int .u64 sd) b (2) scal_uint64 (hb.get (rfl)) ?_
   refine wv (.int .u64 (IntKind.u64.wrap (sd * 6364136223846793005))) ?_
   refine wv (.int .i64 (atI xs j)) ?_
   refine wu64 (atI xs j) ?_
   refine wv (.int .u64 (IntKind.u64.wrap ((IntKind.u64.wrap (sd * 6364136223846793005)) + (atI xs j)))) ?_
   refine wv (.int .u64 (IntKind.u64.wrap ((IntKind.u64.wrap ((IntKind.u64.wrap (sd * 6364136223846793005)) + (atI xs j))) + 1442695040888963407))) ?_
   refine wv (.pointer (some ⟨b, 0, none⟩)) ?_
   refine wv (.pointer (some ⟨b, 2, none⟩)) ?_
   refine wst b (2) (.int .u64 (IntKind.u64.wrap ((IntKind.u64.wrap ((IntKind.u64.wrap (sd * 6364136223846793005)) + (atI xs j))) + 1442695040888963407))) scal_uint64 hb (rfl) (by simp) ?_
   intro w4 hb_ X2
   clear hb; have hb := hb_; clear hb_
   refine wpList_nil (then_normal ?_)
   refine wp_frame (a' := ⟨#[.pointer (some ⟨b, 0, none⟩), undef, .int .i64 0, .int .i64 (atI xs j), .pointer (some ⟨b, 0, none⟩), .pointer (some ⟨b, 0, none⟩), .pointer (some ⟨b, 1, none⟩), .int .i64 (j : Int), .pointer (some ⟨b, 0, none⟩), .pointer (some ⟨b, 0, none⟩), .pointer (some ⟨b, 0, none⟩), .slice (some ad) xs.length cap, .int .i64 (xs.length : Int), .bool (decide ((j : Int) < (xs.length : Int))), .pointer (some ⟨b, 0, none⟩), .pointer (some ⟨b, 0, none⟩), .pointer (some ⟨b, 0, none⟩), .slice (some ad) xs.length cap, .pointer (some ⟨b, 0, none⟩), .pointer (some ⟨b, 0, none⟩), .pointer (some ⟨b, 1, none⟩), .int .i64 (j : Int), .pointer (some (ad.add (j * 1))), .int .u8 (atI xs j), .int .i64 (atI xs j), .pointer (some ⟨b, 0, none⟩), .pointer (some ⟨b, 0, none⟩), .pointer (some ⟨b, 1, none⟩), .int .i64 (j : Int), .int .i64 ((j : Int) + 1), .pointer (some ⟨b, 0, none⟩), .pointer (some ⟨b, 1, none⟩), .pointer (some ⟨b, 0, none⟩), .pointer (some ⟨b, 0, none⟩), .pointer (some ⟨b, 0, none⟩), .pointer (some ⟨b, 2, none⟩), .int .u64 sd, .int .u64 (IntKind.u64.wrap (sd * 6364136223846793005)), .int .i64 (atI xs j), .int .u64 (atI xs j), .int .u64 (IntKind.u64.wrap ((IntKind.u64.wrap (sd * 6364136223846793005)) + (atI xs j))), .int .u64 (IntKind.u64.wrap ((IntKind.u64.wrap ((IntKind.u64.wrap (sd * 6364136223846793005)) + (atI xs j))) + 1442695040888963407)), .pointer (some ⟨b, 0, none⟩), .pointer (some ⟨b, 2, none⟩), undef, undef, undef, undef, undef, undef, undef, undef, undef, undef, undef, undef, undef, undef, undef, undef, undef, undef], []⟩) (by kernel_rfl) ?_
   refine wp_seq ?_
   refine wp_seq ?_
   refine region_go 10 [44, 45, 46, 47, 48, 49, 50, 51, 52, 53] [[], [0], [1], [2], [], [4], [5], [6], [7], [3, 8]]
    (fun i_ => ([.val (.pointer (some ⟨b, 0, none⟩)), .val (.pointer (some ⟨b, 0, none⟩)), .val (.pointer (some ⟨b, 1, none⟩)), .val (.int .i64 ((j : Int) + 1)), .val (.pointer (some ⟨b, 0, none⟩)), .val (.pointer (some ⟨b, 0, none⟩)), .val (.pointer (some ⟨b, 0, none⟩)), .val (.slice (some ad) xs.length cap), .val (.int .i64 (xs.length : Int)), .val (.bool (decide (((j : Int) + 1) ≤ (xs.length : Int))))] : List Fct).getD i_ .any)
    (by kernel_rfl) (by kernel_rfl) (by decide) (by simp) rfl (all_succ (all_succ (all_succ (all_succ (all_succ (all_succ (all_succ (all_succ (all_succ (all_succ all_zero ?_) ?_) ?_) ?_) ?_) ?_) ?_) ?_) ?_) ?_) ?_
   · refine step0 rfl rfl rfl (fun wr hw => ?_)
     exact OpRun.val (.pointer (some ⟨b, 0, none⟩)) (.pointer (some ⟨b, 0, none⟩)) (by kernel_rfl) rfl ⟨Ext.refl _, rfl⟩
   · refine step1 rfl rfl rfl rfl (fun u0 wr hw h0 => ?_)
     cases h0
     exact OpRun.val (.pointer (some ⟨b, 0, none⟩)) (.pointer (some ⟨b, 0, none⟩)) (by kernel_rfl) rfl ⟨Ext.refl _, rfl⟩
   · refine step1 rfl rfl rfl rfl (fun u0 wr hw h0 => ?_)
     cases h0
     exact OpRun.val (.pointer (some ⟨b, 1, none⟩)) (.pointer (some ⟨b, 1, none⟩)) (by kernel_rfl) rfl ⟨Ext.refl _, rfl⟩
   · refine step1 rfl rfl rfl rfl (fun u0 wr hw h0 => ?_)
     cases h0
     exact OpRun.cell (g := b) (off := 1) (v := .int .i64 ((j : Int) + 1)) scal_int rfl (by kernel_rfl) ((hb.ext hw).get (rfl)) ⟨Ext.refl _, rfl⟩
   · refine step0 rfl rfl rfl (fun wr hw => ?_)
     exact OpRun.val (.pointer (some ⟨b, 0, none⟩)) (.pointer (some ⟨b, 0, none⟩)) (by kernel_rfl) rfl ⟨Ext.refl _, rfl⟩
   · refine step1 rfl rfl rfl rfl (fun u0 wr hw h0 => ?_)
     cases h0
     exact OpRun.val (.pointer (some ⟨b, 0, none⟩)) (.pointer (some ⟨b, 0, none⟩)) (by kernel_rfl) rfl ⟨Ext.refl _, rfl⟩
   · refine step1 rfl rfl rfl rfl (fun u0 wr hw h0 => ?_)
     cases h0
     exact OpRun.val (.pointer (some ⟨b, 0, none⟩)) (.pointer (some ⟨b, 0, none⟩)) (by kernel_rfl) rfl ⟨Ext.refl _, rfl⟩
   · refine step1 rfl rfl rfl rfl (fun u0 wr hw h0 => ?_)
     cases h0
     exact OpRun.cell (g := b) (off := 0) (v := .slice (some ad) xs.length cap) scal__uint8 rfl (by kernel_rfl) ((hb.ext hw).get (rfl)) ⟨Ext.refl _, rfl⟩
   · refine step1 rfl rfl rfl rfl (fun u0 wr hw h0 => ?_)
     cases h0
     exact OpRun.val (.int .i64 (xs.length : Int)) (.int .i64 (xs.length : Int)) (by kernel_rfl) rfl ⟨Ext.refl _, rfl⟩
   · refine step2 rfl rfl rfl rfl rfl (fun u0 u1 wr hw h0 h1 => ?_)
     cases h0
     cases h1
     exact OpRun.val (.bool (decide (((j : Int) + 1) ≤ (xs.length : Int)))) (.bool (decide (((j : Int) + 1) ≤ (xs.length : Int)))) (by kernel_rfl) rfl ⟨Ext.refl _, rfl⟩
   refine end10 (fun u0 u1 u2 u3 u4 u5 u6 u7 u8 u9 w5 E3 f0 f1 f2 f3 f4 f5 f6 f7 f8 f9 => ?_)
   cases f0
   cases f1
   cases f2
   cases f3
   cases f4
   cases f5
   cases f6
   cases f7
   cases f8
   cases f9
   refine wpList_nil (then_normal ?_)
   have H2 := (((H1.trans (Wr.of_ext E2)).trans X1).trans X2).trans (Wr.of_ext E3)
   refine wsplit (decide (((j : Int) + 1) ≤ (xs.length : Int))) (fun h2 => ?_) (fun h2 => ?_)
   · skip
     have h2d := dT h2
     refine wsr ?_
     refine wv (.int .i64 (atI xs j)) ?_
     refine wv (.int .i64 (atI xs j)) ?_
     refine wpList_nil (then_normal ?_)
     refine wp_ret ?_
     refine then_ret ?_
     refine ret1 (.int .i64 (srV xs j sd)) rfl ?_ rfl ?_
     · refine (resT (v := .int .i64 (atI xs j)) (by kernel_rfl)).trans ?_
       refine congrArg (Value.int _) ?_
       first | (exfalso; omega) | (rw [srV_1 (by omega), srB_1 (by omega)]; done) | (rw [srV_1 (by omega), srB_2 (by omega)]; done) | (rw [srV_2 (by first | omega | (simp only [List.length_nil]; omega))]; unfold srN; (first | rw [srB_1 (by omega)] | rw [srB_2 (by simp only [List.length_nil]; omega)] | rw [srB_2 (by omega)]) <;> rfl)
     replace hb := hb.ext E3
     refine ⟨rfl, ?_, H2⟩
     have hq : (#[.slice (some ad) xs.length cap, .int .i64 ((j : Int) + 1), .int .u64 (IntKind.u64.wrap ((IntKind.u64.wrap ((IntKind.u64.wrap (sd * 6364136223846793005)) + (atI xs j))) + 1442695040888963407))] : Array Value) = #[.slice (some ad) xs.length cap, .int .i64 ((j + 1 : Nat) : Int), .int .u64 (srN xs j sd)] := by
       first | rfl | (exfalso; omega) | (unfold srN; (first | rw [srB_1 (by omega)] | rw [srB_2 (by simp only [List.length_nil]; omega)] | rw [srB_2 (by omega)]) <;> rfl)
     rw [← hq]
     exact hb
   · skip
     have h2d := dF h2
     refine wp_skip ?_
     refine then_normal ?_
     refine wsr ?_
     refine wv (.pointer (some ⟨b, 0, none⟩)) ?_
     refine wv (.pointer (some ⟨b, 0, none⟩)) ?_
     refine wv (.pointer (some ⟨b, 2, none⟩)) ?_
     replace hb := hb.ext E3
     refine wld (v := .int .u64 (IntKind.u64.wrap ((IntKind.u64.wrap ((IntKind.u64.wrap (sd * 6364136223846793005)) + (atI xs j))) + 1442695040888963407))) b (2) scal_uint64 (hb.get (rfl)) ?_
     refine wshr .u64 .u64 (IntKind.u64.wrap ((IntKind.u64.wrap ((IntKind.u64.wrap (sd * 6364136223846793005)) + (atI xs j))) + 1442695040888963407)) 40 ?_
     refine wv (.int .u64 (bits BinOp.and IntKind.u64 ((IntKind.u64.wrap ((IntKind.u64.wrap ((IntKind.u64.wrap (sd * 6364136223846793005)) + (atI xs j))) + 1442695040888963407)) / 2 ^ (40 : Int).toNat) 255)) ?_
     refine wi64 (bits BinOp.and IntKind.u64 ((IntKind.u64.wrap ((IntKind.u64.wrap ((IntKind.u64.wrap (sd * 6364136223846793005)) + (atI xs j))) + 1442695040888963407)) / 2 ^ (40 : Int).toNat) 255) ?_
     refine wv (.int .i64 (bits BinOp.and IntKind.u64 ((IntKind.u64.wrap ((IntKind.u64.wrap ((IntKind.u64.wrap (sd * 6364136223846793005)) + (atI xs j))) + 1442695040888963407)) / 2 ^ (40 : Int).toNat) 255)) ?_
     refine wpList_nil (then_normal ?_)
     refine wp_ret ?_
     refine ret1 (.int .i64 (srV xs j sd)) rfl ?_ rfl ?_
     · refine (resT (v := .int .i64 (bits BinOp.and IntKind.u64 ((IntKind.u64.wrap ((IntKind.u64.wrap ((IntKind.u64.wrap (sd * 6364136223846793005)) + (atI xs j))) + 1442695040888963407)) / 2 ^ (40 : Int).toNat) 255)) (by kernel_rfl)).trans ?_
       refine congrArg (Value.int _) ?_
       first | (exfalso; omega) | (rw [srV_1 (by omega), srB_1 (by omega)]; done) | (rw [srV_1 (by omega), srB_2 (by omega)]; done) | (rw [srV_2 (by first | omega | (simp only [List.length_nil]; omega))]; unfold srN; (first | rw [srB_1 (by omega)] | rw [srB_2 (by simp only [List.length_nil]; omega)] | rw [srB_2 (by omega)]) <;> rfl)
     refine ⟨rfl, ?_, H2⟩
     have hq : (#[.slice (some ad) xs.length cap, .int .i64 ((j : Int) + 1), .int .u64 (IntKind.u64.wrap ((IntKind.u64.wrap ((IntKind.u64.wrap (sd * 6364136223846793005)) + (atI xs j))) + 1442695040888963407))] : Array Value) = #[.slice (some ad) xs.length cap, .int .i64 ((j + 1 : Nat) : Int), .int .u64 (srN xs j sd)] := by
       first | rfl | (exfalso; omega) | (unfold srN; (first | rw [srB_1 (by omega)] | rw [srB_2 (by simp only [List.length_nil]; omega)] | rw [srB_2 (by omega)]) <;> rfl)
     rw [← hq]
     exact hb
 · skip
   have h1d := dF h1
   refine wp_skip ?_
   refine then_normal ?_
   refine wsr ?_
   refine wv (.pointer (some ⟨b, 0, none⟩)) ?_
   refine wv (.pointer (some ⟨b, 0, none⟩)) ?_
   refine wv (.pointer (some ⟨b, 1, none⟩)) ?_
   replace hb := hb.ext E1
   refine wld (v := .int .i64 (j : Int)) b (1) scal_int (hb.get (rfl)) ?_
   refine wi64 ((j : Int) + 1) ?_
   refine wv (.pointer (some ⟨b, 0, none⟩)) ?_
   refine wv (.pointer (some ⟨b, 1, none⟩)) ?_
   refine wst b (1) (.int .i64 ((j : Int) + 1)) scal_int hb (rfl) (by simp) ?_
   intro w6 hb_ X3
   clear hb; have hb := hb_; clear hb_
   refine wpList_nil (then_normal ?_)
   refine wsr ?_
   refine wv (.pointer (some ⟨b, 0, none⟩)) ?_
   refine wv (.pointer (some ⟨b, 0, none⟩)) ?_
   refine wv (.pointer (some ⟨b, 0, none⟩)) ?_
   refine wv (.pointer (some ⟨b, 2, none⟩)) ?_
   refine wld (v := .int .u64 sd) b (2) scal_uint64 (hb.get (rfl)) ?_
   refine wv (.int .u64 (IntKind.u64.wrap (sd * 6364136223846793005))) ?_
   refine wv (.int .i64 0) ?_
   refine wu64 0 ?_
   refine wv (.int .u64 (IntKind.u64.wrap ((IntKind.u64.wrap (sd * 6364136223846793005)) + 0))) ?_
   refine wv (.int .u64 (IntKind.u64.wrap ((IntKind.u64.wrap ((IntKind.u64.wrap (sd * 6364136223846793005)) + 0)) + 1442695040888963407))) ?_
   refine wv (.pointer (some ⟨b, 0, none⟩)) ?_
   refine wv (.pointer (some ⟨b, 2, none⟩)) ?_
   refine wst b (2) (.int .u64 (IntKind.u64.wrap ((IntKind.u64.wrap ((IntKind.u64.wrap (sd * 6364136223846793005)) + 0)) + 1442695040888963407))) scal_uint64 hb (rfl) (by simp) ?_
   intro w7 hb_ X4
   clear hb; have hb := hb_; clear hb_
   refine wpList_nil (then_normal ?_)
   refine wp_frame (a' := ⟨#[.pointer (some ⟨b, 0, none⟩), undef, .int .i64 0, .int .i64 0, .pointer (some ⟨b, 0, none⟩), .pointer (some ⟨b, 0, none⟩), .pointer (some ⟨b, 1, none⟩), .int .i64 (j : Int), .pointer (some ⟨b, 0, none⟩), .pointer (some ⟨b, 0, none⟩), .pointer (some ⟨b, 0, none⟩), .slice (some ad) xs.length cap, .int .i64 (xs.length : Int), .bool (decide ((j : Int) < (xs.length : Int))), undef, undef, undef, undef, undef, undef, undef, undef, undef, undef, undef, .pointer (some ⟨b, 0, none⟩), .pointer (some ⟨b, 0, none⟩), .pointer (some ⟨b, 1, none⟩), .int .i64 (j : Int), .int .i64 ((j : Int) + 1), .pointer (some ⟨b, 0, none⟩), .pointer (some ⟨b, 1, none⟩), .pointer (some ⟨b, 0, none⟩), .pointer (some ⟨b, 0, none⟩), .pointer (some ⟨b, 0, none⟩), .pointer (some ⟨b, 2, none⟩), .int .u64 sd, .int .u64 (IntKind.u64.wrap (sd * 6364136223846793005)), .int .i64 0, .int .u64 0, .int .u64 (IntKind.u64.wrap ((IntKind.u64.wrap (sd * 6364136223846793005)) + 0)), .int .u64 (IntKind.u64.wrap ((IntKind.u64.wrap ((IntKind.u64.wrap (sd * 6364136223846793005)) + 0)) + 1442695040888963407)), .pointer (some ⟨b, 0, none⟩), .pointer (some ⟨b, 2, none⟩), undef, undef, undef, undef, undef, undef, undef, undef, undef, undef, undef, undef, undef, undef, undef, undef, undef, undef], []⟩) (by kernel_rfl) ?_
   refine wp_seq ?_
   refine wp_seq ?_
   refine region_go 10 [44, 45, 46, 47, 48, 49, 50, 51, 52, 53] [[], [0], [1], [2], [], [4], [5], [6], [7], [3, 8]]
    (fun i_ => ([.val (.pointer (some ⟨b, 0, none⟩)), .val (.pointer (some ⟨b, 0, none⟩)), .val (.pointer (some ⟨b, 1, none⟩)), .val (.int .i64 ((j : Int) + 1)), .val (.pointer (some ⟨b, 0, none⟩)), .val (.pointer (some ⟨b, 0, none⟩)), .val (.pointer (some ⟨b, 0, none⟩)), .val (.slice (some ad) xs.length cap), .val (.int .i64 (xs.length : Int)), .val (.bool (decide (((j : Int) + 1) ≤ (xs.length : Int))))] : List Fct).getD i_ .any)
    (by kernel_rfl) (by kernel_rfl) (by decide) (by simp) rfl (all_succ (all_succ (all_succ (all_succ (all_succ (all_succ (all_succ (all_succ (all_succ (all_succ all_zero ?_) ?_) ?_) ?_) ?_) ?_) ?_) ?_) ?_) ?_) ?_
   · refine step0 rfl rfl rfl (fun wr hw => ?_)
     exact OpRun.val (.pointer (some ⟨b, 0, none⟩)) (.pointer (some ⟨b, 0, none⟩)) (by kernel_rfl) rfl ⟨Ext.refl _, rfl⟩
   · refine step1 rfl rfl rfl rfl (fun u0 wr hw h0 => ?_)
     cases h0
     exact OpRun.val (.pointer (some ⟨b, 0, none⟩)) (.pointer (some ⟨b, 0, none⟩)) (by kernel_rfl) rfl ⟨Ext.refl _, rfl⟩
   · refine step1 rfl rfl rfl rfl (fun u0 wr hw h0 => ?_)
     cases h0
     exact OpRun.val (.pointer (some ⟨b, 1, none⟩)) (.pointer (some ⟨b, 1, none⟩)) (by kernel_rfl) rfl ⟨Ext.refl _, rfl⟩
   · refine step1 rfl rfl rfl rfl (fun u0 wr hw h0 => ?_)
     cases h0
     exact OpRun.cell (g := b) (off := 1) (v := .int .i64 ((j : Int) + 1)) scal_int rfl (by kernel_rfl) ((hb.ext hw).get (rfl)) ⟨Ext.refl _, rfl⟩
   · refine step0 rfl rfl rfl (fun wr hw => ?_)
     exact OpRun.val (.pointer (some ⟨b, 0, none⟩)) (.pointer (some ⟨b, 0, none⟩)) (by kernel_rfl) rfl ⟨Ext.refl _, rfl⟩
   · refine step1 rfl rfl rfl rfl (fun u0 wr hw h0 => ?_)
     cases h0
     exact OpRun.val (.pointer (some ⟨b, 0, none⟩)) (.pointer (some ⟨b, 0, none⟩)) (by kernel_rfl) rfl ⟨Ext.refl _, rfl⟩
   · refine step1 rfl rfl rfl rfl (fun u0 wr hw h0 => ?_)
     cases h0
     exact OpRun.val (.pointer (some ⟨b, 0, none⟩)) (.pointer (some ⟨b, 0, none⟩)) (by kernel_rfl) rfl ⟨Ext.refl _, rfl⟩
   · refine step1 rfl rfl rfl rfl (fun u0 wr hw h0 => ?_)
     cases h0
     exact OpRun.cell (g := b) (off := 0) (v := .slice (some ad) xs.length cap) scal__uint8 rfl (by kernel_rfl) ((hb.ext hw).get (rfl)) ⟨Ext.refl _, rfl⟩
   · refine step1 rfl rfl rfl rfl (fun u0 wr hw h0 => ?_)
     cases h0
     exact OpRun.val (.int .i64 (xs.length : Int)) (.int .i64 (xs.length : Int)) (by kernel_rfl) rfl ⟨Ext.refl _, rfl⟩
   · refine step2 rfl rfl rfl rfl rfl (fun u0 u1 wr hw h0 h1 => ?_)
     cases h0
     cases h1
     exact OpRun.val (.bool (decide (((j : Int) + 1) ≤ (xs.length : Int)))) (.bool (decide (((j : Int) + 1) ≤ (xs.length : Int)))) (by kernel_rfl) rfl ⟨Ext.refl _, rfl⟩
   refine end10 (fun u0 u1 u2 u3 u4 u5 u6 u7 u8 u9 w8 E4 f0 f1 f2 f3 f4 f5 f6 f7 f8 f9 => ?_)
   cases f0
   cases f1
   cases f2
   cases f3
   cases f4
   cases f5
   cases f6
   cases f7
   cases f8
   cases f9
   refine wpList_nil (then_normal ?_)
   have H3 := ((H1.trans X3).trans X4).trans (Wr.of_ext E4)
   refine wsplit (decide (((j : Int) + 1) ≤ (xs.length : Int))) (fun h3 => ?_) (fun h3 => ?_)
   · skip
     have h3d := dT h3
     refine wsr ?_
     refine wv (.int .i64 0) ?_
     refine wv (.int .i64 0) ?_
     refine wpList_nil (then_normal ?_)
     refine wp_ret ?_
     refine then_ret ?_
     refine ret1 (.int .i64 (srV xs j sd)) rfl ?_ rfl ?_
     · refine (resT (v := .int .i64 0) (by kernel_rfl)).trans ?_
       refine congrArg (Value.int _) ?_
       first | (exfalso; omega) | (rw [srV_1 (by omega), srB_1 (by omega)]; done) | (rw [srV_1 (by omega), srB_2 (by omega)]; done) | (rw [srV_2 (by first | omega | (simp only [List.length_nil]; omega))]; unfold srN; (first | rw [srB_1 (by omega)] | rw [srB_2 (by simp only [List.length_nil]; omega)] | rw [srB_2 (by omega)]) <;> rfl)
     replace hb := hb.ext E4
     refine ⟨rfl, ?_, H3⟩
     have hq : (#[.slice (some ad) xs.length cap, .int .i64 ((j : Int) + 1), .int .u64 (IntKind.u64.wrap ((IntKind.u64.wrap ((IntKind.u64.wrap (sd * 6364136223846793005)) + 0)) + 1442695040888963407))] : Array Value) = #[.slice (some ad) xs.length cap, .int .i64 ((j + 1 : Nat) : Int), .int .u64 (srN xs j sd)] := by
       first | rfl | (exfalso; omega) | (unfold srN; (first | rw [srB_1 (by omega)] | rw [srB_2 (by simp only [List.length_nil]; omega)] | rw [srB_2 (by omega)]) <;> rfl)
     rw [← hq]
     exact hb
   · skip
     have h3d := dF h3
     refine wp_skip ?_
     refine then_normal ?_
     refine wsr ?_
     refine wv (.pointer (some ⟨b, 0, none⟩)) ?_
     refine wv (.pointer (some ⟨b, 0, none⟩)) ?_
     refine wv (.pointer (some ⟨b, 2, none⟩)) ?_
     replace hb := hb.ext E4
     refine wld (v := .int .u64 (IntKind.u64.wrap ((IntKind.u64.wrap ((IntKind.u64.wrap (sd * 6364136223846793005)) + 0)) + 1442695040888963407))) b (2) scal_uint64 (hb.get (rfl)) ?_
     refine wshr .u64 .u64 (IntKind.u64.wrap ((IntKind.u64.wrap ((IntKind.u64.wrap (sd * 6364136223846793005)) + 0)) + 1442695040888963407)) 40 ?_
     refine wv (.int .u64 (bits BinOp.and IntKind.u64 ((IntKind.u64.wrap ((IntKind.u64.wrap ((IntKind.u64.wrap (sd * 6364136223846793005)) + 0)) + 1442695040888963407)) / 2 ^ (40 : Int).toNat) 255)) ?_
     refine wi64 (bits BinOp.and IntKind.u64 ((IntKind.u64.wrap ((IntKind.u64.wrap ((IntKind.u64.wrap (sd * 6364136223846793005)) + 0)) + 1442695040888963407)) / 2 ^ (40 : Int).toNat) 255) ?_
     refine wv (.int .i64 (bits BinOp.and IntKind.u64 ((IntKind.u64.wrap ((IntKind.u64.wrap ((IntKind.u64.wrap (sd * 6364136223846793005)) + 0)) + 1442695040888963407)) / 2 ^ (40 : Int).toNat) 255)) ?_
     refine wpList_nil (then_normal ?_)
     refine wp_ret ?_
     refine ret1 (.int .i64 (srV xs j sd)) rfl ?_ rfl ?_
     · refine (resT (v := .int .i64 (bits BinOp.and IntKind.u64 ((IntKind.u64.wrap ((IntKind.u64.wrap ((IntKind.u64.wrap (sd * 6364136223846793005)) + 0)) + 1442695040888963407)) / 2 ^ (40 : Int).toNat) 255)) (by kernel_rfl)).trans ?_
       refine congrArg (Value.int _) ?_
       first | (exfalso; omega) | (rw [srV_1 (by omega), srB_1 (by omega)]; done) | (rw [srV_1 (by omega), srB_2 (by omega)]; done) | (rw [srV_2 (by first | omega | (simp only [List.length_nil]; omega))]; unfold srN; (first | rw [srB_1 (by omega)] | rw [srB_2 (by simp only [List.length_nil]; omega)] | rw [srB_2 (by omega)]) <;> rfl)
     refine ⟨rfl, ?_, H3⟩
     have hq : (#[.slice (some ad) xs.length cap, .int .i64 ((j : Int) + 1), .int .u64 (IntKind.u64.wrap ((IntKind.u64.wrap ((IntKind.u64.wrap (sd * 6364136223846793005)) + 0)) + 1442695040888963407))] : Array Value) = #[.slice (some ad) xs.length cap, .int .i64 ((j + 1 : Nat) : Int), .int .u64 (srN xs j sd)] := by
       first | rfl | (exfalso; omega) | (unfold srN; (first | rw [srB_1 (by omega)] | rw [srB_2 (by simp only [List.length_nil]; omega)] | rw [srB_2 (by omega)]) <;> rfl)
     rw [← hq]
     exact hb


--# next_nil
theorem next_nil (b : Nat) (t : TypeId) (j : Nat) (sd : Int) (hj : j ≤ 100000) (w : World) (hb : Blk w b t #[.slice none 0 0, .int .i64 (j : Int), .int .u64 sd]) :
 Calls Try.prog 68 #[.pointer (some ⟨b, 0, none⟩)] w fun e w' => e = .returned (.int .i64 (srV [] j sd)) ∧ Blk w' b t #[.slice none 0 0, .int .i64 ((j + 1 : Nat) : Int), .int .u64 (srN [] j sd)] ∧ Wr b w w' := by
 have na0_ := raw40 (IntKind.u64.wrap (IntKind.u64.wrap (sd * 6364136223846793005) + 0) + 1442695040888963407)
 have nu0_ := u64w (IntKind.u64.wrap (IntKind.u64.wrap (sd * 6364136223846793005) + 0) + 1442695040888963407)
 have hk_ : decide ((j : Int) < 0) = false := decide_eq_false (by omega)
 have hk2_ : decide ((j : Int) + 1 ≤ 0) = false := decide_eq_false (by omega)
 refine calls_of_wp Try.func68 rfl ?_
 refine wp_frame (a' := ⟨#[.pointer (some ⟨b, 0, none⟩), undef, undef, undef, undef, undef, undef, undef, undef, undef, undef, undef, undef, undef, undef, undef, undef, undef, undef, undef, undef, undef, undef, undef, undef, undef, undef, undef, undef, undef, undef, undef, undef, undef, undef, undef, undef, undef, undef, undef, undef, undef, undef, undef, undef, undef, undef, undef, undef, undef, undef, undef, undef, undef, undef, undef, undef, undef, undef, undef, undef, undef], []⟩) (by kernel_rfl) ?_
 refine wsr ?_
 refine wv (.int .i64 0) ?_
 refine wpList_nil (then_normal ?_)
 refine wsr ?_
 refine wv (.int .i64 0) ?_
 refine wpList_nil (then_normal ?_)
 refine wp_seq ?_
 refine wp_seq ?_
 refine wp_frame (a' := ⟨#[.pointer (some ⟨b, 0, none⟩), undef, .int .i64 0, .int .i64 0, undef, undef, undef, undef, undef, undef, undef, undef, undef, undef, undef, undef, undef, undef, undef, undef, undef, undef, undef, undef, undef, undef, undef, undef, undef, undef, undef, undef, undef, undef, undef, undef, undef, undef, undef, undef, undef, undef, undef, undef, undef, undef, undef, undef, undef, undef, undef, undef, undef, undef, undef, undef, undef, undef, undef, undef, undef, undef], []⟩) (by kernel_rfl) ?_
 refine region_go 10 [4, 5, 6, 7, 8, 9, 10, 11, 12, 13] [[], [0], [1], [2], [], [4], [5], [6], [7], [3, 8]]
  (fun i_ => ([.val (.pointer (some ⟨b, 0, none⟩)), .val (.pointer (some ⟨b, 0, none⟩)), .val (.pointer (some ⟨b, 1, none⟩)), .val (.int .i64 (j : Int)), .val (.pointer (some ⟨b, 0, none⟩)), .val (.pointer (some ⟨b, 0, none⟩)), .val (.pointer (some ⟨b, 0, none⟩)), .val (.slice none 0 0), .val (.int .i64 0), .val (.bool false)] : List Fct).getD i_ .any)
  (by kernel_rfl) (by kernel_rfl) (by decide) (by simp) rfl (all_succ (all_succ (all_succ (all_succ (all_succ (all_succ (all_succ (all_succ (all_succ (all_succ all_zero ?_) ?_) ?_) ?_) ?_) ?_) ?_) ?_) ?_) ?_) ?_
 · refine step0 rfl rfl rfl (fun wr hw => ?_)
   exact OpRun.val (.pointer (some ⟨b, 0, none⟩)) (.pointer (some ⟨b, 0, none⟩)) (by kernel_rfl) rfl ⟨Ext.refl _, rfl⟩
 · refine step1 rfl rfl rfl rfl (fun u0 wr hw h0 => ?_)
   cases h0
   exact OpRun.val (.pointer (some ⟨b, 0, none⟩)) (.pointer (some ⟨b, 0, none⟩)) (by kernel_rfl) rfl ⟨Ext.refl _, rfl⟩
 · refine step1 rfl rfl rfl rfl (fun u0 wr hw h0 => ?_)
   cases h0
   exact OpRun.val (.pointer (some ⟨b, 1, none⟩)) (.pointer (some ⟨b, 1, none⟩)) (by kernel_rfl) rfl ⟨Ext.refl _, rfl⟩
 · refine step1 rfl rfl rfl rfl (fun u0 wr hw h0 => ?_)
   cases h0
   exact OpRun.cell (g := b) (off := 1) (v := .int .i64 (j : Int)) scal_int rfl (by kernel_rfl) ((hb.ext hw).get (rfl)) ⟨Ext.refl _, rfl⟩
 · refine step0 rfl rfl rfl (fun wr hw => ?_)
   exact OpRun.val (.pointer (some ⟨b, 0, none⟩)) (.pointer (some ⟨b, 0, none⟩)) (by kernel_rfl) rfl ⟨Ext.refl _, rfl⟩
 · refine step1 rfl rfl rfl rfl (fun u0 wr hw h0 => ?_)
   cases h0
   exact OpRun.val (.pointer (some ⟨b, 0, none⟩)) (.pointer (some ⟨b, 0, none⟩)) (by kernel_rfl) rfl ⟨Ext.refl _, rfl⟩
 · refine step1 rfl rfl rfl rfl (fun u0 wr hw h0 => ?_)
   cases h0
   exact OpRun.val (.pointer (some ⟨b, 0, none⟩)) (.pointer (some ⟨b, 0, none⟩)) (by kernel_rfl) rfl ⟨Ext.refl _, rfl⟩
 · refine step1 rfl rfl rfl rfl (fun u0 wr hw h0 => ?_)
   cases h0
   exact OpRun.cell (g := b) (off := 0) (v := .slice none 0 0) scal__uint8 rfl (by kernel_rfl) ((hb.ext hw).get (rfl)) ⟨Ext.refl _, rfl⟩
 · refine step1 rfl rfl rfl rfl (fun u0 wr hw h0 => ?_)
   cases h0
   exact OpRun.val (.int .i64 0) (.int .i64 0) (by kernel_rfl) rfl ⟨Ext.refl _, rfl⟩
 · refine step2 rfl rfl rfl rfl rfl (fun u0 u1 wr hw h0 h1 => ?_)
   cases h0
   cases h1
   exact OpRun.val (.bool (decide ((j : Int) < 0))) (.bool false) (by kernel_rfl) (congrArg Value.bool hk_) ⟨Ext.refl _, rfl⟩
 refine end10 (fun u0 u1 u2 u3 u4 u5 u6 u7 u8 u9 w1 E1 f0 f1 f2 f3 f4 f5 f6 f7 f8 f9 => ?_)
 cases f0
 cases f1
 cases f2
 cases f3
 cases f4
 cases f5
 cases f6
 cases f7
 cases f8
 cases f9
 refine wpList_nil (then_normal ?_)
 refine wcf ?_
 refine wp_skip ?_
 refine then_normal ?_
 refine wsr ?_
 refine wv (.pointer (some ⟨b, 0, none⟩)) ?_
 refine wv (.pointer (some ⟨b, 0, none⟩)) ?_
 refine wv (.pointer (some ⟨b, 1, none⟩)) ?_
 replace hb := hb.ext E1
 refine wld (v := .int .i64 (j : Int)) b (1) scal_int (hb.get (rfl)) ?_
 refine wi64 ((j : Int) + 1) ?_
 refine wv (.pointer (some ⟨b, 0, none⟩)) ?_
 refine wv (.pointer (some ⟨b, 1, none⟩)) ?_
 refine wst b (1) (.int .i64 ((j : Int) + 1)) scal_int hb (rfl) (by simp) ?_
 intro w2 hb_ X1
 clear hb; have hb := hb_; clear hb_
 refine wpList_nil (then_normal ?_)
 refine wsr ?_
 refine wv (.pointer (some ⟨b, 0, none⟩)) ?_
 refine wv (.pointer (some ⟨b, 0, none⟩)) ?_
 refine wv (.pointer (some ⟨b, 0, none⟩)) ?_
 refine wv (.pointer (some ⟨b, 2, none⟩)) ?_
 refine wld (v := .int .u64 sd) b (2) scal_uint64 (hb.get (rfl)) ?_
 refine wv (.int .u64 (IntKind.u64.wrap (sd * 6364136223846793005))) ?_
 refine wv (.int .i64 0) ?_
 refine wu64 0 ?_
 refine wv (.int .u64 (IntKind.u64.wrap ((IntKind.u64.wrap (sd * 6364136223846793005)) + 0))) ?_
 refine wv (.int .u64 (IntKind.u64.wrap ((IntKind.u64.wrap ((IntKind.u64.wrap (sd * 6364136223846793005)) + 0)) + 1442695040888963407))) ?_
 refine wv (.pointer (some ⟨b, 0, none⟩)) ?_
 refine wv (.pointer (some ⟨b, 2, none⟩)) ?_
 refine wst b (2) (.int .u64 (IntKind.u64.wrap ((IntKind.u64.wrap ((IntKind.u64.wrap (sd * 6364136223846793005)) + 0)) + 1442695040888963407))) scal_uint64 hb (rfl) (by simp) ?_
 intro w3 hb_ X2
 clear hb; have hb := hb_; clear hb_
 refine wpList_nil (then_normal ?_)
 refine wp_frame (a' := ⟨#[.pointer (some ⟨b, 0, none⟩), undef, .int .i64 0, .int .i64 0, .pointer (some ⟨b, 0, none⟩), .pointer (some ⟨b, 0, none⟩), .pointer (some ⟨b, 1, none⟩), .int .i64 (j : Int), .pointer (some ⟨b, 0, none⟩), .pointer (some ⟨b, 0, none⟩), .pointer (some ⟨b, 0, none⟩), .slice none 0 0, .int .i64 0, .bool false, undef, undef, undef, undef, undef, undef, undef, undef, undef, undef, undef, .pointer (some ⟨b, 0, none⟩), .pointer (some ⟨b, 0, none⟩), .pointer (some ⟨b, 1, none⟩), .int .i64 (j : Int), .int .i64 ((j : Int) + 1), .pointer (some ⟨b, 0, none⟩), .pointer (some ⟨b, 1, none⟩), .pointer (some ⟨b, 0, none⟩), .pointer (some ⟨b, 0, none⟩), .pointer (some ⟨b, 0, none⟩), .pointer (some ⟨b, 2, none⟩), .int .u64 sd, .int .u64 (IntKind.u64.wrap (sd * 6364136223846793005)), .int .i64 0, .int .u64 0, .int .u64 (IntKind.u64.wrap ((IntKind.u64.wrap (sd * 6364136223846793005)) + 0)), .int .u64 (IntKind.u64.wrap ((IntKind.u64.wrap ((IntKind.u64.wrap (sd * 6364136223846793005)) + 0)) + 1442695040888963407)), .pointer (some ⟨b, 0, none⟩), .pointer (some ⟨b, 2, none⟩), undef, undef, undef, undef, undef, undef, undef, undef, undef, undef, undef, undef, undef, undef, undef, undef, undef, undef], []⟩) (by kernel_rfl) ?_
 refine wp_seq ?_
 refine wp_seq ?_
 refine region_go 10 [44, 45, 46, 47, 48, 49, 50, 51, 52, 53] [[], [0], [1], [2], [], [4], [5], [6], [7], [3, 8]]
  (fun i_ => ([.val (.pointer (some ⟨b, 0, none⟩)), .val (.pointer (some ⟨b, 0, none⟩)), .val (.pointer (some ⟨b, 1, none⟩)), .val (.int .i64 ((j : Int) + 1)), .val (.pointer (some ⟨b, 0, none⟩)), .val (.pointer (some ⟨b, 0, none⟩)), .val (.pointer (some ⟨b, 0, none⟩)), .val (.slice none 0 0), .val (.int .i64 0), .val (.bool false)] : List Fct).getD i_ .any)
  (by kernel_rfl) (by kernel_rfl) (by decide) (by simp) rfl (all_succ (all_succ (all_succ (all_succ (all_succ (all_succ (all_succ (all_succ (all_succ (all_succ all_zero ?_) ?_) ?_) ?_) ?_) ?_) ?_) ?_) ?_) ?_) ?_
 · refine step0 rfl rfl rfl (fun wr hw => ?_)
   exact OpRun.val (.pointer (some ⟨b, 0, none⟩)) (.pointer (some ⟨b, 0, none⟩)) (by kernel_rfl) rfl ⟨Ext.refl _, rfl⟩
 · refine step1 rfl rfl rfl rfl (fun u0 wr hw h0 => ?_)
   cases h0
   exact OpRun.val (.pointer (some ⟨b, 0, none⟩)) (.pointer (some ⟨b, 0, none⟩)) (by kernel_rfl) rfl ⟨Ext.refl _, rfl⟩
 · refine step1 rfl rfl rfl rfl (fun u0 wr hw h0 => ?_)
   cases h0
   exact OpRun.val (.pointer (some ⟨b, 1, none⟩)) (.pointer (some ⟨b, 1, none⟩)) (by kernel_rfl) rfl ⟨Ext.refl _, rfl⟩
 · refine step1 rfl rfl rfl rfl (fun u0 wr hw h0 => ?_)
   cases h0
   exact OpRun.cell (g := b) (off := 1) (v := .int .i64 ((j : Int) + 1)) scal_int rfl (by kernel_rfl) ((hb.ext hw).get (rfl)) ⟨Ext.refl _, rfl⟩
 · refine step0 rfl rfl rfl (fun wr hw => ?_)
   exact OpRun.val (.pointer (some ⟨b, 0, none⟩)) (.pointer (some ⟨b, 0, none⟩)) (by kernel_rfl) rfl ⟨Ext.refl _, rfl⟩
 · refine step1 rfl rfl rfl rfl (fun u0 wr hw h0 => ?_)
   cases h0
   exact OpRun.val (.pointer (some ⟨b, 0, none⟩)) (.pointer (some ⟨b, 0, none⟩)) (by kernel_rfl) rfl ⟨Ext.refl _, rfl⟩
 · refine step1 rfl rfl rfl rfl (fun u0 wr hw h0 => ?_)
   cases h0
   exact OpRun.val (.pointer (some ⟨b, 0, none⟩)) (.pointer (some ⟨b, 0, none⟩)) (by kernel_rfl) rfl ⟨Ext.refl _, rfl⟩
 · refine step1 rfl rfl rfl rfl (fun u0 wr hw h0 => ?_)
   cases h0
   exact OpRun.cell (g := b) (off := 0) (v := .slice none 0 0) scal__uint8 rfl (by kernel_rfl) ((hb.ext hw).get (rfl)) ⟨Ext.refl _, rfl⟩
 · refine step1 rfl rfl rfl rfl (fun u0 wr hw h0 => ?_)
   cases h0
   exact OpRun.val (.int .i64 0) (.int .i64 0) (by kernel_rfl) rfl ⟨Ext.refl _, rfl⟩
 · refine step2 rfl rfl rfl rfl rfl (fun u0 u1 wr hw h0 h1 => ?_)
   cases h0
   cases h1
   exact OpRun.val (.bool (decide (((j : Int) + 1) ≤ 0))) (.bool false) (by kernel_rfl) (congrArg Value.bool hk2_) ⟨Ext.refl _, rfl⟩
 refine end10 (fun u0 u1 u2 u3 u4 u5 u6 u7 u8 u9 w4 E2 f0 f1 f2 f3 f4 f5 f6 f7 f8 f9 => ?_)
 cases f0
 cases f1
 cases f2
 cases f3
 cases f4
 cases f5
 cases f6
 cases f7
 cases f8
 cases f9
 refine wpList_nil (then_normal ?_)
 refine wcf ?_
 refine wp_skip ?_
 refine then_normal ?_
 refine wsr ?_
 refine wv (.pointer (some ⟨b, 0, none⟩)) ?_
 refine wv (.pointer (some ⟨b, 0, none⟩)) ?_
 refine wv (.pointer (some ⟨b, 2, none⟩)) ?_
 replace hb := hb.ext E2
 refine wld (v := .int .u64 (IntKind.u64.wrap ((IntKind.u64.wrap ((IntKind.u64.wrap (sd * 6364136223846793005)) + 0)) + 1442695040888963407))) b (2) scal_uint64 (hb.get (rfl)) ?_
 refine wshr .u64 .u64 (IntKind.u64.wrap ((IntKind.u64.wrap ((IntKind.u64.wrap (sd * 6364136223846793005)) + 0)) + 1442695040888963407)) 40 ?_
 refine wv (.int .u64 (bits BinOp.and IntKind.u64 ((IntKind.u64.wrap ((IntKind.u64.wrap ((IntKind.u64.wrap (sd * 6364136223846793005)) + 0)) + 1442695040888963407)) / 2 ^ (40 : Int).toNat) 255)) ?_
 refine wi64 (bits BinOp.and IntKind.u64 ((IntKind.u64.wrap ((IntKind.u64.wrap ((IntKind.u64.wrap (sd * 6364136223846793005)) + 0)) + 1442695040888963407)) / 2 ^ (40 : Int).toNat) 255) ?_
 refine wv (.int .i64 (bits BinOp.and IntKind.u64 ((IntKind.u64.wrap ((IntKind.u64.wrap ((IntKind.u64.wrap (sd * 6364136223846793005)) + 0)) + 1442695040888963407)) / 2 ^ (40 : Int).toNat) 255)) ?_
 refine wpList_nil (then_normal ?_)
 refine wp_ret ?_
 have H1 := ((((Wr.of_ext (b := b) (Ext.refl w)).trans (Wr.of_ext E1)).trans X1).trans X2).trans (Wr.of_ext E2)
 refine ret1 (.int .i64 (srV [] j sd)) rfl ?_ rfl ?_
 · refine (resT (v := .int .i64 (bits BinOp.and IntKind.u64 ((IntKind.u64.wrap ((IntKind.u64.wrap ((IntKind.u64.wrap (sd * 6364136223846793005)) + 0)) + 1442695040888963407)) / 2 ^ (40 : Int).toNat) 255)) (by kernel_rfl)).trans ?_
   refine congrArg (Value.int _) ?_
   first | (exfalso; omega) | (rw [srV_1 (by omega), srB_1 (by omega)]; done) | (rw [srV_1 (by omega), srB_2 (by omega)]; done) | (rw [srV_2 (by first | omega | (simp only [List.length_nil]; omega))]; unfold srN; (first | rw [srB_1 (by omega)] | rw [srB_2 (by simp only [List.length_nil]; omega)] | rw [srB_2 (by omega)]) <;> rfl)
 refine ⟨rfl, ?_, H1⟩
 have hq : (#[.slice none 0 0, .int .i64 ((j : Int) + 1), .int .u64 (IntKind.u64.wrap ((IntKind.u64.wrap ((IntKind.u64.wrap (sd * 6364136223846793005)) + 0)) + 1442695040888963407))] : Array Value) = #[.slice none 0 0, .int .i64 ((j + 1 : Nat) : Int), .int .u64 (srN [] j sd)] := by
   first | rfl | (exfalso; omega) | (unfold srN; (first | rw [srB_1 (by omega)] | rw [srB_2 (by simp only [List.length_nil]; omega)] | rw [srB_2 (by omega)]) <;> rfl)
 rw [← hq]
 exact hb


--# pick_some
theorem pick_some (xs : List Int) (ad : Addr) (cap : Nat) (hx : xs.length ≤ 4096) (b : Nat) (t : TypeId) (j : Nat) (sd : Int) (n : Int) (hn : 2 ≤ n ∧ n ≤ 200) (hj : j ≤ 100000) (hxb : ∀ i, i < xs.length → 0 ≤ atI xs i ∧ atI xs i ≤ 255) (w : World) (hb : Blk w b t #[.slice (some ad) xs.length cap, .int .i64 (j : Int), .int .u64 sd]) (hA : SlA w ad .u8 xs) :
 Calls Try.prog 34 #[.pointer (some ⟨b, 0, none⟩), .int .i64 n] w fun e w' => e = .returned (.int .i64 (srV xs j sd % n)) ∧ Blk w' b t #[.slice (some ad) xs.length cap, .int .i64 ((j + 1 : Nat) : Int), .int .u64 (srN xs j sd)] ∧ Wr b w w' := by
 have sv_ := srV_in (xs := xs) (j := j) (e := sd) hxb
 have k1_ : decide (n ≤ 1) = false := decide_eq_false (by omega)
 have k2_ : decide (200 < n) = false := decide_eq_false (by omega)
 refine calls_of_wp Try.func34 rfl ?_
 refine wp_frame (a' := ⟨#[.pointer (some ⟨b, 0, none⟩), .int .i64 n, undef, undef, undef, undef, undef, undef, undef, undef, undef, undef, undef, undef, undef, undef, undef, undef, undef, undef], []⟩) (by kernel_rfl) ?_
 refine wsr ?_
 refine wv (.int .i64 0) ?_
 refine wpList_nil (then_normal ?_)
 refine wp_seq ?_
 refine wsr ?_
 refine wv (.int .i64 n) ?_
 refine wv (.bool (decide (n ≤ 1))) ?_
 refine wbl 7 false k1_ ?_
 refine wpList_nil (then_normal ?_)
 refine wcf ?_
 refine wp_skip ?_
 refine then_normal ?_
 refine wsr ?_
 refine wv (.pointer (some ⟨b, 0, none⟩)) ?_
 refine wcl (next_some xs ad cap (by omega) b _ j sd (by omega) hxb _ hb (SlA.ext hA (Ext.refl w))) ?_
 rintro w1 ⟨hb_, X1⟩
 clear hb; have hb := hb_; clear hb_
 refine wv (.int .i64 (srV xs j sd)) ?_
 refine wpList_nil (then_normal ?_)
 refine wp_seq ?_
 refine wsr ?_
 refine wv (.int .i64 n) ?_
 refine wv (.bool (decide (200 < n))) ?_
 refine wbl 11 false k2_ ?_
 refine wpList_nil (then_normal ?_)
 refine wcf ?_
 refine wp_skip ?_
 refine then_normal ?_
 refine wsr ?_
 refine wv (.int .i64 (srV xs j sd)) ?_
 refine wv (.int .i64 n) ?_
 have em1 := Int.emod_nonneg (srV xs j sd) (show n ≠ 0 by omega)
 have em2 := Int.emod_lt_of_pos (srV xs j sd) (show 0 < n by omega)
 refine wremz .i64 (srV xs j sd) n ?_
 refine wv (.int .i64 ((srV xs j sd) % n)) ?_
 refine wpList_nil (then_normal ?_)
 refine wp_ret ?_
 have H1 := (Wr.of_ext (b := b) (Ext.refl w)).trans X1
 refine ret1 (.int .i64 (srV xs j sd % n)) rfl ?_ rfl ?_
 · refine (resT (v := .int .i64 ((srV xs j sd) % n)) (by kernel_rfl)).trans ?_
   refine congrArg (Value.int _) ?_
   rfl
 exact ⟨rfl, hb, H1⟩


--# pick_nil
theorem pick_nil (b : Nat) (t : TypeId) (j : Nat) (sd : Int) (n : Int) (hn : 2 ≤ n ∧ n ≤ 200) (hj : j ≤ 100000) (w : World) (hb : Blk w b t #[.slice none 0 0, .int .i64 (j : Int), .int .u64 sd]) :
 Calls Try.prog 34 #[.pointer (some ⟨b, 0, none⟩), .int .i64 n] w fun e w' => e = .returned (.int .i64 (srV [] j sd % n)) ∧ Blk w' b t #[.slice none 0 0, .int .i64 ((j + 1 : Nat) : Int), .int .u64 (srN [] j sd)] ∧ Wr b w w' := by
 have sv_ := srV_in (xs := []) (j := j) (e := sd) (fun i hi => by simp at hi)
 have k1_ : decide (n ≤ 1) = false := decide_eq_false (by omega)
 have k2_ : decide (200 < n) = false := decide_eq_false (by omega)
 refine calls_of_wp Try.func34 rfl ?_
 refine wp_frame (a' := ⟨#[.pointer (some ⟨b, 0, none⟩), .int .i64 n, undef, undef, undef, undef, undef, undef, undef, undef, undef, undef, undef, undef, undef, undef, undef, undef, undef, undef], []⟩) (by kernel_rfl) ?_
 refine wsr ?_
 refine wv (.int .i64 0) ?_
 refine wpList_nil (then_normal ?_)
 refine wp_seq ?_
 refine wsr ?_
 refine wv (.int .i64 n) ?_
 refine wv (.bool (decide (n ≤ 1))) ?_
 refine wbl 7 false k1_ ?_
 refine wpList_nil (then_normal ?_)
 refine wcf ?_
 refine wp_skip ?_
 refine then_normal ?_
 refine wsr ?_
 refine wv (.pointer (some ⟨b, 0, none⟩)) ?_
 refine wcl (next_nil b _ j sd (by omega) _ hb) ?_
 rintro w1 ⟨hb_, X1⟩
 clear hb; have hb := hb_; clear hb_
 refine wv (.int .i64 (srV [] j sd)) ?_
 refine wpList_nil (then_normal ?_)
 refine wp_seq ?_
 refine wsr ?_
 refine wv (.int .i64 n) ?_
 refine wv (.bool (decide (200 < n))) ?_
 refine wbl 11 false k2_ ?_
 refine wpList_nil (then_normal ?_)
 refine wcf ?_
 refine wp_skip ?_
 refine then_normal ?_
 refine wsr ?_
 refine wv (.int .i64 (srV [] j sd)) ?_
 refine wv (.int .i64 n) ?_
 have em1 := Int.emod_nonneg (srV [] j sd) (show n ≠ 0 by omega)
 have em2 := Int.emod_lt_of_pos (srV [] j sd) (show 0 < n by omega)
 refine wremz .i64 (srV [] j sd) n ?_
 refine wv (.int .i64 ((srV [] j sd) % n)) ?_
 refine wpList_nil (then_normal ?_)
 refine wp_ret ?_
 have H1 := (Wr.of_ext (b := b) (Ext.refl w)).trans X1
 refine ret1 (.int .i64 (srV [] j sd % n)) rfl ?_ rfl ?_
 · refine (resT (v := .int .i64 ((srV [] j sd) % n)) (by kernel_rfl)).trans ?_
   refine congrArg (Value.int _) ?_
   rfl
 exact ⟨rfl, hb, H1⟩


--# l00From_some
theorem l00From_some (xs : List Int) (ad : Addr) (cap : Nat) (w : World) :
 Calls Try.prog 33 #[.slice (some ad) xs.length cap] w fun e w' => RetP w 86 #[.slice (some ad) xs.length cap, .int .i64 0, .int .u64 0] e w' := by
 refine calls_of_wp Try.func33 rfl ?_
 refine wp_frame (a' := ⟨#[.slice (some ad) xs.length cap, undef, undef, undef, undef, undef], []⟩) (by kernel_rfl) ?_
 refine wsr ?_
 refine wv (.pointer none) ?_
 refine wpList_nil (then_normal ?_)
 refine wsr ?_
 refine wv (.slice (some ad) xs.length cap) ?_
 refine wv (.agg #[.slice (some ad) xs.length cap, .int .i64 0, .int .u64 0]) ?_
 refine wbox #[.slice (some ad) xs.length cap, .int .i64 0, .int .u64 0] ?_
 intro g1 w1 B1 E1 hg_
 have lo_g1 := Nat.le_trans ((Ext.refl w)).size hg_
 refine wv (.pointer (some ⟨g1, 0, none⟩)) ?_
 refine wpList_nil (then_normal ?_)
 refine wp_ret ?_
 refine ret1 (.pointer (some ⟨g1, 0, none⟩)) rfl ?_ rfl ?_
 · exact resT (by kernel_rfl)
 have H1 := (Ext.refl w).trans E1
 exact ⟨g1, rfl, B1, H1, lo_g1⟩


--# l00From_nil
theorem l00From_nil (w : World) :
 Calls Try.prog 33 #[.slice none 0 0] w fun e w' => RetP w 86 #[.slice none 0 0, .int .i64 0, .int .u64 0] e w' := by
 refine calls_of_wp Try.func33 rfl ?_
 refine wp_frame (a' := ⟨#[.slice none 0 0, undef, undef, undef, undef, undef], []⟩) (by kernel_rfl) ?_
 refine wsr ?_
 refine wv (.pointer none) ?_
 refine wpList_nil (then_normal ?_)
 refine wsr ?_
 refine wv (.slice none 0 0) ?_
 refine wv (.agg #[.slice none 0 0, .int .i64 0, .int .u64 0]) ?_
 refine wbox #[.slice none 0 0, .int .i64 0, .int .u64 0] ?_
 intro g1 w1 B1 E1 hg_
 have lo_g1 := Nat.le_trans ((Ext.refl w)).size hg_
 refine wv (.pointer (some ⟨g1, 0, none⟩)) ?_
 refine wpList_nil (then_normal ?_)
 refine wp_ret ?_
 refine ret1 (.pointer (some ⟨g1, 0, none⟩)) rfl ?_ rfl ?_
 · exact resT (by kernel_rfl)
 have H1 := (Ext.refl w).trans E1
 exact ⟨g1, rfl, B1, H1, lo_g1⟩


--# P6Pick_some
theorem P6Pick_some (xs : List Int) (ad : Addr) (cap : Nat) (hx : xs.length ≤ 4096) (n : Int) (hn : 2 ≤ n ∧ n ≤ 200) (hxb : ∀ i, i < xs.length → 0 ≤ atI xs i ∧ atI xs i ≤ 255) (w : World) (hA : SlA w ad .u8 xs) :
 Calls Try.prog 18 #[.slice (some ad) xs.length cap, .int .i64 n] w fun e w' => e = .returned (.int .i64 (drN xs 0 n)) ∧ Ext w w' := by
 refine calls_of_wp Try.func18 rfl ?_
 refine wp_frame (a' := ⟨#[.slice (some ad) xs.length cap, .int .i64 n, undef, undef, undef, undef, undef, undef, undef], []⟩) (by kernel_rfl) ?_
 refine wsr ?_
 refine wv (.int .i64 0) ?_
 refine wpList_nil (then_normal ?_)
 refine wsr ?_
 refine wv (.slice (some ad) xs.length cap) ?_
 refine wclp (l00From_some xs ad cap _) ?_
 intro g1 w1 B1 E1 hg_
 have lo_g1 := Nat.le_trans ((Ext.refl w)).size hg_
 refine wv (.int .i64 n) ?_
 have H1 := (Ext.refl w).trans E1
 refine wcl (pick_some xs ad cap (by omega) g1 _ 0 0 n (by omega) (by omega) hxb _ B1 (SlA.ext hA H1)) ?_
 rintro w2 ⟨B1_, X1⟩
 clear B1; have B1 := B1_; clear B1_
 refine wv (.int .i64 (srV xs 0 0 % n)) ?_
 refine wpList_nil (then_normal ?_)
 refine wp_ret ?_
 have H2 := X1.ext w lo_g1 H1
 refine ret1 (.int .i64 (drN xs 0 n)) rfl ?_ rfl ?_
 · refine (resT (v := .int .i64 (srV xs 0 0 % n)) (by kernel_rfl)).trans ?_
   refine congrArg (Value.int _) ?_
   exact drN_0.symm
 exact ⟨rfl, H2⟩


--# P6Pick_nil
theorem P6Pick_nil (n : Int) (hn : 2 ≤ n ∧ n ≤ 200) (w : World) :
 Calls Try.prog 18 #[.slice none 0 0, .int .i64 n] w fun e w' => e = .returned (.int .i64 (drN [] 0 n)) ∧ Ext w w' := by
 refine calls_of_wp Try.func18 rfl ?_
 refine wp_frame (a' := ⟨#[.slice none 0 0, .int .i64 n, undef, undef, undef, undef, undef, undef, undef], []⟩) (by kernel_rfl) ?_
 refine wsr ?_
 refine wv (.int .i64 0) ?_
 refine wpList_nil (then_normal ?_)
 refine wsr ?_
 refine wv (.slice none 0 0) ?_
 refine wclp (l00From_nil _) ?_
 intro g1 w1 B1 E1 hg_
 have lo_g1 := Nat.le_trans ((Ext.refl w)).size hg_
 refine wv (.int .i64 n) ?_
 refine wcl (pick_nil g1 _ 0 0 n (by omega) (by omega) _ B1) ?_
 rintro w2 ⟨B1_, X1⟩
 clear B1; have B1 := B1_; clear B1_
 refine wv (.int .i64 (srV [] 0 0 % n)) ?_
 refine wpList_nil (then_normal ?_)
 refine wp_ret ?_
 have H1 := X1.ext w lo_g1 ((Ext.refl w).trans E1)
 refine ret1 (.int .i64 (drN [] 0 n)) rfl ?_ rfl ?_
 · refine (resT (v := .int .i64 (srV [] 0 0 % n)) (by kernel_rfl)).trans ?_
   refine congrArg (Value.int _) ?_
   exact drN_0.symm
 exact ⟨rfl, H1⟩


