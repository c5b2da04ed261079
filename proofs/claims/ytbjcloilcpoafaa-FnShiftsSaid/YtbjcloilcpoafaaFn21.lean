/-
  Contracts: what FnShifts draws and checks. No conditions.
-/
import Derived.Test.YtbjcloilcpoafaaTy
import Derived.Test.YtbjcloilcpoafaaSl
import Derived.Test.YtbjcloilcpoafaaMth
import Derived.Test.YtbjcloilcpoafaaFn20
import Derived.Test.YtbjcloilcpoafaaLs
namespace Go.Proofs.Ytbjcloilcpoafaa
open Go.RowKit
set_option linter.unusedSimpArgs false
set_option linter.unusedVariables false
set_option maxHeartbeats 4000000
set_option maxRecDepth 100000
attribute [local irreducible] wpList Code.wp
--# sltu8
-- 25
theorem slt__uint8 : SlT Try.prog 34 5 1 1 (.int .u8 0) := ⟨Try.underlying34, by kernel_rfl, by kernel_rfl, by kernel_rfl, by decide⟩

--# f6big_any
theorem f6big_any (xs : List Int) (v : Value) (w : World) (hin : SlIn w v .u8 xs) :
 Calls Try.prog 25 #[v] w fun e w' => e = .returned (.bool (decide (4096 < (xs.length : Int)))) ∧ Ext w w' := by
 refine calls_of_wp Try.func25 rfl ?_
 refine wp_frame (a' := ⟨#[v, undef, undef, undef, undef, undef], []⟩) (by kernel_rfl) ?_
 refine wsr ?_
 refine wv (.bool false) ?_
 refine wpList_nil (then_normal ?_)
 refine wsr ?_
 refine wv v ?_
 refine wlen (SlIn.ext hin (Ext.refl w)) ⟨_, slt__uint8.1⟩ ?_
 refine wv (.bool (decide (4096 < (xs.length : Int)))) ?_
 refine wv (.bool (decide (4096 < (xs.length : Int)))) ?_
 refine wpList_nil (then_normal ?_)
 refine wp_ret ?_
 refine ret1 (.bool (decide (4096 < (xs.length : Int)))) rfl ?_ rfl ?_
 · exact resT (by kernel_rfl)
 exact ⟨rfl, (Ext.refl w)⟩


--# P6Needs_any
-- 26
theorem P6Needs_any (xs : List Int) (v : Value) (hx : xs.length ≤ 4096) (hxb : ∀ i, i < xs.length → 0 ≤ atI xs i ∧ atI xs i ≤ 255) (w : World) (h : SlIn w v .u8 xs) : Calls Try.prog 26 #[v] w (RetI w 2 .i64 (ndL xs) id) := by
  rcases h with ⟨rfl, rfl⟩ | ⟨ad, cap, rfl, h⟩
  · exact P6Needs_nil w
  · exact P6Needs_some xs ad cap hx hxb w h

--# P6Pick_any
-- 27
/-- A draw, as a number of things. -/
def drM (xs : List Int) (n : Int) : Nat := (drN xs 0 n).toNat
theorem drM_in {xs : List Int} {n : Int} (h : 2 ≤ n) : (drM xs n : Int) < n := by
  have := drN_in (xs := xs) (j := 0) (m := n) (by omega)
  unfold drM
  omega
theorem P6Pick_any (xs : List Int) (v : Value) (n : Int) (hx : xs.length ≤ 4096) (hn : 2 ≤ n ∧ n ≤ 200) (hxb : ∀ i, i < xs.length → 0 ≤ atI xs i ∧ atI xs i ≤ 255) (w : World) (h : SlIn w v .u8 xs) : Calls Try.prog 27 #[v, .int .i64 n] w fun e w' => e = .returned (.int .i64 ((drM xs n : Nat) : Int)) ∧ Ext w w' := by
  have hd := drN_in (xs := xs) (j := 0) (m := n) (by omega)
  rw [show ((drM xs n : Nat) : Int) = drN xs 0 n from Int.toNat_of_nonneg hd.1]
  rcases h with ⟨rfl, rfl⟩ | ⟨ad, cap, rfl, h⟩
  · exact P6Pick_nil n hn w
  · exact P6Pick_some xs ad cap hx n hn hxb w h

--# l00Same_same
theorem l00Same_same (xs : List Int) (b cap : Nat) (cs : Array Value) (hS : SlI cs xs.length cap .i64 xs) (b2 cap2 : Nat) (cs2 : Array Value) (hS2 : SlI cs2 xs.length cap2 .i64 xs) (hx : xs.length ≤ 1048576) (w : World) (hb : Blk w b 2 cs) (hb2 : Blk w b2 2 cs2) :
 Calls Try.prog 59 #[.slice (some ⟨b, 0, none⟩) xs.length cap, .slice (some ⟨b2, 0, none⟩) xs.length cap2] w fun e w' => e = .returned (.bool true) ∧ Ext w w' := by
 refine calls_of_wp Try.func59 rfl ?_
 refine wp_frame (a' := ⟨#[.slice (some ⟨b, 0, none⟩) xs.length cap, .slice (some ⟨b2, 0, none⟩) xs.length cap2, undef, undef, undef, undef, undef, undef, undef, undef, undef, undef, undef, undef, undef, undef, undef, undef, undef, undef, undef, undef, undef, undef, undef, undef], []⟩) (by kernel_rfl) ?_
 refine wsr ?_
 refine wv (.bool false) ?_
 refine wpList_nil (then_normal ?_)
 refine wp_seq ?_
 refine wsr ?_
 refine wv (.slice (some ⟨b, 0, none⟩) xs.length cap) ?_
 refine wv (.int .i64 (xs.length : Int)) ?_
 refine wv (.slice (some ⟨b2, 0, none⟩) xs.length cap2) ?_
 refine wv (.int .i64 (xs.length : Int)) ?_
 refine wvv (.bool ((xs.length : Int) != (xs.length : Int))) (.bool false) (by simp) ?_
 refine wpList_nil (then_normal ?_)
 refine wcf ?_
 refine wp_skip ?_
 refine then_normal ?_
 refine wp_seq ?_
 refine wsr ?_
 refine wv (.int .i64 0) ?_
 refine wpList_nil (then_normal ?_)
 refine wp_block ?_
 refine wp_loop_k (fun m1 a wl1 => ∃ (i : Nat), m1 = xs.length - i ∧ i ≤ xs.length ∧ Ext w wl1 ∧ Blk wl1 b 2 cs ∧ Blk wl1 b2 2 cs2 ∧ (∃ J1 : Nat → Value, a = ⟨#[.slice (some ⟨b, 0, none⟩) xs.length cap, .slice (some ⟨b2, 0, none⟩) xs.length cap2, undef, undef, J1 4, .int .i64 (i : Int), .slice (some ⟨b, 0, none⟩) xs.length cap, .int .i64 (xs.length : Int), .slice (some ⟨b2, 0, none⟩) xs.length cap2, .int .i64 (xs.length : Int), .bool false, J1 11, J1 12, J1 13, J1 14, J1 15, J1 16, J1 17, J1 18, J1 19, J1 20, J1 21, J1 22, J1 23, J1 24, J1 25], []⟩)) (xs.length) ?_ ?_
 · refine ⟨0, rfl, ?_, (Ext.refl w), hb, hb2, exJ (by kernel_rfl)⟩
   · omega
 intro m1 a wl1 hI
 obtain ⟨i, rfl, hi_, HL1, hb, hb2, J1, rfl⟩ := hI
 refine wp_seq ?_
 refine wsr ?_
 refine wv (.int .i64 (i : Int)) ?_
 refine wv (.slice (some ⟨b, 0, none⟩) xs.length cap) ?_
 refine wv (.int .i64 (xs.length : Int)) ?_
 refine wv (.bool (decide ((i : Int) < (xs.length : Int)))) ?_
 refine wpList_nil (then_normal ?_)
 refine wsplit (decide ((i : Int) < (xs.length : Int))) (fun h1 => ?_) (fun h1 => ?_)
 · skip
   have h1d := dT h1
   refine wp_skip ?_
   refine then_normal ?_
   refine wp_seq ?_
   refine wp_block ?_
   refine wp_seq ?_
   refine wp_frame (a' := ⟨#[.slice (some ⟨b, 0, none⟩) xs.length cap, .slice (some ⟨b2, 0, none⟩) xs.length cap2, undef, undef, J1 4, .int .i64 (i : Int), .slice (some ⟨b, 0, none⟩) xs.length cap, .int .i64 (xs.length : Int), .slice (some ⟨b2, 0, none⟩) xs.length cap2, .int .i64 (xs.length : Int), .bool false, .int .i64 (i : Int), .slice (some ⟨b, 0, none⟩) xs.length cap, .int .i64 (xs.length : Int), .bool (decide ((i : Int) < (xs.length : Int))), J1 15, J1 16, J1 17, J1 18, J1 19, J1 20, J1 21, J1 22, J1 23, J1 24, J1 25], []⟩) (by kernel_rfl) ?_
   refine region_go 9 [17, 18, 19, 20, 21, 22, 23, 24, 25] [[], [], [0, 1], [2], [], [], [4, 5], [6], [3, 7]]
    (fun i_ => ([.val (.slice (some ⟨b, 0, none⟩) xs.length cap), .val (.int .i64 (i : Int)), .val (.pointer (some ⟨b, 0 + i, none⟩)), .val (.int .i64 (atI xs i)), .val (.slice (some ⟨b2, 0, none⟩) xs.length cap2), .val (.int .i64 (i : Int)), .val (.pointer (some ⟨b2, 0 + i, none⟩)), .val (.int .i64 (atI xs i)), .val (.bool false)] : List Fct).getD i_ .any)
    (by kernel_rfl) (by kernel_rfl) (by decide) (by simp) rfl (all_succ (all_succ (all_succ (all_succ (all_succ (all_succ (all_succ (all_succ (all_succ all_zero ?_) ?_) ?_) ?_) ?_) ?_) ?_) ?_) ?_) ?_
   · refine step0 rfl rfl rfl (fun wr hw => ?_)
     exact OpRun.val (.slice (some ⟨b, 0, none⟩) xs.length cap) (.slice (some ⟨b, 0, none⟩) xs.length cap) (by kernel_rfl) rfl ⟨Ext.refl _, rfl⟩
   · refine step0 rfl rfl rfl (fun wr hw => ?_)
     exact OpRun.val (.int .i64 (i : Int)) (.int .i64 (i : Int)) (by kernel_rfl) rfl ⟨Ext.refl _, rfl⟩
   · refine step2 rfl rfl rfl rfl rfl (fun u0 u1 wr hw h0 h1 => ?_)
     cases h0
     cases h1
     exact OpRun.six1 (i := i) (k := .i64) (g := b) (off := 0) (n := xs.length) (cap := cap) slit__int64 rfl (by kernel_rfl) (by kernel_rfl) (by omega) ⟨Ext.refl _, rfl⟩
   · refine step1 rfl rfl rfl rfl (fun u0 wr hw h0 => ?_)
     cases h0
     exact OpRun.cell (g := b) (off := 0 + i) (v := .int .i64 (atI xs i)) scal_int64 rfl (by kernel_rfl) ((hb.ext hw).get (SlI.get hS (by omega))) ⟨Ext.refl _, rfl⟩
   · refine step0 rfl rfl rfl (fun wr hw => ?_)
     exact OpRun.val (.slice (some ⟨b2, 0, none⟩) xs.length cap2) (.slice (some ⟨b2, 0, none⟩) xs.length cap2) (by kernel_rfl) rfl ⟨Ext.refl _, rfl⟩
   · refine step0 rfl rfl rfl (fun wr hw => ?_)
     exact OpRun.val (.int .i64 (i : Int)) (.int .i64 (i : Int)) (by kernel_rfl) rfl ⟨Ext.refl _, rfl⟩
   · refine step2 rfl rfl rfl rfl rfl (fun u0 u1 wr hw h0 h1 => ?_)
     cases h0
     cases h1
     exact OpRun.six1 (i := i) (k := .i64) (g := b2) (off := 0) (n := xs.length) (cap := cap2) slit__int64 rfl (by kernel_rfl) (by kernel_rfl) (by omega) ⟨Ext.refl _, rfl⟩
   · refine step1 rfl rfl rfl rfl (fun u0 wr hw h0 => ?_)
     cases h0
     exact OpRun.cell (g := b2) (off := 0 + i) (v := .int .i64 (atI xs i)) scal_int64 rfl (by kernel_rfl) ((hb2.ext hw).get (SlI.get hS2 (by omega))) ⟨Ext.refl _, rfl⟩
   · refine step2 rfl rfl rfl rfl rfl (fun u0 u1 wr hw h0 h1 => ?_)
     cases h0
     cases h1
     exact OpRun.val (.bool ((atI xs i) != (atI xs i))) (.bool false) (by kernel_rfl) (by simp) ⟨Ext.refl _, rfl⟩
   refine end9 (fun u0 u1 u2 u3 u4 u5 u6 u7 u8 w1 E1 f0 f1 f2 f3 f4 f5 f6 f7 f8 => ?_)
   cases f0
   cases f1
   cases f2
   cases f3
   cases f4
   cases f5
   cases f6
   cases f7
   cases f8
   refine wpList_nil (then_normal ?_)
   refine wcf ?_
   refine wp_skip ?_
   refine block_normal (then_normal ?_)
   refine wp_region_lit ?_
   refine wv (.int .i64 (i : Int)) ?_
   refine wi64 ((i : Int) + 1) ?_
   refine wv (.int .i64 ((i : Int) + 1)) ?_
   refine wpList_nil (then_normal ?_)
   replace hb := hb.ext E1
   replace hb2 := hb2.ext E1
   have H1 := HL1.trans E1
   refine ⟨_, ?_, i + 1, rfl, ?_, H1, hb, hb2, exJ (by kernel_rfl)⟩
   · omega
   · omega
 · skip
   have h1d := dF h1
   refine wp_exit ?_
   refine then_exit ?_
   refine then_exit ?_
   refine block_exit ?_
   refine then_normal ?_
   refine wsr ?_
   refine wv (.bool true) ?_
   refine wpList_nil (then_normal ?_)
   refine wp_ret ?_
   refine ret1 (.bool true) rfl ?_ rfl ?_
   · exact resT (by kernel_rfl)
   exact ⟨rfl, HL1⟩


--# SameNumbers_same
theorem SameNumbers_same (xs : List Int) (b cap : Nat) (cs : Array Value) (hS : SlI cs xs.length cap .i64 xs) (b2 cap2 : Nat) (cs2 : Array Value) (hS2 : SlI cs2 xs.length cap2 .i64 xs) (hx : xs.length ≤ 1048576) (w : World) (hb : Blk w b 2 cs) (hb2 : Blk w b2 2 cs2) :
 Calls Try.prog 28 #[.slice (some ⟨b, 0, none⟩) xs.length cap, .slice (some ⟨b2, 0, none⟩) xs.length cap2] w fun e w' => e = .returned (.bool true) ∧ Ext w w' := by
 refine calls_of_wp Try.func28 rfl ?_
 refine wp_frame (a' := ⟨#[.slice (some ⟨b, 0, none⟩) xs.length cap, .slice (some ⟨b2, 0, none⟩) xs.length cap2, undef, undef, undef, undef, undef, undef], []⟩) (by kernel_rfl) ?_
 refine wsr ?_
 refine wv (.bool false) ?_
 refine wpList_nil (then_normal ?_)
 refine wsr ?_
 refine wv (.slice (some ⟨b, 0, none⟩) xs.length cap) ?_
 refine wv (.slice (some ⟨b2, 0, none⟩) xs.length cap2) ?_
 refine wcl (l00Same_same xs b cap cs hS b2 cap2 cs2 hS2 (by omega) _ hb hb2) ?_
 intro w1 E1
 refine wv (.bool true) ?_
 refine wpList_nil (then_normal ?_)
 refine wp_ret ?_
 have H1 := (Ext.refl w).trans E1
 refine ret1 (.bool true) rfl ?_ rfl ?_
 · exact resT (by kernel_rfl)
 exact ⟨rfl, H1⟩


--# iCheckShifts_due
-- 20
theorem iCheckShifts_due (need : List Int) (n b cap : Nat) (cs : Array Value) (hS : SlI cs n cap .i64 need) (len : Int) (n2 b2 cap2 : Nat) (cs2 : Array Value) (hS2 : SlI cs2 n2 cap2 .i64 (fewL need len)) (hn : n ≤ 1048576) (hn2 : n2 ≤ 1048576) (hok : ndOk need len) (w : World) (hb : Blk w b 2 cs) (hb2 : Blk w b2 2 cs2) :
    Calls Try.prog 20 #[.slice (some ⟨b, 0, none⟩) n cap, .int .i64 len, .slice (some ⟨b2, 0, none⟩) n2 cap2] w fun e w' => e = .returned (.tuple #[.bool true, .int .i64 0]) ∧ Ext w w' := by
  have h := iCheckShifts_any need n b cap cs hS len (fewL need len) n2 b2 cap2 cs2 hS2 hn hn2 w hb hb2
  rw [ck_2 hok, ck_1 hok] at h
  exact h

--# iFirstShort_due
-- 17
theorem iFirstShort_due (need : List Int) (n b cap : Nat) (cs : Array Value) (hS : SlI cs n cap .i64 need) (len : Int) (n2 b2 cap2 : Nat) (cs2 : Array Value) (hS2 : SlI cs2 n2 cap2 .i64 (fewL need len)) (hn : n ≤ 1048576) (hn2 : n2 ≤ 1048576) (hok : ndOk need len) (w : World) (hb : Blk w b 2 cs) (hb2 : Blk w b2 2 cs2) :
    Calls Try.prog 17 #[.slice (some ⟨b, 0, none⟩) n cap, .int .i64 len, .slice (some ⟨b2, 0, none⟩) n2 cap2] w fun e w' => e = .returned (.tuple #[.int .i64 (fs0 need len (fewL need len)), .int .i64 (fs1 need len (fewL need len)), .int .i64 6]) ∧ Ext w w' := by
  have h := iFirstShort_any need n b cap cs hS len (fewL need len) n2 b2 cap2 cs2 hS2 hn hn2 w hb hb2
  rw [ck_3 hok] at h
  exact h

--# iCheckShifts_less
-- 20
theorem iCheckShifts_less (need : List Int) (n b cap : Nat) (cs : Array Value) (hS : SlI cs n cap .i64 need) (len : Int) (n2 b2 cap2 : Nat) (cs2 : Array Value)  (i : Nat) (hi : i < (fewL need len).length) (hS2 : SlI cs2 n2 cap2 .i64 (lsL (fewL need len) i)) (hn : n ≤ 1048576) (hn2 : n2 ≤ 1048576) (hok : ndOk need len) (w : World) (hb : Blk w b 2 cs) (hb2 : Blk w b2 2 cs2) :
    Calls Try.prog 20 #[.slice (some ⟨b, 0, none⟩) n cap, .int .i64 len, .slice (some ⟨b2, 0, none⟩) n2 cap2] w fun e w' => e = .returned (.tuple #[.bool false, .int .i64 0]) ∧ Ext w w' := by
  have h := iCheckShifts_any need n b cap cs hS len (lsL (fewL need len) i) n2 b2 cap2 cs2 hS2 hn hn2 w hb hb2
  rw [ls_2 hok hi, ls_1 hok hi] at h
  exact h

--# iFirstShort_less
-- 17
theorem iFirstShort_less (need : List Int) (n b cap : Nat) (cs : Array Value) (hS : SlI cs n cap .i64 need) (len : Int) (n2 b2 cap2 : Nat) (cs2 : Array Value)  (i : Nat) (hi : i < (fewL need len).length) (hS2 : SlI cs2 n2 cap2 .i64 (lsL (fewL need len) i)) (hn : n ≤ 1048576) (hn2 : n2 ≤ 1048576) (hok : ndOk need len) (w : World) (hb : Blk w b 2 cs) (hb2 : Blk w b2 2 cs2) :
    Calls Try.prog 17 #[.slice (some ⟨b, 0, none⟩) n cap, .int .i64 len, .slice (some ⟨b2, 0, none⟩) n2 cap2] w fun e w' => e = .returned (.tuple #[.int .i64 (atI (fewL need len) i), .int .i64 1, .int .i64 0]) ∧ Ext w w' := by
  have h := iFirstShort_any need n b cap cs hS len (lsL (fewL need len) i) n2 b2 cap2 cs2 hS2 hn hn2 w hb hb2
  rw [ls_5 hok hi, ls_4 hok hi, ls_3 hok hi] at h
  exact h
end Go.Proofs.Ytbjcloilcpoafaa
