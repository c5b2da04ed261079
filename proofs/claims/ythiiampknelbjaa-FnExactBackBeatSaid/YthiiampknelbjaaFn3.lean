/-
  Contracts: the functions of fields. No conditions.
-/
import Derived.Test.YthiiampknelbjaaTy
import Derived.Test.YthiiampknelbjaaSl
import Derived.Test.YthiiampknelbjaaMth
import Derived.Test.YthiiampknelbjaaFn2
namespace Go.Proofs.Ythiiampknelbjaa
open Go.RowKit
set_option linter.unusedSimpArgs false
set_option linter.unusedVariables false
set_option maxHeartbeats 4000000
set_option maxRecDepth 100000
attribute [local irreducible] wpList Code.wp
--# square_any
theorem square_any (a : Int) (b : Int) (ha : 0 ≤ a ∧ a ≤ 1000) (hb : 0 ≤ b ∧ b ≤ 1000) (w : World) :
 Calls Try.prog 86 #[.int .i64 a, .int .i64 b] w fun e w' => e = .returned (.int .i64 (sqr a b)) ∧ Ext w w' := by
 refine calls_of_wp Try.func86 rfl ?_
 refine wp_frame (a' := ⟨#[.int .i64 a, .int .i64 b, undef, undef, undef, undef, undef, undef, undef, undef, undef, undef, undef, undef, undef, undef, undef, undef, undef, undef, undef, undef, undef, undef], []⟩) (by kernel_rfl) ?_
 refine wsr ?_
 refine wv (.int .i64 0) ?_
 refine wpList_nil (then_normal ?_)
 refine wsr ?_
 refine wv (.int .i64 a) ?_
 refine wrem a 10 ?_
 refine wv (.int .i64 b) ?_
 refine wrem b 10 ?_
 refine wi64 ((a % 10) - (b % 10)) ?_
 refine wv (.int .i64 a) ?_
 refine wquo a 10 ?_
 refine wv (.int .i64 b) ?_
 refine wquo b 10 ?_
 refine wi64 ((a / 10) - (b / 10)) ?_
 refine wv (.int .i64 ((a % 10) - (b % 10))) ?_
 refine wv (.int .i64 ((a / 10) - (b / 10))) ?_
 refine wpList_nil (then_normal ?_)
 refine wsr ?_
 refine wv (.int .i64 ((a % 10) - (b % 10))) ?_
 refine wv (.int .i64 ((a % 10) - (b % 10))) ?_
 have sq1 := sq_b (x := ((a % 10) - (b % 10))) (by omega)
 refine wi64 (((a % 10) - (b % 10)) * ((a % 10) - (b % 10))) ?_
 refine wv (.int .i64 ((a / 10) - (b / 10))) ?_
 refine wv (.int .i64 ((a / 10) - (b / 10))) ?_
 have sq2 := sq_b (x := ((a / 10) - (b / 10))) (by omega)
 refine wi64 (((a / 10) - (b / 10)) * ((a / 10) - (b / 10))) ?_
 refine wi64 ((((a % 10) - (b % 10)) * ((a % 10) - (b % 10))) + (((a / 10) - (b / 10)) * ((a / 10) - (b / 10)))) ?_
 refine wv (.int .i64 ((((a % 10) - (b % 10)) * ((a % 10) - (b % 10))) + (((a / 10) - (b / 10)) * ((a / 10) - (b / 10))))) ?_
 refine wpList_nil (then_normal ?_)
 refine wp_ret ?_
 refine ret1 (.int .i64 (sqr a b)) rfl ?_ rfl ?_
 · refine (resT (v := .int .i64 ((((a % 10) - (b % 10)) * ((a % 10) - (b % 10))) + (((a / 10) - (b / 10)) * ((a / 10) - (b / 10))))) (by kernel_rfl)).trans ?_
   refine congrArg (Value.int _) ?_
   unfold sqr; rfl
 exact ⟨rfl, (Ext.refl w)⟩


--# l01Square_any
theorem l01Square_any (a : Int) (b : Int) (ha : 0 ≤ a ∧ a ≤ 1000) (hb : 0 ≤ b ∧ b ≤ 1000) (w : World) :
 Calls Try.prog 83 #[.int .i64 a, .int .i64 b] w fun e w' => e = .returned (.int .i64 (sqr a b)) ∧ Ext w w' := by
 refine calls_of_wp Try.func83 rfl ?_
 refine wp_frame (a' := ⟨#[.int .i64 a, .int .i64 b, undef, undef, undef, undef, undef, undef, undef, undef, undef, undef, undef, undef, undef, undef, undef, undef, undef, undef, undef, undef, undef, undef], []⟩) (by kernel_rfl) ?_
 refine wsr ?_
 refine wv (.int .i64 0) ?_
 refine wpList_nil (then_normal ?_)
 refine wsr ?_
 refine wv (.int .i64 a) ?_
 refine wrem a 10 ?_
 refine wv (.int .i64 b) ?_
 refine wrem b 10 ?_
 refine wi64 ((a % 10) - (b % 10)) ?_
 refine wv (.int .i64 ((a % 10) - (b % 10))) ?_
 refine wpList_nil (then_normal ?_)
 refine wsr ?_
 refine wv (.int .i64 a) ?_
 refine wquo a 10 ?_
 refine wv (.int .i64 b) ?_
 refine wquo b 10 ?_
 refine wi64 ((a / 10) - (b / 10)) ?_
 refine wv (.int .i64 ((a / 10) - (b / 10))) ?_
 refine wpList_nil (then_normal ?_)
 refine wsr ?_
 refine wv (.int .i64 ((a % 10) - (b % 10))) ?_
 refine wv (.int .i64 ((a % 10) - (b % 10))) ?_
 have sq1 := sq_b (x := ((a % 10) - (b % 10))) (by omega)
 refine wi64 (((a % 10) - (b % 10)) * ((a % 10) - (b % 10))) ?_
 refine wv (.int .i64 ((a / 10) - (b / 10))) ?_
 refine wv (.int .i64 ((a / 10) - (b / 10))) ?_
 have sq2 := sq_b (x := ((a / 10) - (b / 10))) (by omega)
 refine wi64 (((a / 10) - (b / 10)) * ((a / 10) - (b / 10))) ?_
 refine wi64 ((((a % 10) - (b % 10)) * ((a % 10) - (b % 10))) + (((a / 10) - (b / 10)) * ((a / 10) - (b / 10)))) ?_
 refine wv (.int .i64 ((((a % 10) - (b % 10)) * ((a % 10) - (b % 10))) + (((a / 10) - (b / 10)) * ((a / 10) - (b / 10))))) ?_
 refine wpList_nil (then_normal ?_)
 refine wp_ret ?_
 refine ret1 (.int .i64 (sqr a b)) rfl ?_ rfl ?_
 · refine (resT (v := .int .i64 ((((a % 10) - (b % 10)) * ((a % 10) - (b % 10))) + (((a / 10) - (b / 10)) * ((a / 10) - (b / 10))))) (by kernel_rfl)).trans ?_
   refine congrArg (Value.int _) ?_
   unfold sqr; rfl
 exact ⟨rfl, (Ext.refl w)⟩


--# l00Min_any
theorem l00Min_any (a : Int) (b : Int) (w : World) :
 Calls Try.prog 58 #[.int .i64 a, .int .i64 b] w fun e w' => e = .returned (.int .i64 (minI a b)) ∧ Ext w w' := by
 refine calls_of_wp Try.func58 rfl ?_
 refine wp_frame (a' := ⟨#[.int .i64 a, .int .i64 b, undef, undef, undef, undef, undef, undef, undef, undef], []⟩) (by kernel_rfl) ?_
 refine wsr ?_
 refine wv (.int .i64 0) ?_
 refine wpList_nil (then_normal ?_)
 refine wp_seq ?_
 refine wsr ?_
 refine wv (.int .i64 a) ?_
 refine wv (.int .i64 b) ?_
 refine wv (.bool (decide (a < b))) ?_
 refine wpList_nil (then_normal ?_)
 refine wsplit (decide (a < b)) (fun h1 => ?_) (fun h1 => ?_)
 · skip
   have h1d := dT h1
   refine wsr ?_
   refine wv (.int .i64 a) ?_
   refine wv (.int .i64 a) ?_
   refine wpList_nil (then_normal ?_)
   refine wp_ret ?_
   refine then_ret ?_
   refine ret1 (.int .i64 (minI a b)) rfl ?_ rfl ?_
   · refine (resT (v := .int .i64 a) (by kernel_rfl)).trans ?_
     refine congrArg (Value.int _) ?_
     first | exact (minI_1 (by assumption)).symm | exact (minI_2 (by assumption)).symm
   exact ⟨rfl, (Ext.refl w)⟩
 · skip
   have h1d := dF h1
   refine wp_skip ?_
   refine then_normal ?_
   refine wsr ?_
   refine wv (.int .i64 b) ?_
   refine wv (.int .i64 b) ?_
   refine wpList_nil (then_normal ?_)
   refine wp_ret ?_
   refine ret1 (.int .i64 (minI a b)) rfl ?_ rfl ?_
   · refine (resT (v := .int .i64 b) (by kernel_rfl)).trans ?_
     refine congrArg (Value.int _) ?_
     first | exact (minI_1 (by assumption)).symm | exact (minI_2 (by assumption)).symm
   exact ⟨rfl, (Ext.refl w)⟩


--# take_any
theorem take_any (F : Fld) (hF : F.wf) (b : Nat) (t : TypeId) (c : Int) (n : Int) (hc : 0 ≤ c ∧ c ≤ 99) (hn : 0 ≤ n) (hs : 0 ≤ F.s c.toNat) (w : World) (hb : Blk w b t F.cells) :
 Calls Try.prog 64 #[.pointer (some ⟨b, 0, none⟩), .int .i64 c, .int .i64 n] w fun e w' => e = .returned (.int .i64 (minI n (F.s c.toNat))) ∧ Blk w' b t (Fld.cells ({ F with s := upd F.s c.toNat (F.s c.toNat - minI n (F.s c.toNat)) })) ∧ Wr b w w' := by
 refine calls_of_wp Try.func64 rfl ?_
 refine wp_frame (a' := ⟨#[.pointer (some ⟨b, 0, none⟩), .int .i64 c, .int .i64 n, undef, undef, undef, undef, undef, undef, undef, undef, undef, undef, undef, undef, undef, undef, undef, undef, undef, undef, undef, undef, undef, undef, undef, undef, undef, undef, undef], []⟩) (by kernel_rfl) ?_
 refine wsr ?_
 refine wv (.int .i64 0) ?_
 refine wpList_nil (then_normal ?_)
 refine wsr ?_
 refine wv (.int .i64 n) ?_
 refine wv (.pointer (some ⟨b, 0, none⟩)) ?_
 refine wv (.int .i64 c) ?_
 refine wv (.pointer (some ⟨b, 0, none⟩)) ?_
 refine wv (.pointer (some ⟨b, 102, none⟩)) ?_
 refine wix b 102 c .i64 arrt__100_int16 ?_
 have ce1 := hF.s1 ((c).toNat) (by omega)
 refine wld b (102 + (c).toNat) scal_int16 (hb.get (Fld.gets _ _ (by omega))) ?_
 refine wi64 (F.s ((c).toNat)) ?_
 have mi1 := minI_b n (F.s ((c).toNat))
 refine wvv (.int .i64 (if (F.s ((c).toNat)) < n then (F.s ((c).toNat)) else n)) (.int .i64 (minI n (F.s ((c).toNat)))) (congrArg _ (minI_eq _ _)) ?_
 refine wv (.int .i64 (minI n (F.s ((c).toNat)))) ?_
 refine wpList_nil (then_normal ?_)
 refine wp_seq ?_
 refine wp_frame (a' := ⟨#[.pointer (some ⟨b, 0, none⟩), .int .i64 c, .int .i64 n, undef, undef, undef, .int .i64 0, .int .i64 (minI n (F.s ((c).toNat))), .int .i64 n, .pointer (some ⟨b, 0, none⟩), .int .i64 c, .pointer (some ⟨b, 0, none⟩), .pointer (some ⟨b, 102, none⟩), .pointer (some ⟨b, 102 + (c).toNat, none⟩), .int .i16 (F.s ((c).toNat)), .int .i64 (F.s ((c).toNat)), .int .i64 (minI n (F.s ((c).toNat))), undef, undef, undef, undef, undef, undef, undef, undef, undef, undef, undef, undef, undef], []⟩) (by kernel_rfl) ?_
 have ce2 := hF.s1 ((c).toNat) (by omega)
 refine region_go 12 [17, 18, 19, 20, 21, 22, 23, 24, 25, 26, 27, 28] [[], [], [0], [2], [3, 1], [4], [], [6], [5, 7], [0], [9], [10, 1]]
  (fun i_ => ([.val (.pointer (some ⟨b, 0, none⟩)), .val (.int .i64 c), .val (.pointer (some ⟨b, 0, none⟩)), .val (.pointer (some ⟨b, 102, none⟩)), .val (.pointer (some ⟨b, 102 + (c).toNat, none⟩)), .val (.int .i16 (F.s ((c).toNat))), .val (.int .i64 (minI n (F.s ((c).toNat)))), .val (.int .i16 (minI n (F.s ((c).toNat)))), .val (.int .i16 ((F.s ((c).toNat)) - (minI n (F.s ((c).toNat))))), .val (.pointer (some ⟨b, 0, none⟩)), .val (.pointer (some ⟨b, 102, none⟩)), .val (.pointer (some ⟨b, 102 + (c).toNat, none⟩))] : List Fct).getD i_ .any)
  (by kernel_rfl) (by kernel_rfl) (by decide) (by simp) rfl (all_succ (all_succ (all_succ (all_succ (all_succ (all_succ (all_succ (all_succ (all_succ (all_succ (all_succ (all_succ all_zero ?_) ?_) ?_) ?_) ?_) ?_) ?_) ?_) ?_) ?_) ?_) ?_) ?_
 · refine step0 rfl rfl rfl (fun wr hw => ?_)
   exact OpRun.val (.pointer (some ⟨b, 0, none⟩)) (.pointer (some ⟨b, 0, none⟩)) (by kernel_rfl) rfl ⟨Ext.refl _, rfl⟩
 · refine step0 rfl rfl rfl (fun wr hw => ?_)
   exact OpRun.val (.int .i64 c) (.int .i64 c) (by kernel_rfl) rfl ⟨Ext.refl _, rfl⟩
 · refine step1 rfl rfl rfl rfl (fun u0 wr hw h0 => ?_)
   cases h0
   exact OpRun.val (.pointer (some ⟨b, 0, none⟩)) (.pointer (some ⟨b, 0, none⟩)) (by kernel_rfl) rfl ⟨Ext.refl _, rfl⟩
 · refine step1 rfl rfl rfl rfl (fun u0 wr hw h0 => ?_)
   cases h0
   exact OpRun.val (.pointer (some ⟨b, 102, none⟩)) (.pointer (some ⟨b, 102, none⟩)) (by kernel_rfl) rfl ⟨Ext.refl _, rfl⟩
 · refine step2 rfl rfl rfl rfl rfl (fun u0 u1 wr hw h0 h1 => ?_)
   cases h0
   cases h1
   exact OpRun.ixa (i := c) (k := .i64) (g := b) (off := 102) arrt__100_int16 rfl (by kernel_rfl) (by kernel_rfl) (by omega) (by omega) ⟨Ext.refl _, rfl⟩
 · refine step1 rfl rfl rfl rfl (fun u0 wr hw h0 => ?_)
   cases h0
   exact OpRun.cell (g := b) (off := 102 + (c).toNat) (v := .int .i16 (F.s ((c).toNat))) scal_int16 rfl (by kernel_rfl) ((hb.ext hw).get (Fld.gets _ _ (by omega))) ⟨Ext.refl _, rfl⟩
 · refine step0 rfl rfl rfl (fun wr hw => ?_)
   exact OpRun.val (.int .i64 (minI n (F.s ((c).toNat)))) (.int .i64 (minI n (F.s ((c).toNat)))) (by kernel_rfl) rfl ⟨Ext.refl _, rfl⟩
 · refine step1 rfl rfl rfl rfl (fun u0 wr hw h0 => ?_)
   cases h0
   exact OpRun.val (.int .i16 (IntKind.i16.wrap (minI n (F.s ((c).toNat))))) (.int .i16 (minI n (F.s ((c).toNat)))) (by kernel_rfl) (by exact congrArg _ (IntWalk.i16_in _ (by omega))) ⟨Ext.refl _, rfl⟩
 · refine step2 rfl rfl rfl rfl rfl (fun u0 u1 wr hw h0 h1 => ?_)
   cases h0
   cases h1
   exact OpRun.val (.int .i16 (IntKind.i16.wrap ((F.s ((c).toNat)) - (minI n (F.s ((c).toNat)))))) (.int .i16 ((F.s ((c).toNat)) - (minI n (F.s ((c).toNat))))) (by kernel_rfl) (by exact congrArg _ (IntWalk.i16_in _ (by omega))) ⟨Ext.refl _, rfl⟩
 · refine step1 rfl rfl rfl rfl (fun u0 wr hw h0 => ?_)
   cases h0
   exact OpRun.val (.pointer (some ⟨b, 0, none⟩)) (.pointer (some ⟨b, 0, none⟩)) (by kernel_rfl) rfl ⟨Ext.refl _, rfl⟩
 · refine step1 rfl rfl rfl rfl (fun u0 wr hw h0 => ?_)
   cases h0
   exact OpRun.val (.pointer (some ⟨b, 102, none⟩)) (.pointer (some ⟨b, 102, none⟩)) (by kernel_rfl) rfl ⟨Ext.refl _, rfl⟩
 · refine step2 rfl rfl rfl rfl rfl (fun u0 u1 wr hw h0 h1 => ?_)
   cases h0
   cases h1
   exact OpRun.ixa (i := c) (k := .i64) (g := b) (off := 102) arrt__100_int16 rfl (by kernel_rfl) (by kernel_rfl) (by omega) (by omega) ⟨Ext.refl _, rfl⟩
 refine end12 (fun u0 u1 u2 u3 u4 u5 u6 u7 u8 u9 u10 u11 w1 E1 f0 f1 f2 f3 f4 f5 f6 f7 f8 f9 f10 f11 => ?_)
 cases f0
 cases f1
 cases f2
 cases f3
 cases f4
 cases f5
 cases f6
 cases f7
 cases f8
 cases f9
 cases f10
 cases f11
 replace hb := hb.ext E1
 refine wst b (102 + (c).toNat) (.int .i16 ((F.s ((c).toNat)) - (minI n (F.s ((c).toNat))))) scal_int16 hb (Fld.sets _ _ (by omega) _) (by rw [Fld.size_cells]; omega) ?_
 intro w2 hb_ X1
 clear hb; have hb := hb_; clear hb_
 refine wpList_nil (then_normal ?_)
 refine wsr ?_
 refine wv (.int .i64 (minI n (F.s ((c).toNat)))) ?_
 refine wv (.int .i64 (minI n (F.s ((c).toNat)))) ?_
 refine wpList_nil (then_normal ?_)
 refine wp_ret ?_
 have H1 := ((Wr.of_ext (Ext.refl w)).trans (Wr.of_ext E1)).trans X1
 refine ret1 (.int .i64 (minI n (F.s c.toNat))) rfl ?_ rfl ?_
 · refine (resT (v := .int .i64 (minI n (F.s ((c).toNat)))) (by kernel_rfl)).trans ?_
   refine congrArg (Value.int _) ?_
   rfl
 refine ⟨rfl, ?_, H1⟩
 have hq : ((Fld.cells ({ F with s := upd F.s ((c).toNat) ((F.s ((c).toNat)) - (minI n (F.s ((c).toNat)))) })) : Array Value) = (Fld.cells ({ F with s := upd F.s c.toNat (F.s c.toNat - minI n (F.s c.toNat)) })) := by
   rfl
 rw [← hq]
 exact hb


--# sTakeSeeds_any
theorem sTakeSeeds_any (F : Fld) (hF : F.wf) (c : Int) (n : Int) (w : World) :
 Calls Try.prog 15 #[.agg F.cells, .int .i64 c, .int .i64 n] w fun e w' => e = .returned (.tuple #[.agg (Fld.cells (tookF F c n)), .int .i64 (tookN F c n), .int .i64 (code F (isB F c && decide (0 ≤ n)))]) ∧ Ext w w' := by
 refine calls_of_wp Try.func15 rfl ?_
 refine wp_frame (a' := ⟨#[.agg F.cells, .int .i64 c, .int .i64 n, undef, undef, undef, undef, undef, undef, undef, undef, undef, undef, undef, undef, undef, undef, undef, undef, undef, undef, undef, undef, undef, undef, undef, undef, undef, undef, undef, undef, undef, undef, undef, undef, undef, undef], []⟩) (by kernel_rfl) ?_
 refine wsr ?_
 refine wbox F.cells ?_
 intro g1 w1 B1 E1 hg_
 have lo_g1 := Nat.le_trans ((Ext.refl w)).size hg_
 have H1 := (Ext.refl w).trans E1
 refine wnew (Fld.cells Fld.zero) Try.zeroValue28 zero_impl_Field ?_
 intro g2 w2 B2 E2 hg_
 have q_g1_g2 := Nat.ne_of_lt (Nat.lt_of_lt_of_le B1.lt hg_)
 have lo_g2 := Nat.le_trans (H1).size hg_
 refine wv (.int .i64 0) ?_
 refine wv (.int .i64 0) ?_
 refine wpList_nil (then_normal ?_)
 refine wp_seq ?_
 refine wsr ?_
 refine wv (.int .i64 c) ?_
 refine wv (.int .i64 n) ?_
 refine wv (.bool (decide (0 ≤ n))) ?_
 replace B1 := B1.ext E2
 refine wcl (l01Asked_any F hF g1 _ c (decide (0 ≤ n)) (isB F c && (decide (0 ≤ n))) rfl _ B1) ?_
 intro w3 E3
 refine wv (.int .i64 (code F (isB F c && (decide (0 ≤ n))))) ?_
 refine wpList_nil (then_normal ?_)
 refine wsr ?_
 refine wv (.int .i64 (code F (isB F c && (decide (0 ≤ n))))) ?_
 refine wv (.bool ((code F (isB F c && (decide (0 ≤ n)))) != 0)) ?_
 refine wpList_nil (then_normal ?_)
 have H2 := (H1.trans E2).trans E3
 refine wsplit ((code F (isB F c && (decide (0 ≤ n)))) != 0) (fun h1 => ?_) (fun h1 => ?_)
 · skip
   have h1d := nT h1
   refine wsr ?_
   refine wvv (.agg Try.zeroCells28) (.agg (Fld.cells Fld.zero)) (congrArg Value.agg zero_impl_Field) ?_
   refine wv (.int .i64 (code F (isB F c && (decide (0 ≤ n))))) ?_
   replace B2 := B2.ext E3
   refine wput (Fld.cells Fld.zero) row_impl_Field B2 (by exact Fld.size_cells _) (by exact Fld.size_cells _) (by exact Fld.one_cells _) ?_
   intro w4 B2_ X1
   clear B2; have B2 := B2_; clear B2_
   refine wv (.int .i64 0) ?_
   refine wv (.int .i64 (code F (isB F c && (decide (0 ≤ n))))) ?_
   refine wpList_nil (then_normal ?_)
   refine wp_ret ?_
   refine then_ret ?_
   have H3 := X1.ext w lo_g2 H2
   refine ret3 (.agg (Fld.cells (tookF F c n))) (.int .i64 (tookN F c n)) (.int .i64 (code F (isB F c && decide (0 ≤ n)))) rfl ?_ ?_ ?_ rfl ?_
   · refine ⟨g2, 28, (Fld.cells Fld.zero), _, by kernel_rfl, B2, row_impl_Field, ?_, ?_⟩
     · exact Fld.size_cells _
     · show (.agg (Fld.cells (tookF F c n)) : Value) = (.agg (Fld.cells Fld.zero))
       refine congrArg Value.agg ?_
       first | rw [tookF_1 (by assumption)] | rw [tookF_2 (by assumption)]
   · refine (resT (v := .int .i64 0) (by kernel_rfl)).trans ?_
     refine congrArg (Value.int _) ?_
     first | exact (tookN_1 (by assumption)).symm | exact (tookN_2 (by assumption)).symm
   · refine (resT (v := .int .i64 (code F (isB F c && (decide (0 ≤ n))))) (by kernel_rfl)).trans ?_
     refine congrArg (Value.int _) ?_
     first | (rw [if_pos (by assumption)]; done) | (rw [if_neg (by assumption)]; done) | rfl | assumption | (symm; assumption)
   exact ⟨rfl, H3⟩
 · skip
   have h1d := nF h1
   have h1o := (code_zero h1d).1
   have h1z := (code_zero h1d).2
   obtain ⟨h1za, h1zb⟩ := andT h1z
   have h1zad := isB_true.1 h1za
   have h1zbd := dT h1zb
   refine wp_skip ?_
   refine then_normal ?_
   refine wsr ?_
   refine wv (.int .i64 n) ?_
   refine wv (.int .i64 c) ?_
   refine wv (.pointer (some ⟨g1, 102, none⟩)) ?_
   refine wix g1 102 c .i64 arrt__100_int16 ?_
   replace B1 := B1.ext E3
   have ce1 := hF.s1 ((c).toNat) (by omega)
   have ce2 := ok_cell h1o ((c).toNat) (by omega)
   refine wld g1 (102 + (c).toNat) scal_int16 (B1.get (Fld.gets _ _ (by omega))) ?_
   refine wi64 (F.s ((c).toNat)) ?_
   refine wcl (l00Min_any n (F.s ((c).toNat)) _) ?_
   intro w5 E4
   have mi1 := minI_b n (F.s ((c).toNat))
   refine wv (.int .i64 (minI n (F.s ((c).toNat)))) ?_
   refine wpList_nil (then_normal ?_)
   refine wsr ?_
   refine wv (.int .i64 c) ?_
   refine wv (.pointer (some ⟨g1, 102, none⟩)) ?_
   refine wix g1 102 c .i64 arrt__100_int16 ?_
   replace B1 := B1.ext E4
   have ce3 := hF.s1 ((c).toNat) (by omega)
   have ce4 := ok_cell h1o ((c).toNat) (by omega)
   refine wld g1 (102 + (c).toNat) scal_int16 (B1.get (Fld.gets _ _ (by omega))) ?_
   refine wv (.int .i64 (minI n (F.s ((c).toNat)))) ?_
   refine wi16 (minI n (F.s ((c).toNat))) ?_
   refine wi16 ((F.s ((c).toNat)) - (minI n (F.s ((c).toNat)))) ?_
   refine wv (.pointer (some ⟨g1, 102, none⟩)) ?_
   refine wix g1 102 c .i64 arrt__100_int16 ?_
   refine wst g1 (102 + (c).toNat) (.int .i16 ((F.s ((c).toNat)) - (minI n (F.s ((c).toNat))))) scal_int16 B1 (Fld.sets _ _ (by omega) _) (by rw [Fld.size_cells]; omega) ?_
   intro w6 B1_ X2
   clear B1; have B1 := B1_; clear B1_
   refine wpList_nil (then_normal ?_)
   refine wsr ?_
   refine wrow row_impl_Field B1 (by exact Fld.size_cells _) ?_
   refine wv (.int .i64 (minI n (F.s ((c).toNat)))) ?_
   replace B2 := X2.blk ((B2.ext E3).ext E4) (Ne.symm q_g1_g2)
   refine wput (Fld.cells ({ F with s := upd F.s ((c).toNat) ((F.s ((c).toNat)) - (minI n (F.s ((c).toNat)))) })) row_impl_Field B2 (by exact Fld.size_cells _) (by exact Fld.size_cells _) (by exact Fld.one_cells _) ?_
   intro w7 B2_ X3
   clear B2; have B2 := B2_; clear B2_
   refine wv (.int .i64 (minI n (F.s ((c).toNat)))) ?_
   refine wv (.int .i64 0) ?_
   refine wpList_nil (then_normal ?_)
   refine wp_frame (a' := ⟨#[.agg F.cells, .int .i64 c, .int .i64 n, .pointer (some ⟨g1, 0, none⟩), undef, undef, .pointer (some ⟨g2, 0, none⟩), .int .i64 (minI n (F.s ((c).toNat))), .int .i64 0, .int .i64 (code F (isB F c && (decide (0 ≤ n)))), .int .i64 (minI n (F.s ((c).toNat))), .int .i64 c, .int .i64 n, .bool (decide (0 ≤ n)), .int .i64 (code F (isB F c && (decide (0 ≤ n)))), .int .i64 (code F (isB F c && (decide (0 ≤ n)))), .bool ((code F (isB F c && (decide (0 ≤ n)))) != 0), undef, undef, .int .i64 n, .int .i64 c, .pointer (some ⟨g1, 102, none⟩), .pointer (some ⟨g1, 102 + (c).toNat, none⟩), .int .i16 (F.s ((c).toNat)), .int .i64 (F.s ((c).toNat)), .int .i64 (minI n (F.s ((c).toNat))), .int .i64 c, .pointer (some ⟨g1, 102, none⟩), .pointer (some ⟨g1, 102 + (c).toNat, none⟩), .int .i16 (F.s ((c).toNat)), .int .i64 (minI n (F.s ((c).toNat))), .int .i16 (minI n (F.s ((c).toNat))), .int .i16 ((F.s ((c).toNat)) - (minI n (F.s ((c).toNat)))), .pointer (some ⟨g1, 102, none⟩), .pointer (some ⟨g1, 102 + (c).toNat, none⟩), .agg (Fld.cells ({ F with s := upd F.s ((c).toNat) ((F.s ((c).toNat)) - (minI n (F.s ((c).toNat)))) })), .int .i64 (minI n (F.s ((c).toNat)))], []⟩) (by kernel_rfl) ?_
   refine wp_ret ?_
   have H4 := X3.ext w lo_g2 (X2.ext w lo_g1 (H2.trans E4))
   refine ret3 (.agg (Fld.cells (tookF F c n))) (.int .i64 (tookN F c n)) (.int .i64 (code F (isB F c && decide (0 ≤ n)))) rfl ?_ ?_ ?_ rfl ?_
   · refine ⟨g2, 28, (Fld.cells ({ F with s := upd F.s ((c).toNat) ((F.s ((c).toNat)) - (minI n (F.s ((c).toNat)))) })), _, by kernel_rfl, B2, row_impl_Field, ?_, ?_⟩
     · exact Fld.size_cells _
     · show (.agg (Fld.cells (tookF F c n)) : Value) = (.agg (Fld.cells ({ F with s := upd F.s ((c).toNat) ((F.s ((c).toNat)) - (minI n (F.s ((c).toNat)))) })))
       refine congrArg Value.agg ?_
       first | rw [tookF_1 (by assumption)] | rw [tookF_2 (by assumption)]
   · refine (resT (v := .int .i64 (minI n (F.s ((c).toNat)))) (by kernel_rfl)).trans ?_
     refine congrArg (Value.int _) ?_
     first | exact (tookN_1 (by assumption)).symm | exact (tookN_2 (by assumption)).symm
   · refine (resT (v := .int .i64 0) (by kernel_rfl)).trans ?_
     refine congrArg (Value.int _) ?_
     first | (rw [if_pos (by assumption)]; done) | (rw [if_neg (by assumption)]; done) | rfl | assumption | (symm; assumption)
   exact ⟨rfl, H4⟩


--# iTakeSeeds_any
theorem iTakeSeeds_any (F : Fld) (hF : F.wf) (c : Int) (n : Int) (w : World) :
 Calls Try.prog 17 #[.agg F.cells, .int .i64 c, .int .i64 n] w fun e w' => e = .returned (.tuple #[.agg (Fld.cells (tookF F c n)), .int .i64 (tookN F c n), .int .i64 (code F (isB F c && decide (0 ≤ n)))]) ∧ Ext w w' := by
 refine calls_of_wp Try.func17 rfl ?_
 refine wp_frame (a' := ⟨#[.agg F.cells, .int .i64 c, .int .i64 n, undef, undef, undef, undef, undef, undef, undef, undef, undef, undef, undef, undef, undef, undef, undef, undef, undef, undef, undef], []⟩) (by kernel_rfl) ?_
 refine wsr ?_
 refine wbox F.cells ?_
 intro g1 w1 B1 E1 hg_
 have lo_g1 := Nat.le_trans ((Ext.refl w)).size hg_
 have H1 := (Ext.refl w).trans E1
 refine wboxv (.int .i64 c) ?_
 intro g2 w2 B2 E2 hg_
 have q_g1_g2 := Nat.ne_of_lt (Nat.lt_of_lt_of_le B1.lt hg_)
 have lo_g2 := Nat.le_trans (H1).size hg_
 have H2 := H1.trans E2
 replace B1 := B1.ext E2
 refine wboxv (.int .i64 n) ?_
 intro g3 w3 B3 E3 hg_
 have q_g1_g3 := Nat.ne_of_lt (Nat.lt_of_lt_of_le B1.lt hg_)
 have q_g2_g3 := Nat.ne_of_lt (Nat.lt_of_lt_of_le B2.lt hg_)
 have lo_g3 := Nat.le_trans (H2).size hg_
 have H3 := H2.trans E3
 replace B1 := B1.ext E3
 replace B2 := B2.ext E3
 refine wnew (Fld.cells Fld.zero) Try.zeroValue28 zero_impl_Field ?_
 intro g4 w4 B4 E4 hg_
 have q_g1_g4 := Nat.ne_of_lt (Nat.lt_of_lt_of_le B1.lt hg_)
 have q_g2_g4 := Nat.ne_of_lt (Nat.lt_of_lt_of_le B2.lt hg_)
 have q_g3_g4 := Nat.ne_of_lt (Nat.lt_of_lt_of_le B3.lt hg_)
 have lo_g4 := Nat.le_trans (H3).size hg_
 refine wv (.int .i64 0) ?_
 refine wv (.int .i64 0) ?_
 refine wpList_nil (then_normal ?_)
 refine wp_seq ?_
 refine wsr ?_
 refine wv (.func (.func 62) #[] #[.pointer (some ⟨g1, 0, none⟩), .pointer (some ⟨g2, 0, none⟩), .pointer (some ⟨g3, 0, none⟩)]) ?_
 replace B1 := B1.ext E4
 replace B2 := B2.ext E4
 replace B3 := B3.ext E4
 refine wcl (fieldCode_any F hF g1 _ (.func (.func 62) #[] #[.pointer (some ⟨g1, 0, none⟩), .pointer (some ⟨g2, 0, none⟩), .pointer (some ⟨g3, 0, none⟩)]) 62 #[.pointer (some ⟨g1, 0, none⟩), .pointer (some ⟨g2, 0, none⟩), .pointer (some ⟨g3, 0, none⟩)] (fun _ => by kernel_rfl) (isB F c && decide (0 ≤ n)) _ B1 (fun _ E_ => TakeSeeds1_any F hF g1 _ c g2 _ n g3 _ _ (B1.ext E_) (B2.ext E_) (B3.ext E_))) ?_
 intro w5 E5
 refine wv (.int .i64 (code F (isB F c && decide (0 ≤ n)))) ?_
 refine wpList_nil (then_normal ?_)
 refine wsr ?_
 refine wv (.int .i64 (code F (isB F c && decide (0 ≤ n)))) ?_
 refine wv (.bool ((code F (isB F c && decide (0 ≤ n))) != 0)) ?_
 refine wpList_nil (then_normal ?_)
 have H4 := (H3.trans E4).trans E5
 refine wsplit ((code F (isB F c && decide (0 ≤ n))) != 0) (fun h1 => ?_) (fun h1 => ?_)
 · skip
   have h1d := nT h1
   refine wsr ?_
   refine wvv (.agg Try.zeroCells28) (.agg (Fld.cells Fld.zero)) (congrArg Value.agg zero_impl_Field) ?_
   refine wv (.int .i64 (code F (isB F c && decide (0 ≤ n)))) ?_
   replace B4 := B4.ext E5
   refine wput (Fld.cells Fld.zero) row_impl_Field B4 (by exact Fld.size_cells _) (by exact Fld.size_cells _) (by exact Fld.one_cells _) ?_
   intro w6 B4_ X1
   clear B4; have B4 := B4_; clear B4_
   refine wv (.int .i64 0) ?_
   refine wv (.int .i64 (code F (isB F c && decide (0 ≤ n)))) ?_
   refine wpList_nil (then_normal ?_)
   refine wp_ret ?_
   refine then_ret ?_
   have H5 := X1.ext w lo_g4 H4
   refine ret3 (.agg (Fld.cells (tookF F c n))) (.int .i64 (tookN F c n)) (.int .i64 (code F (isB F c && decide (0 ≤ n)))) rfl ?_ ?_ ?_ rfl ?_
   · refine ⟨g4, 28, (Fld.cells Fld.zero), _, by kernel_rfl, B4, row_impl_Field, ?_, ?_⟩
     · exact Fld.size_cells _
     · show (.agg (Fld.cells (tookF F c n)) : Value) = (.agg (Fld.cells Fld.zero))
       refine congrArg Value.agg ?_
       first | rw [tookF_1 (by assumption)] | rw [tookF_2 (by assumption)]
   · refine (resT (v := .int .i64 0) (by kernel_rfl)).trans ?_
     refine congrArg (Value.int _) ?_
     first | exact (tookN_1 (by assumption)).symm | exact (tookN_2 (by assumption)).symm
   · exact resT (by kernel_rfl)
   exact ⟨rfl, H5⟩
 · skip
   have h1d := nF h1
   have h1o := (code_zero h1d).1
   have h1z := (code_zero h1d).2
   obtain ⟨h1za, h1zb⟩ := andT h1z
   have h1zad := isB_true.1 h1za
   have h1zbd := dT h1zb
   refine wp_skip ?_
   refine then_normal ?_
   refine wsr ?_
   replace B2 := B2.ext E5
   refine wld (v := .int .i64 c) g2 (0) scal_int64 (B2.get (rfl)) ?_
   replace B3 := B3.ext E5
   refine wld (v := .int .i64 n) g3 (0) scal_int64 (B3.get (rfl)) ?_
   replace B1 := B1.ext E5
   refine wcl (take_any F hF g1 _ c n (by omega) (by omega) (ok_cell h1o _ (by omega)).2.2.1 _ B1) ?_
   rintro w7 ⟨B1_, X2⟩
   clear B1; have B1 := B1_; clear B1_
   refine wv (.int .i64 (minI n (F.s c.toNat))) ?_
   refine wpList_nil (then_normal ?_)
   refine wsr ?_
   refine wrow row_impl_Field B1 (by exact Fld.size_cells _) ?_
   refine wv (.int .i64 (minI n (F.s c.toNat))) ?_
   replace B4 := X2.blk (B4.ext E5) (Ne.symm q_g1_g4)
   refine wput (Fld.cells ({ F with s := upd F.s c.toNat (F.s c.toNat - minI n (F.s c.toNat)) })) row_impl_Field B4 (by exact Fld.size_cells _) (by exact Fld.size_cells _) (by exact Fld.one_cells _) ?_
   intro w8 B4_ X3
   clear B4; have B4 := B4_; clear B4_
   refine wv (.int .i64 (minI n (F.s c.toNat))) ?_
   refine wv (.int .i64 0) ?_
   refine wpList_nil (then_normal ?_)
   refine wp_ret ?_
   have H6 := X3.ext w lo_g4 (X2.ext w lo_g1 H4)
   refine ret3 (.agg (Fld.cells (tookF F c n))) (.int .i64 (tookN F c n)) (.int .i64 (code F (isB F c && decide (0 ≤ n)))) rfl ?_ ?_ ?_ rfl ?_
   · refine ⟨g4, 28, (Fld.cells ({ F with s := upd F.s c.toNat (F.s c.toNat - minI n (F.s c.toNat)) })), _, by kernel_rfl, B4, row_impl_Field, ?_, ?_⟩
     · exact Fld.size_cells _
     · show (.agg (Fld.cells (tookF F c n)) : Value) = (.agg (Fld.cells ({ F with s := upd F.s c.toNat (F.s c.toNat - minI n (F.s c.toNat)) })))
       refine congrArg Value.agg ?_
       first | rw [tookF_1 (by assumption)] | rw [tookF_2 (by assumption)]
   · refine (resT (v := .int .i64 (minI n (F.s c.toNat))) (by kernel_rfl)).trans ?_
     refine congrArg (Value.int _) ?_
     first | exact (tookN_1 (by assumption)).symm | exact (tookN_2 (by assumption)).symm
   · refine (resT (v := .int .i64 0) (by kernel_rfl)).trans ?_
     refine congrArg (Value.int _) ?_
     first | (rw [if_pos (by assumption)]; done) | (rw [if_neg (by assumption)]; done) | rfl | assumption | (symm; assumption)
   exact ⟨rfl, H6⟩

end Go.Proofs.Ythiiampknelbjaa
