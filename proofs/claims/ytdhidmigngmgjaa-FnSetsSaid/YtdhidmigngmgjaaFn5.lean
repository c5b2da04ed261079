/-
  Contracts: cells for which something is so. No conditions.
-/
import Derived.Test.YtdhidmigngmgjaaTy
import Derived.Test.YtdhidmigngmgjaaSl
import Derived.Test.YtdhidmigngmgjaaMth
import Derived.Test.YtdhidmigngmgjaaFn4
namespace Go.Proofs.Ytdhidmigngmgjaa
open Go.RowKit
set_option linter.unusedSimpArgs false
set_option linter.unusedVariables false
set_option maxHeartbeats 4000000
set_option maxRecDepth 100000
attribute [local irreducible] wpList Code.wp
--# those_any
theorem those_any (F : Fld) (hF : F.wf) (b : Nat) (t : TypeId) (V : Value) (fn : FuncId) (full : Int → Array Value) (p : Int → Bool) (hV : ∀ c, Clo Try.prog V #[.int .i64 c] fn (full c)) (w : World) (hb : Blk w b t F.cells) (hc : ∀ c w', isB F c = true → Ext w w' → Calls Try.prog fn (full c) w' fun e w'' => e = .returned (.bool (p c)) ∧ Ext w' w'') :
 Calls Try.prog 73 #[.pointer (some ⟨b, 0, none⟩), V] w fun e w' => e = .returned (.agg #[.int .u64 ((setC F p 100).1), .int .u64 ((setC F p 100).2)]) ∧ Ext w w' := by
 refine calls_of_wp Try.func73 rfl ?_
 refine wp_frame (a' := ⟨#[.pointer (some ⟨b, 0, none⟩), V, undef, undef, undef, undef, undef, undef, undef, undef, undef, undef, undef, undef, undef, undef, undef, undef, undef, undef, undef, undef, undef], []⟩) (by kernel_rfl) ?_
 refine wsr ?_
 refine wnew #[.int .u64 0, .int .u64 0] Try.zeroValue33 rfl ?_
 intro g1 w1 B1 E1 hg_
 have q_b_g1 := Nat.ne_of_lt (Nat.lt_of_lt_of_le hb.lt hg_)
 have lo_g1 := Nat.le_trans ((Ext.refl w)).size hg_
 refine wpList_nil (then_normal ?_)
 refine wsr ?_
 refine wv (.agg #[.int .u64 0, .int .u64 0]) ?_
 have H1 := (Ext.refl w).trans E1
 replace hb := hb.ext E1
 refine wnew #[.int .u64 0, .int .u64 0] Try.zeroValue33 rfl ?_
 intro g2 w2 B2 E2 hg_
 have q_b_g2 := Nat.ne_of_lt (Nat.lt_of_lt_of_le hb.lt hg_)
 have q_g1_g2 := Nat.ne_of_lt (Nat.lt_of_lt_of_le B1.lt hg_)
 have lo_g2 := Nat.le_trans (H1).size hg_
 refine wput #[.int .u64 0, .int .u64 0] row_impl_Cells B2 (by rfl) (by rfl) (by kernel_rfl) ?_
 intro w3 B2_ X1
 clear B2; have B2 := B2_; clear B2_
 refine wpList_nil (then_normal ?_)
 refine wp_seq ?_
 refine wsr ?_
 refine wv (.pointer (some ⟨b, 0, none⟩)) ?_
 replace hb := X1.blk (hb.ext E2) q_b_g2
 replace B1 := X1.blk (B1.ext E2) q_g1_g2
 have H2 := X1.ext w lo_g2 (H1.trans E2)
 refine wcli (cells_any F hF b _ _ hb) ?_
 intro g3 cap1 cs1 w4 B3 S1 E3 hg_
 have q_b_g3 := Nat.ne_of_lt (Nat.lt_of_lt_of_le hb.lt hg_)
 have q_g1_g3 := Nat.ne_of_lt (Nat.lt_of_lt_of_le B1.lt hg_)
 have q_g2_g3 := Nat.ne_of_lt (Nat.lt_of_lt_of_le B2.lt hg_)
 have lo_g3 := Nat.le_trans (H2).size hg_
 have cl1 := cellsL_length F
 refine wv (.int .i64 ((cellsL F).length : Int)) ?_
 refine wv (.int .i64 0) ?_
 refine wpList_nil (then_normal ?_)
 refine wp_block ?_
 replace hb := hb.ext E3
 replace B1 := B1.ext E3
 replace B2 := B2.ext E3
 have H3 := H2.trans E3
 refine wp_loop_k (fun m1 a wl1 => ∃ (j : Nat), m1 = (cellsL F).length - j ∧ j ≤ (cellsL F).length ∧ Ext w wl1 ∧ Blk wl1 b t F.cells ∧ Blk wl1 g1 33 #[.int .u64 0, .int .u64 0] ∧ Blk wl1 g2 33 #[.int .u64 ((setT F p j).1), .int .u64 ((setT F p j).2)] ∧ Blk wl1 g3 2 cs1 ∧ (∃ J1 : Nat → Value, a = ⟨#[.pointer (some ⟨b, 0, none⟩), V, undef, undef, .pointer (some ⟨g1, 0, none⟩), .pointer (some ⟨g2, 0, none⟩), undef, J1 7, .agg #[.int .u64 0, .int .u64 0], .pointer (some ⟨b, 0, none⟩), .slice (some ⟨g3, 0, none⟩) ((cellsL F).length) cap1, .int .i64 ((cellsL F).length : Int), .int .i64 (j : Int), J1 13, J1 14, J1 15, J1 16, J1 17, J1 18, J1 19, J1 20, J1 21, undef], []⟩)) ((cellsL F).length) ?_ ?_
 · refine ⟨0, rfl, ?_, H3, hb, B1, ?_, B3, exJ (by kernel_rfl)⟩
   · omega
   · unfold setT; rw [foldT_0]; exact B2
 intro m1 a wl1 hI
 obtain ⟨j, rfl, hi_, HL1, hb, B1, B2, B3, J1, rfl⟩ := hI
 refine wsr ?_
 refine wv (.bool (decide ((j : Int) < ((cellsL F).length : Int)))) ?_
 refine wpList_nil (then_normal ?_)
 refine wp_seq ?_
 refine wsplit (decide ((j : Int) < ((cellsL F).length : Int))) (fun h1 => ?_) (fun h1 => ?_)
 · skip
   have h1d := dT h1
   refine wp_skip ?_
   refine then_normal ?_
   refine wp_seq ?_
   refine wp_block ?_
   refine wsr ?_
   refine wsix1 g3 0 ((cellsL F).length) cap1 j .i64 slit__int64 ?_
   have ce1 := cellsL_in (F := F) (j := j) (by omega)
   have ci1 := cellsL_is (F := F) (j := j) (by omega)
   refine wld g3 (0 + j) scal_int64 (B3.get (SlI.get S1 (by omega))) ?_
   refine wv (.int .i64 (atI (cellsL F) j)) ?_
   refine wpList_nil (then_normal ?_)
   refine wsr ?_
   refine wv V ?_
   refine wv (.int .i64 (atI (cellsL F) j)) ?_
   refine wcl (he := (Eq.trans (b := (callV V #[.int .i64 (atI (cellsL F) j)]).run Try.prog _) (by kernel_rfl) (hV (atI (cellsL F) j) _))) (hc (atI (cellsL F) j) _ (by first | assumption | omega) HL1) ?_
   intro w5 E4
   refine wpList_nil (then_normal ?_)
   have H4 := HL1.trans E4
   refine wsplit (p (atI (cellsL F) j)) (fun h2 => ?_) (fun h2 => ?_)
   · skip
     refine wp_region_lit ?_
     refine wv (.int .i64 (atI (cellsL F) j)) ?_
     replace B2 := B2.ext E4
     refine wcl (put_any ((setT F p j).1) ((setT F p j).2) g2 _ (atI (cellsL F) j) (by omega) _ B2) ?_
     rintro w6 ⟨B2_, X2⟩
     clear B2; have B2 := B2_; clear B2_
     refine wpList_nil (block_normal (then_normal ?_))
     refine wp_region_lit ?_
     refine wi64 ((j : Int) + 1) ?_
     refine wv (.int .i64 ((j : Int) + 1)) ?_
     refine wpList_nil (then_normal ?_)
     replace hb := X2.blk (hb.ext E4) q_b_g2
     replace B1 := X2.blk (B1.ext E4) q_g1_g2
     replace B3 := X2.blk (B3.ext E4) (Ne.symm q_g2_g3)
     have H5 := X2.ext w lo_g2 H4
     refine ⟨_, ?_, j + 1, rfl, ?_, H5, hb, B1, ?_, B3, exJ (by kernel_rfl)⟩
     · omega
     · omega
     · first | (rw [setT_1 (by omega) (by assumption)]; exact B2) | (rw [setT_2 (by omega) (by assumption)]; exact B2)
   · skip
     refine wp_skip ?_
     refine block_normal (then_normal ?_)
     refine wp_region_lit ?_
     refine wi64 ((j : Int) + 1) ?_
     refine wv (.int .i64 ((j : Int) + 1)) ?_
     refine wpList_nil (then_normal ?_)
     replace hb := hb.ext E4
     replace B1 := B1.ext E4
     replace B2 := B2.ext E4
     replace B3 := B3.ext E4
     refine ⟨_, ?_, j + 1, rfl, ?_, H4, hb, B1, ?_, B3, exJ (by kernel_rfl)⟩
     · omega
     · omega
     · first | (rw [setT_1 (by omega) (by assumption)]; exact B2) | (rw [setT_2 (by omega) (by assumption)]; exact B2)
 · skip
   have h1d := dF h1
   refine wp_exit ?_
   refine then_exit ?_
   refine then_exit ?_
   refine block_exit ?_
   refine then_normal ?_
   refine wsr ?_
   refine wrow row_impl_Cells B2 (by rfl) ?_
   refine wput #[.int .u64 ((setT F p j).1), .int .u64 ((setT F p j).2)] row_impl_Cells B1 (by rfl) (by rfl) (by kernel_rfl) ?_
   intro w7 B1_ X3
   clear B1; have B1 := B1_; clear B1_
   refine wpList_nil (then_normal ?_)
   refine wp_ret ?_
   have H6 := X3.ext w lo_g1 HL1
   refine ret1 (.agg #[.int .u64 ((setC F p 100).1), .int .u64 ((setC F p 100).2)]) rfl ?_ rfl ?_
   · refine ⟨g1, 33, #[.int .u64 ((setT F p j).1), .int .u64 ((setT F p j).2)], _, by kernel_rfl, B1, row_impl_Cells, ?_, ?_⟩
     · rfl
     · show (.agg #[.int .u64 ((setC F p 100).1), .int .u64 ((setC F p 100).2)] : Value) = (.agg #[.int .u64 ((setT F p j).1), .int .u64 ((setT F p j).2)])
       refine congrArg Value.agg ?_
       rw [setT_end (by omega)]
   exact ⟨rfl, H6⟩


--# ofKind1_any
theorem ofKind1_any (c : Int) (hc : 0 ≤ c ∧ c ≤ 99) (F : Fld) (hF : F.wf) (b0 : Nat) (t0 : TypeId) (bf : Nat) (tf : TypeId) (k : Int) (b1 : Nat) (t1 : TypeId) (w : World) (hb0 : Blk w b0 t0 #[.pointer (some ⟨bf, 0, none⟩)]) (hbf : Blk w bf tf F.cells) (hb1 : Blk w b1 t1 #[.int .i64 k]) :
 Calls Try.prog 75 #[.int .i64 c, .pointer (some ⟨b0, 0, none⟩), .pointer (some ⟨b1, 0, none⟩)] w fun e w' => e = .returned (.bool (F.k c.toNat == k)) ∧ Ext w w' := by
 refine calls_of_wp Try.func75 rfl ?_
 refine wp_frame (a' := ⟨#[.int .i64 c, .pointer (some ⟨b0, 0, none⟩), .pointer (some ⟨b1, 0, none⟩), undef, undef, undef, undef, undef, undef, undef, undef, undef, undef, undef], []⟩) (by kernel_rfl) ?_
 refine wsr ?_
 refine wv (.bool false) ?_
 refine wpList_nil (then_normal ?_)
 refine wp_seq ?_
 refine wp_frame (a' := ⟨#[.int .i64 c, .pointer (some ⟨b0, 0, none⟩), .pointer (some ⟨b1, 0, none⟩), undef, .bool false, undef, undef, undef, undef, undef, undef, undef, undef, undef], []⟩) (by kernel_rfl) ?_
 have ce1 := hF.k1 ((c).toNat) (by omega)
 refine region_go 10 [5, 6, 7, 8, 9, 10, 11, 12, 13, 4] [[], [], [0], [2], [3, 1], [4], [5], [], [6, 7], [8]]
  (fun i_ => ([.val (.pointer (some ⟨bf, 0, none⟩)), .val (.int .i64 c), .val (.pointer (some ⟨bf, 0, none⟩)), .val (.pointer (some ⟨bf, 2, none⟩)), .val (.pointer (some ⟨bf, 2 + (c).toNat, none⟩)), .val (.int .u8 (F.k ((c).toNat))), .val (.int .i64 (F.k ((c).toNat))), .val (.int .i64 k), .val (.bool ((F.k ((c).toNat)) == k)), .val (.bool ((F.k ((c).toNat)) == k))] : List Fct).getD i_ .any)
  (by kernel_rfl) (by kernel_rfl) (by decide) (by simp) rfl (all_succ (all_succ (all_succ (all_succ (all_succ (all_succ (all_succ (all_succ (all_succ (all_succ all_zero ?_) ?_) ?_) ?_) ?_) ?_) ?_) ?_) ?_) ?_) ?_
 · refine step0 rfl rfl rfl (fun wr hw => ?_)
   exact OpRun.cell (g := b0) (off := 0) (v := .pointer (some ⟨bf, 0, none⟩)) scal__impl_Field rfl (by kernel_rfl) ((hb0.ext hw).get (rfl)) ⟨Ext.refl _, rfl⟩
 · refine step0 rfl rfl rfl (fun wr hw => ?_)
   exact OpRun.val (.int .i64 c) (.int .i64 c) (by kernel_rfl) rfl ⟨Ext.refl _, rfl⟩
 · refine step1 rfl rfl rfl rfl (fun u0 wr hw h0 => ?_)
   cases h0
   exact OpRun.val (.pointer (some ⟨bf, 0, none⟩)) (.pointer (some ⟨bf, 0, none⟩)) (by kernel_rfl) rfl ⟨Ext.refl _, rfl⟩
 · refine step1 rfl rfl rfl rfl (fun u0 wr hw h0 => ?_)
   cases h0
   exact OpRun.val (.pointer (some ⟨bf, 2, none⟩)) (.pointer (some ⟨bf, 2, none⟩)) (by kernel_rfl) rfl ⟨Ext.refl _, rfl⟩
 · refine step2 rfl rfl rfl rfl rfl (fun u0 u1 wr hw h0 h1 => ?_)
   cases h0
   cases h1
   exact OpRun.ixa (i := c) (k := .i64) (g := bf) (off := 2) arrt__100_uint8 rfl (by kernel_rfl) (by kernel_rfl) (by omega) (by omega) ⟨Ext.refl _, rfl⟩
 · refine step1 rfl rfl rfl rfl (fun u0 wr hw h0 => ?_)
   cases h0
   exact OpRun.cell (g := bf) (off := 2 + (c).toNat) (v := .int .u8 (F.k ((c).toNat))) scal_uint8 rfl (by kernel_rfl) ((hbf.ext hw).get (Fld.getk _ _ (by omega))) ⟨Ext.refl _, rfl⟩
 · refine step1 rfl rfl rfl rfl (fun u0 wr hw h0 => ?_)
   cases h0
   exact OpRun.val (.int .i64 (IntKind.i64.wrap (F.k ((c).toNat)))) (.int .i64 (F.k ((c).toNat))) (by kernel_rfl) (by exact congrArg _ (IntWalk.i64_in _ (by omega))) ⟨Ext.refl _, rfl⟩
 · refine step0 rfl rfl rfl (fun wr hw => ?_)
   exact OpRun.cell (g := b1) (off := 0) (v := .int .i64 k) scal_int64 rfl (by kernel_rfl) ((hb1.ext hw).get (rfl)) ⟨Ext.refl _, rfl⟩
 · refine step2 rfl rfl rfl rfl rfl (fun u0 u1 wr hw h0 h1 => ?_)
   cases h0
   cases h1
   exact OpRun.val (.bool ((F.k ((c).toNat)) == k)) (.bool ((F.k ((c).toNat)) == k)) (by kernel_rfl) rfl ⟨Ext.refl _, rfl⟩
 · refine step1 rfl rfl rfl rfl (fun u0 wr hw h0 => ?_)
   cases h0
   exact OpRun.val (.bool ((F.k ((c).toNat)) == k)) (.bool ((F.k ((c).toNat)) == k)) (by kernel_rfl) rfl ⟨Ext.refl _, rfl⟩
 refine end10 (fun u0 u1 u2 u3 u4 u5 u6 u7 u8 u9 w1 E1 f0 f1 f2 f3 f4 f5 f6 f7 f8 f9 => ?_)
 cases f0
 cases f1
 cases f2
 cases f3
 cases f4
 cases f5
 cases f6
 cases f7
 cases f8
 cases f9
 refine wpList_nil (then_normal ?_)
 refine wp_ret ?_
 have H1 := (Ext.refl w).trans E1
 refine ret1 (.bool (F.k c.toNat == k)) rfl ?_ rfl ?_
 · refine (resT (v := .bool ((F.k ((c).toNat)) == k)) (by kernel_rfl)).trans ?_
   refine congrArg Value.bool ?_
   rfl
 exact ⟨rfl, H1⟩


--# ring1_any
theorem ring1_any (c : Int) (hc : 0 ≤ c ∧ c ≤ 99) (o : Int) (b1 : Nat) (t1 : TypeId) (m : Int) (b2 : Nat) (t2 : TypeId) (ho : 0 ≤ o ∧ o ≤ 99) (w : World) (hb1 : Blk w b1 t1 #[.int .i64 o]) (hb2 : Blk w b2 t2 #[.int .i64 m]) :
 Calls Try.prog 74 #[.int .i64 c, .pointer (some ⟨b1, 0, none⟩), .pointer (some ⟨b2, 0, none⟩)] w fun e w' => e = .returned (.bool (decide (sqr o c ≤ m))) ∧ Ext w w' := by
 refine calls_of_wp Try.func74 rfl ?_
 refine wp_frame (a' := ⟨#[.int .i64 c, .pointer (some ⟨b1, 0, none⟩), .pointer (some ⟨b2, 0, none⟩), undef, undef, undef, undef, undef, undef, undef], []⟩) (by kernel_rfl) ?_
 refine wsr ?_
 refine wv (.bool false) ?_
 refine wpList_nil (then_normal ?_)
 refine wp_seq ?_
 refine wp_frame (a' := ⟨#[.int .i64 c, .pointer (some ⟨b1, 0, none⟩), .pointer (some ⟨b2, 0, none⟩), undef, .bool false, undef, undef, undef, undef, undef], []⟩) (by kernel_rfl) ?_
 refine region_go 6 [5, 6, 7, 8, 9, 4] [[], [], [0, 1], [], [2, 3], [4]]
  (fun i_ => ([.val (.int .i64 o), .val (.int .i64 c), .val (.int .i64 (sqr o c)), .val (.int .i64 m), .val (.bool (decide ((sqr o c) ≤ m))), .val (.bool (decide ((sqr o c) ≤ m)))] : List Fct).getD i_ .any)
  (by kernel_rfl) (by kernel_rfl) (by decide) (by simp) rfl (all_succ (all_succ (all_succ (all_succ (all_succ (all_succ all_zero ?_) ?_) ?_) ?_) ?_) ?_) ?_
 · refine step0 rfl rfl rfl (fun wr hw => ?_)
   exact OpRun.cell (g := b1) (off := 0) (v := .int .i64 o) scal_int64 rfl (by kernel_rfl) ((hb1.ext hw).get (rfl)) ⟨Ext.refl _, rfl⟩
 · refine step0 rfl rfl rfl (fun wr hw => ?_)
   exact OpRun.val (.int .i64 c) (.int .i64 c) (by kernel_rfl) rfl ⟨Ext.refl _, rfl⟩
 · refine step2 rfl rfl rfl rfl rfl (fun u0 u1 wr hw h0 h1 => ?_)
   cases h0
   cases h1
   exact OpRun.call 46 #[.int .i64 o, .int .i64 c] (by kernel_rfl) ((square_any o c (by omega) (by omega) _).mono fun e w1 ⟨he, hb⟩ => ⟨_, he, hb, rfl⟩)
 · refine step0 rfl rfl rfl (fun wr hw => ?_)
   exact OpRun.cell (g := b2) (off := 0) (v := .int .i64 m) scal_int64 rfl (by kernel_rfl) ((hb2.ext hw).get (rfl)) ⟨Ext.refl _, rfl⟩
 · refine step2 rfl rfl rfl rfl rfl (fun u0 u1 wr hw h0 h1 => ?_)
   cases h0
   cases h1
   exact OpRun.val (.bool (decide ((sqr o c) ≤ m))) (.bool (decide ((sqr o c) ≤ m))) (by kernel_rfl) rfl ⟨Ext.refl _, rfl⟩
 · refine step1 rfl rfl rfl rfl (fun u0 wr hw h0 => ?_)
   cases h0
   exact OpRun.val (.bool (decide ((sqr o c) ≤ m))) (.bool (decide ((sqr o c) ≤ m))) (by kernel_rfl) rfl ⟨Ext.refl _, rfl⟩
 refine end6 (fun u0 u1 u2 u3 u4 u5 w1 E1 f0 f1 f2 f3 f4 f5 => ?_)
 cases f0
 cases f1
 cases f2
 cases f3
 cases f4
 cases f5
 refine wpList_nil (then_normal ?_)
 refine wp_ret ?_
 have H1 := (Ext.refl w).trans E1
 refine ret1 (.bool (decide (sqr o c ≤ m))) rfl ?_ rfl ?_
 · refine (resT (v := .bool (decide ((sqr o c) ≤ m))) (by kernel_rfl)).trans ?_
   refine congrArg Value.bool ?_
   rfl
 exact ⟨rfl, H1⟩


--# ofKind_any
theorem ofKind_any (F : Fld) (hF : F.wf) (b : Nat) (t : TypeId) (k : Int) (w : World) (hb : Blk w b t F.cells) :
 Calls Try.prog 64 #[.pointer (some ⟨b, 0, none⟩), .int .i64 k] w fun e w' => e = .returned (.agg #[.int .u64 ((setC F (fun c_ => F.k c_.toNat == k) 100).1), .int .u64 ((setC F (fun c_ => F.k c_.toNat == k) 100).2)]) ∧ Ext w w' := by
 refine calls_of_wp Try.func64 rfl ?_
 refine wp_frame (a' := ⟨#[.pointer (some ⟨b, 0, none⟩), .int .i64 k, undef, undef, undef, undef, undef, undef], []⟩) (by kernel_rfl) ?_
 refine wsr ?_
 refine wboxv (.pointer (some ⟨b, 0, none⟩)) ?_
 intro g1 w1 B1 E1 hg_
 have q_b_g1 := Nat.ne_of_lt (Nat.lt_of_lt_of_le hb.lt hg_)
 have lo_g1 := Nat.le_trans ((Ext.refl w)).size hg_
 have H1 := (Ext.refl w).trans E1
 replace hb := hb.ext E1
 refine wboxv (.int .i64 k) ?_
 intro g2 w2 B2 E2 hg_
 have q_b_g2 := Nat.ne_of_lt (Nat.lt_of_lt_of_le hb.lt hg_)
 have q_g1_g2 := Nat.ne_of_lt (Nat.lt_of_lt_of_le B1.lt hg_)
 have lo_g2 := Nat.le_trans (H1).size hg_
 have H2 := H1.trans E2
 replace hb := hb.ext E2
 replace B1 := B1.ext E2
 refine wnew #[.int .u64 0, .int .u64 0] Try.zeroValue33 rfl ?_
 intro g3 w3 B3 E3 hg_
 have q_b_g3 := Nat.ne_of_lt (Nat.lt_of_lt_of_le hb.lt hg_)
 have q_g1_g3 := Nat.ne_of_lt (Nat.lt_of_lt_of_le B1.lt hg_)
 have q_g2_g3 := Nat.ne_of_lt (Nat.lt_of_lt_of_le B2.lt hg_)
 have lo_g3 := Nat.le_trans (H2).size hg_
 refine wpList_nil (then_normal ?_)
 refine wsr ?_
 replace B1 := B1.ext E3
 refine wld (v := .pointer (some ⟨b, 0, none⟩)) g1 (0) scal__impl_Field (B1.get (rfl)) ?_
 refine wv (.func (.func 75) #[] #[.pointer (some ⟨g1, 0, none⟩), .pointer (some ⟨g2, 0, none⟩)]) ?_
 replace hb := hb.ext E3
 replace B2 := B2.ext E3
 refine wcl (those_any F hF b _ (.func (.func 75) #[] #[.pointer (some ⟨g1, 0, none⟩), .pointer (some ⟨g2, 0, none⟩)]) 75 (fun c_ => #[.int .i64 c_, .pointer (some ⟨g1, 0, none⟩), .pointer (some ⟨g2, 0, none⟩)]) (fun c_ => F.k c_.toNat == k) (fun _ _ => by kernel_rfl) _ hb (fun c_ _ I_ E_ => by have J_ := isB_true.1 I_; exact ofKind1_any c_ (by omega) F hF g1 _ b _ k g2 _ _ (B1.ext E_) (hb.ext E_) (B2.ext E_))) ?_
 intro w4 E4
 replace B3 := B3.ext E4
 refine wput #[.int .u64 ((setC F (fun c_ => F.k c_.toNat == k) 100).1), .int .u64 ((setC F (fun c_ => F.k c_.toNat == k) 100).2)] row_impl_Cells B3 (by rfl) (by rfl) (by kernel_rfl) ?_
 intro w5 B3_ X1
 clear B3; have B3 := B3_; clear B3_
 refine wpList_nil (then_normal ?_)
 refine wp_ret ?_
 have H3 := X1.ext w lo_g3 ((H2.trans E3).trans E4)
 refine ret1 (.agg #[.int .u64 ((setC F (fun c_ => F.k c_.toNat == k) 100).1), .int .u64 ((setC F (fun c_ => F.k c_.toNat == k) 100).2)]) rfl ?_ rfl ?_
 · refine ⟨g3, 33, #[.int .u64 ((setC F (fun c_ => F.k c_.toNat == k) 100).1), .int .u64 ((setC F (fun c_ => F.k c_.toNat == k) 100).2)], _, by kernel_rfl, B3, row_impl_Cells, ?_, ?_⟩
   · rfl
   · rfl
 exact ⟨rfl, H3⟩


--# ring_any
theorem ring_any (F : Fld) (hF : F.wf) (b : Nat) (t : TypeId) (o : Int) (m : Int) (ho : 0 ≤ o ∧ o ≤ 99) (w : World) (hb : Blk w b t F.cells) :
 Calls Try.prog 57 #[.pointer (some ⟨b, 0, none⟩), .int .i64 o, .int .i64 m] w fun e w' => e = .returned (.agg #[.int .u64 ((setC F (fun c_ => decide (sqr o c_ ≤ m)) 100).1), .int .u64 ((setC F (fun c_ => decide (sqr o c_ ≤ m)) 100).2)]) ∧ Ext w w' := by
 refine calls_of_wp Try.func57 rfl ?_
 refine wp_frame (a' := ⟨#[.pointer (some ⟨b, 0, none⟩), .int .i64 o, .int .i64 m, undef, undef, undef, undef, undef, undef, undef], []⟩) (by kernel_rfl) ?_
 refine wsr ?_
 refine wboxv (.int .i64 o) ?_
 intro g1 w1 B1 E1 hg_
 have q_b_g1 := Nat.ne_of_lt (Nat.lt_of_lt_of_le hb.lt hg_)
 have lo_g1 := Nat.le_trans ((Ext.refl w)).size hg_
 have H1 := (Ext.refl w).trans E1
 replace hb := hb.ext E1
 refine wboxv (.int .i64 m) ?_
 intro g2 w2 B2 E2 hg_
 have q_b_g2 := Nat.ne_of_lt (Nat.lt_of_lt_of_le hb.lt hg_)
 have q_g1_g2 := Nat.ne_of_lt (Nat.lt_of_lt_of_le B1.lt hg_)
 have lo_g2 := Nat.le_trans (H1).size hg_
 have H2 := H1.trans E2
 replace hb := hb.ext E2
 replace B1 := B1.ext E2
 refine wnew #[.int .u64 0, .int .u64 0] Try.zeroValue33 rfl ?_
 intro g3 w3 B3 E3 hg_
 have q_b_g3 := Nat.ne_of_lt (Nat.lt_of_lt_of_le hb.lt hg_)
 have q_g1_g3 := Nat.ne_of_lt (Nat.lt_of_lt_of_le B1.lt hg_)
 have q_g2_g3 := Nat.ne_of_lt (Nat.lt_of_lt_of_le B2.lt hg_)
 have lo_g3 := Nat.le_trans (H2).size hg_
 refine wpList_nil (then_normal ?_)
 refine wsr ?_
 refine wv (.pointer (some ⟨b, 0, none⟩)) ?_
 refine wv (.func (.func 74) #[] #[.pointer (some ⟨g1, 0, none⟩), .pointer (some ⟨g2, 0, none⟩)]) ?_
 replace hb := hb.ext E3
 replace B1 := B1.ext E3
 replace B2 := B2.ext E3
 refine wcl (those_any F hF b _ (.func (.func 74) #[] #[.pointer (some ⟨g1, 0, none⟩), .pointer (some ⟨g2, 0, none⟩)]) 74 (fun c_ => #[.int .i64 c_, .pointer (some ⟨g1, 0, none⟩), .pointer (some ⟨g2, 0, none⟩)]) (fun c_ => decide (sqr o c_ ≤ m)) (fun _ _ => by kernel_rfl) _ hb (fun c_ _ I_ E_ => by have J_ := isB_true.1 I_; exact ring1_any c_ (by omega) o g1 _ m g2 _ (by omega) _ (B1.ext E_) (B2.ext E_))) ?_
 intro w4 E4
 replace B3 := B3.ext E4
 refine wput #[.int .u64 ((setC F (fun c_ => decide (sqr o c_ ≤ m)) 100).1), .int .u64 ((setC F (fun c_ => decide (sqr o c_ ≤ m)) 100).2)] row_impl_Cells B3 (by rfl) (by rfl) (by kernel_rfl) ?_
 intro w5 B3_ X1
 clear B3; have B3 := B3_; clear B3_
 refine wpList_nil (then_normal ?_)
 refine wp_ret ?_
 have H3 := X1.ext w lo_g3 ((H2.trans E3).trans E4)
 refine ret1 (.agg #[.int .u64 ((setC F (fun c_ => decide (sqr o c_ ≤ m)) 100).1), .int .u64 ((setC F (fun c_ => decide (sqr o c_ ≤ m)) 100).2)]) rfl ?_ rfl ?_
 · refine ⟨g3, 33, #[.int .u64 ((setC F (fun c_ => decide (sqr o c_ ≤ m)) 100).1), .int .u64 ((setC F (fun c_ => decide (sqr o c_ ≤ m)) 100).2)], _, by kernel_rfl, B3, row_impl_Cells, ?_, ?_⟩
   · rfl
   · rfl
 exact ⟨rfl, H3⟩


--# l01Ring_any
theorem l01Ring_any (F : Fld) (hF : F.wf) (b : Nat) (t : TypeId) (o : Int) (m : Int) (ho : 0 ≤ o ∧ o ≤ 99) (w : World) (hb : Blk w b t F.cells) :
 Calls Try.prog 59 #[.pointer (some ⟨b, 0, none⟩), .int .i64 o, .int .i64 m] w fun e w' => e = .returned (.agg #[.int .u64 ((setC F (fun c_ => decide (sqr o c_ ≤ m)) 100).1), .int .u64 ((setC F (fun c_ => decide (sqr o c_ ≤ m)) 100).2)]) ∧ Ext w w' := by
 refine calls_of_wp Try.func59 rfl ?_
 refine wp_frame (a' := ⟨#[.pointer (some ⟨b, 0, none⟩), .int .i64 o, .int .i64 m, undef, undef, undef, undef, undef, undef, undef, undef, undef, undef, undef, undef, undef, undef, undef, undef, undef, undef, undef, undef, undef, undef, undef, undef], []⟩) (by kernel_rfl) ?_
 refine wsr ?_
 refine wnew #[.int .u64 0, .int .u64 0] Try.zeroValue33 rfl ?_
 intro g1 w1 B1 E1 hg_
 have q_b_g1 := Nat.ne_of_lt (Nat.lt_of_lt_of_le hb.lt hg_)
 have lo_g1 := Nat.le_trans ((Ext.refl w)).size hg_
 refine wpList_nil (then_normal ?_)
 refine wsr ?_
 refine wv (.agg #[.int .u64 0, .int .u64 0]) ?_
 have H1 := (Ext.refl w).trans E1
 replace hb := hb.ext E1
 refine wnew #[.int .u64 0, .int .u64 0] Try.zeroValue33 rfl ?_
 intro g2 w2 B2 E2 hg_
 have q_b_g2 := Nat.ne_of_lt (Nat.lt_of_lt_of_le hb.lt hg_)
 have q_g1_g2 := Nat.ne_of_lt (Nat.lt_of_lt_of_le B1.lt hg_)
 have lo_g2 := Nat.le_trans (H1).size hg_
 refine wput #[.int .u64 0, .int .u64 0] row_impl_Cells B2 (by rfl) (by rfl) (by kernel_rfl) ?_
 intro w3 B2_ X1
 clear B2; have B2 := B2_; clear B2_
 refine wpList_nil (then_normal ?_)
 refine wp_seq ?_
 refine wsr ?_
 refine wv (.int .i64 0) ?_
 refine wpList_nil (then_normal ?_)
 refine wp_block ?_
 replace hb := X1.blk (hb.ext E2) q_b_g2
 replace B1 := X1.blk (B1.ext E2) q_g1_g2
 have H2 := X1.ext w lo_g2 (H1.trans E2)
 refine wp_loop_k (fun m1 a wl1 => ∃ (i : Nat), m1 = 100 - i ∧ i ≤ 100 ∧ Ext w wl1 ∧ Blk wl1 b t F.cells ∧ Blk wl1 g1 33 #[.int .u64 0, .int .u64 0] ∧ Blk wl1 g2 33 #[.int .u64 ((setC F (fun c_ => decide (sqr o c_ ≤ m)) i).1), .int .u64 ((setC F (fun c_ => decide (sqr o c_ ≤ m)) i).2)] ∧ (∃ J1 : Nat → Value, a = ⟨#[.pointer (some ⟨b, 0, none⟩), .int .i64 o, .int .i64 m, undef, undef, undef, .pointer (some ⟨g1, 0, none⟩), .pointer (some ⟨g2, 0, none⟩), .int .i64 (i : Int), .agg #[.int .u64 0, .int .u64 0], J1 10, J1 11, J1 12, J1 13, J1 14, J1 15, J1 16, J1 17, J1 18, J1 19, J1 20, J1 21, J1 22, J1 23, J1 24, J1 25, undef], []⟩)) (100) ?_ ?_
 · refine ⟨0, rfl, ?_, H2, hb, B1, ?_, exJ (by kernel_rfl)⟩
   · omega
   · unfold setC; rw [foldC_0]; exact B2
 intro m1 a wl1 hI
 obtain ⟨i, rfl, hi_, HL1, hb, B1, B2, J1, rfl⟩ := hI
 refine wp_seq ?_
 refine wsr ?_
 refine wv (.int .i64 (i : Int)) ?_
 refine wv (.bool (decide ((i : Int) < 100))) ?_
 refine wpList_nil (then_normal ?_)
 refine wsplit (decide ((i : Int) < 100)) (fun h1 => ?_) (fun h1 => ?_)
 · skip
   have h1d := dT h1
   refine wp_skip ?_
   refine then_normal ?_
   refine wp_seq ?_
   refine wp_block ?_
   refine wsr ?_
   refine wv (.pointer (some ⟨b, 0, none⟩)) ?_
   refine wv (.int .i64 (i : Int)) ?_
   refine wcl (l01Is_any F hF b _ (i : Int) _ hb) ?_
   intro w4 E3
   refine wv (.bool (isB F (i : Int))) ?_
   have H3 := HL1.trans E3
   refine split_bool (isB F (i : Int)) (fun h2 => ?_) (fun h2 => ?_)
   · skip
     refine wbl 17 true h2 ?_
     have h2d := isB_true.1 h2
     refine wv (.int .i64 o) ?_
     refine wv (.int .i64 (i : Int)) ?_
     refine wcl (l01Square_any o (i : Int) (by omega) (by omega) _) ?_
     intro w5 E4
     refine wv (.int .i64 m) ?_
     refine wv (.bool (decide ((sqr o (i : Int)) ≤ m))) ?_
     refine wv (.bool (decide ((sqr o (i : Int)) ≤ m))) ?_
     refine wpList_nil (then_normal ?_)
     have H4 := H3.trans E4
     refine wsplit (decide ((sqr o (i : Int)) ≤ m)) (fun h3 => ?_) (fun h3 => ?_)
     · skip
       have h3d := dT h3
       refine wp_region_lit ?_
       refine wv (.int .i64 (i : Int)) ?_
       replace B2 := (B2.ext E3).ext E4
       refine wcl (l01Put_any ((setC F (fun c_ => decide (sqr o c_ ≤ m)) i).1) ((setC F (fun c_ => decide (sqr o c_ ≤ m)) i).2) g2 _ (i : Int) (by omega) _ B2) ?_
       rintro w6 ⟨B2_, X2⟩
       clear B2; have B2 := B2_; clear B2_
       refine wpList_nil (block_normal (then_normal ?_))
       refine wp_region_lit ?_
       refine wv (.int .i64 (i : Int)) ?_
       refine wi64 ((i : Int) + 1) ?_
       refine wv (.int .i64 ((i : Int) + 1)) ?_
       refine wpList_nil (then_normal ?_)
       replace hb := X2.blk ((hb.ext E3).ext E4) q_b_g2
       replace B1 := X2.blk ((B1.ext E3).ext E4) q_g1_g2
       have H5 := X2.ext w lo_g2 H4
       refine ⟨_, ?_, i + 1, rfl, ?_, H5, hb, B1, ?_, exJ (by kernel_rfl)⟩
       · omega
       · omega
       · first | (rw [setC_2 (by assumption)]; exact B2) | (rw [setC_3 (by assumption) (by first | exact decide_eq_false (by omega) | assumption)]; exact B2) | (rw [setC_1 (by assumption) (by first | exact decide_eq_true (by omega) | assumption)]; exact B2)
     · skip
       have h3d := dF h3
       refine wp_skip ?_
       refine block_normal (then_normal ?_)
       refine wp_region_lit ?_
       refine wv (.int .i64 (i : Int)) ?_
       refine wi64 ((i : Int) + 1) ?_
       refine wv (.int .i64 ((i : Int) + 1)) ?_
       refine wpList_nil (then_normal ?_)
       replace hb := (hb.ext E3).ext E4
       replace B1 := (B1.ext E3).ext E4
       replace B2 := (B2.ext E3).ext E4
       refine ⟨_, ?_, i + 1, rfl, ?_, H4, hb, B1, ?_, exJ (by kernel_rfl)⟩
       · omega
       · omega
       · first | (rw [setC_2 (by assumption)]; exact B2) | (rw [setC_3 (by assumption) (by first | exact decide_eq_false (by omega) | assumption)]; exact B2) | (rw [setC_1 (by assumption) (by first | exact decide_eq_true (by omega) | assumption)]; exact B2)
   · skip
     refine wbl 17 false h2 ?_
     refine wsk ?_
     refine wsk ?_
     refine wsk ?_
     refine wsk ?_
     refine wsk ?_
     refine wv (.bool false) ?_
     refine wpList_nil (then_normal ?_)
     refine wcf ?_
     refine wp_skip ?_
     refine block_normal (then_normal ?_)
     refine wp_region_lit ?_
     refine wv (.int .i64 (i : Int)) ?_
     refine wi64 ((i : Int) + 1) ?_
     refine wv (.int .i64 ((i : Int) + 1)) ?_
     refine wpList_nil (then_normal ?_)
     replace hb := hb.ext E3
     replace B1 := B1.ext E3
     replace B2 := B2.ext E3
     refine ⟨_, ?_, i + 1, rfl, ?_, H3, hb, B1, ?_, exJ (by kernel_rfl)⟩
     · omega
     · omega
     · first | (rw [setC_2 (by assumption)]; exact B2) | (rw [setC_3 (by assumption) (by first | exact decide_eq_false (by omega) | assumption)]; exact B2) | (rw [setC_1 (by assumption) (by first | exact decide_eq_true (by omega) | assumption)]; exact B2)
 · skip
   have h1d := dF h1
   refine wp_exit ?_
   refine then_exit ?_
   refine then_exit ?_
   refine block_exit ?_
   refine then_normal ?_
   refine wsr ?_
   refine wrow row_impl_Cells B2 (by rfl) ?_
   refine wput #[.int .u64 ((setC F (fun c_ => decide (sqr o c_ ≤ m)) i).1), .int .u64 ((setC F (fun c_ => decide (sqr o c_ ≤ m)) i).2)] row_impl_Cells B1 (by rfl) (by rfl) (by kernel_rfl) ?_
   intro w7 B1_ X3
   clear B1; have B1 := B1_; clear B1_
   refine wpList_nil (then_normal ?_)
   refine wp_ret ?_
   have H6 := X3.ext w lo_g1 HL1
   refine ret1 (.agg #[.int .u64 ((setC F (fun c_ => decide (sqr o c_ ≤ m)) 100).1), .int .u64 ((setC F (fun c_ => decide (sqr o c_ ≤ m)) 100).2)]) rfl ?_ rfl ?_
   · refine ⟨g1, 33, #[.int .u64 ((setC F (fun c_ => decide (sqr o c_ ≤ m)) i).1), .int .u64 ((setC F (fun c_ => decide (sqr o c_ ≤ m)) i).2)], _, by kernel_rfl, B1, row_impl_Cells, ?_, ?_⟩
     · rfl
     · show (.agg #[.int .u64 ((setC F (fun c_ => decide (sqr o c_ ≤ m)) 100).1), .int .u64 ((setC F (fun c_ => decide (sqr o c_ ≤ m)) 100).2)] : Value) = (.agg #[.int .u64 ((setC F (fun c_ => decide (sqr o c_ ≤ m)) i).1), .int .u64 ((setC F (fun c_ => decide (sqr o c_ ≤ m)) i).2)])
       refine congrArg Value.agg ?_
       rw [show i = 100 by omega]
   exact ⟨rfl, H6⟩


--# first_any
theorem first_any (F : Fld) (hF : F.wf) (b : Nat) (t : TypeId) (x y : Int) (V : Value) (fn : FuncId) (full : Int → Int → Array Value) (bf : Int → Int → Bool) (hV : ∀ a b, Clo Try.prog V #[.int .i64 a, .int .i64 b] fn (full a b)) (w : World) (hb : Blk w b t F.cells) (hc : ∀ a b w', isB F a = true → isB F b = true → Ext w w' → Calls Try.prog fn (full a b) w' fun e w'' => e = .returned (.bool (bf a b)) ∧ Ext w' w'') :
 Calls Try.prog 51 #[.pointer (some ⟨b, 0, none⟩), .agg #[.int .u64 x, .int .u64 y], V] w fun e w' => e = .returned (.int .i64 (firstC F x y bf 100)) ∧ Ext w w' := by
 refine calls_of_wp Try.func51 rfl ?_
 refine wp_frame (a' := ⟨#[.pointer (some ⟨b, 0, none⟩), .agg #[.int .u64 x, .int .u64 y], V, undef, undef, undef, undef, undef, undef, undef, undef, undef, undef, undef, undef, undef, undef, undef, undef, undef, undef, undef, undef, undef, undef, undef, undef, undef, undef, undef, undef, undef, undef], []⟩) (by kernel_rfl) ?_
 refine wsr ?_
 refine wbox #[.int .u64 x, .int .u64 y] ?_
 intro g1 w1 B1 E1 _
 refine wv (.int .i64 0) ?_
 refine wpList_nil (then_normal ?_)
 refine wsr ?_
 refine wv (.int .i64 (-1)) ?_
 refine wpList_nil (then_normal ?_)
 refine wp_seq ?_
 refine wsr ?_
 refine wv (.pointer (some ⟨b, 0, none⟩)) ?_
 replace hb := hb.ext E1
 have H1 := (Ext.refl w).trans E1
 refine wcli (cells_any F hF b _ _ hb) ?_
 intro g2 cap1 cs1 w2 B2 S1 E2 hg_
 have lo_g2 := Nat.le_trans (H1).size hg_
 have cl1 := cellsL_length F
 refine wv (.int .i64 ((cellsL F).length : Int)) ?_
 refine wv (.int .i64 0) ?_
 refine wpList_nil (then_normal ?_)
 refine wp_block ?_
 replace hb := hb.ext E2
 replace B1 := B1.ext E2
 have H2 := H1.trans E2
 refine wp_loop_k (fun m1 a wl1 => ∃ (j : Nat) (best : Int), m1 = (cellsL F).length - j ∧ j ≤ (cellsL F).length ∧ best = firstT F x y bf j ∧ Ext w wl1 ∧ Blk wl1 b t F.cells ∧ Blk wl1 g1 33 #[.int .u64 x, .int .u64 y] ∧ Blk wl1 g2 2 cs1 ∧ (∃ J1 : Nat → Value, a = ⟨#[.pointer (some ⟨b, 0, none⟩), .agg #[.int .u64 x, .int .u64 y], V, undef, .pointer (some ⟨g1, 0, none⟩), undef, .int .i64 0, .int .i64 best, undef, J1 9, .pointer (some ⟨b, 0, none⟩), .slice (some ⟨g2, 0, none⟩) ((cellsL F).length) cap1, .int .i64 ((cellsL F).length : Int), .int .i64 (j : Int), J1 14, J1 15, J1 16, J1 17, J1 18, J1 19, J1 20, J1 21, J1 22, J1 23, J1 24, J1 25, J1 26, J1 27, J1 28, J1 29, J1 30, J1 31, undef], []⟩)) ((cellsL F).length) ?_ ?_
 · refine ⟨0, (-1), rfl, ?_, ?_, H2, hb, B1, B2, exJ (by kernel_rfl)⟩
   · omega
   · exact firstT_0
 intro m1 a wl1 hI
 obtain ⟨j, best, rfl, hi_, hb_, HL1, hb, B1, B2, J1, rfl⟩ := hI
 have hbi_ := firstT_is hb_
 have hbn_ := is_in hbi_
 refine wsr ?_
 refine wv (.bool (decide ((j : Int) < ((cellsL F).length : Int)))) ?_
 refine wpList_nil (then_normal ?_)
 refine wp_seq ?_
 refine wsplit (decide ((j : Int) < ((cellsL F).length : Int))) (fun h1 => ?_) (fun h1 => ?_)
 · skip
   have h1d := dT h1
   refine wp_skip ?_
   refine then_normal ?_
   refine wp_seq ?_
   refine wp_block ?_
   refine wsr ?_
   refine wsix1 g2 0 ((cellsL F).length) cap1 j .i64 slit__int64 ?_
   have ce1 := cellsL_in (F := F) (j := j) (by omega)
   have ci1 := cellsL_is (F := F) (j := j) (by omega)
   refine wld g2 (0 + j) scal_int64 (B2.get (SlI.get S1 (by omega))) ?_
   refine wv (.int .i64 (atI (cellsL F) j)) ?_
   refine wpList_nil (then_normal ?_)
   refine wsr ?_
   refine wrow row_impl_Cells B1 (by rfl) ?_
   refine wv (.int .i64 (atI (cellsL F) j)) ?_
   refine wcl (iHasCell_any x y (atI (cellsL F) j) _) ?_
   intro w3 E3
   refine wv (.bool (hasB x y (atI (cellsL F) j))) ?_
   refine split_bool (hasB x y (atI (cellsL F) j)) (fun h2 => ?_) (fun h2 => ?_)
   · skip
     refine wbl 20 true h2 ?_
     refine wv (.int .i64 best) ?_
     refine wv (.bool (decide (best < 0))) ?_
     refine wv (.bool (decide (best < 0))) ?_
     refine split_bool (decide (best < 0)) (fun h3 => ?_) (fun h3 => ?_)
     · skip
       refine wbl 23 true h3 ?_
       have h3d := dT h3
       refine wsk ?_
       refine wsk ?_
       refine wsk ?_
       refine wsk ?_
       refine wv (.bool true) ?_
       refine wv (.bool true) ?_
       refine wpList_nil (then_normal ?_)
       refine wct ?_
       refine wp_region_lit ?_
       refine wv (.int .i64 (atI (cellsL F) j)) ?_
       refine wv (.int .i64 (atI (cellsL F) j)) ?_
       refine wpList_nil (block_normal (then_normal ?_))
       refine wp_region_lit ?_
       refine wi64 ((j : Int) + 1) ?_
       refine wv (.int .i64 ((j : Int) + 1)) ?_
       refine wpList_nil (then_normal ?_)
       replace hb := hb.ext E3
       replace B1 := B1.ext E3
       replace B2 := B2.ext E3
       have H3 := HL1.trans E3
       refine ⟨_, ?_, j + 1, atI (cellsL F) j, rfl, ?_, ?_, H3, hb, B1, B2, exJ (by kernel_rfl)⟩
       · omega
       · omega
       · first | exact firstT_h hb_ (by omega) (by assumption) | exact firstT_b hb_ (by omega) (by assumption) (by omega) | exact firstT_t hb_ (by omega) (by assumption) (by assumption) | exact firstT_f hb_ (by omega) (by omega) (by assumption)
     · skip
       refine wbl 23 false h3 ?_
       have h3d := dF h3
       refine wv V ?_
       refine wv (.int .i64 (atI (cellsL F) j)) ?_
       refine wv (.int .i64 best) ?_
       have H4 := HL1.trans E3
       refine wcl (he := (Eq.trans (b := (callV V #[.int .i64 (atI (cellsL F) j), .int .i64 best]).run Try.prog _) (by kernel_rfl) (hV (atI (cellsL F) j) best _))) (hc (atI (cellsL F) j) best _ (by assumption) (is_is hbi_ (by omega)) H4) ?_
       intro w4 E4
       refine wv (.bool (bf (atI (cellsL F) j) best)) ?_
       refine wv (.bool (bf (atI (cellsL F) j) best)) ?_
       refine wpList_nil (then_normal ?_)
       refine wsplit (bf (atI (cellsL F) j) best) (fun h4 => ?_) (fun h4 => ?_)
       · skip
         refine wp_region_lit ?_
         refine wv (.int .i64 (atI (cellsL F) j)) ?_
         refine wv (.int .i64 (atI (cellsL F) j)) ?_
         refine wpList_nil (block_normal (then_normal ?_))
         refine wp_region_lit ?_
         refine wi64 ((j : Int) + 1) ?_
         refine wv (.int .i64 ((j : Int) + 1)) ?_
         refine wpList_nil (then_normal ?_)
         replace hb := (hb.ext E3).ext E4
         replace B1 := (B1.ext E3).ext E4
         replace B2 := (B2.ext E3).ext E4
         have H5 := H4.trans E4
         refine ⟨_, ?_, j + 1, atI (cellsL F) j, rfl, ?_, ?_, H5, hb, B1, B2, exJ (by kernel_rfl)⟩
         · omega
         · omega
         · first | exact firstT_h hb_ (by omega) (by assumption) | exact firstT_b hb_ (by omega) (by assumption) (by omega) | exact firstT_t hb_ (by omega) (by assumption) (by assumption) | exact firstT_f hb_ (by omega) (by omega) (by assumption)
       · skip
         refine wp_skip ?_
         refine block_normal (then_normal ?_)
         refine wp_region_lit ?_
         refine wi64 ((j : Int) + 1) ?_
         refine wv (.int .i64 ((j : Int) + 1)) ?_
         refine wpList_nil (then_normal ?_)
         replace hb := (hb.ext E3).ext E4
         replace B1 := (B1.ext E3).ext E4
         replace B2 := (B2.ext E3).ext E4
         have H6 := H4.trans E4
         refine ⟨_, ?_, j + 1, best, rfl, ?_, ?_, H6, hb, B1, B2, exJ (by kernel_rfl)⟩
         · omega
         · omega
         · first | exact firstT_h hb_ (by omega) (by assumption) | exact firstT_b hb_ (by omega) (by assumption) (by omega) | exact firstT_t hb_ (by omega) (by assumption) (by assumption) | exact firstT_f hb_ (by omega) (by omega) (by assumption)
   · skip
     refine wbl 20 false h2 ?_
     refine wsk ?_
     refine wsk ?_
     refine wsk ?_
     refine wsk ?_
     refine wsk ?_
     refine wsk ?_
     refine wsk ?_
     refine wsk ?_
     refine wv (.bool false) ?_
     refine wpList_nil (then_normal ?_)
     refine wcf ?_
     refine wp_skip ?_
     refine block_normal (then_normal ?_)
     refine wp_region_lit ?_
     refine wi64 ((j : Int) + 1) ?_
     refine wv (.int .i64 ((j : Int) + 1)) ?_
     refine wpList_nil (then_normal ?_)
     replace hb := hb.ext E3
     replace B1 := B1.ext E3
     replace B2 := B2.ext E3
     have H7 := HL1.trans E3
     refine ⟨_, ?_, j + 1, best, rfl, ?_, ?_, H7, hb, B1, B2, exJ (by kernel_rfl)⟩
     · omega
     · omega
     · first | exact firstT_h hb_ (by omega) (by assumption) | exact firstT_b hb_ (by omega) (by assumption) (by omega) | exact firstT_t hb_ (by omega) (by assumption) (by assumption) | exact firstT_f hb_ (by omega) (by omega) (by assumption)
 · skip
   have h1d := dF h1
   refine wp_exit ?_
   refine then_exit ?_
   refine then_exit ?_
   refine block_exit ?_
   refine then_normal ?_
   refine wsr ?_
   refine wv (.int .i64 best) ?_
   refine wv (.int .i64 best) ?_
   refine wpList_nil (then_normal ?_)
   refine wp_ret ?_
   refine ret1 (.int .i64 (firstC F x y bf 100)) rfl ?_ rfl ?_
   · refine (resT (v := .int .i64 best) (by kernel_rfl)).trans ?_
     refine congrArg (Value.int _) ?_
     exact firstT_end hb_ (by omega)
   exact ⟨rfl, HL1⟩


--# nearest1_any
theorem nearest1_any (a : Int) (b : Int) (ha : 0 ≤ a ∧ a ≤ 99) (hb : 0 ≤ b ∧ b ≤ 99) (o : Int) (b1 : Nat) (t1 : TypeId) (ho : 0 ≤ o ∧ o ≤ 99) (w : World) (hb1 : Blk w b1 t1 #[.int .i64 o]) :
 Calls Try.prog 69 #[.int .i64 a, .int .i64 b, .pointer (some ⟨b1, 0, none⟩)] w fun e w' => e = .returned (.bool (decide (sqr o a < sqr o b))) ∧ Ext w w' := by
 refine calls_of_wp Try.func69 rfl ?_
 refine wp_frame (a' := ⟨#[.int .i64 a, .int .i64 b, .pointer (some ⟨b1, 0, none⟩), undef, undef, undef, undef, undef, undef, undef, undef, undef, undef], []⟩) (by kernel_rfl) ?_
 refine wsr ?_
 refine wv (.bool false) ?_
 refine wpList_nil (then_normal ?_)
 refine wp_seq ?_
 refine wp_frame (a' := ⟨#[.int .i64 a, .int .i64 b, .pointer (some ⟨b1, 0, none⟩), undef, undef, .bool false, undef, undef, undef, undef, undef, undef, undef], []⟩) (by kernel_rfl) ?_
 refine region_go 8 [6, 7, 8, 9, 10, 11, 12, 5] [[], [], [0, 1], [], [], [3, 4], [2, 5], [6]]
  (fun i_ => ([.val (.int .i64 o), .val (.int .i64 a), .val (.int .i64 (sqr o a)), .val (.int .i64 o), .val (.int .i64 b), .val (.int .i64 (sqr o b)), .val (.bool (decide ((sqr o a) < sqr o b))), .val (.bool (decide ((sqr o a) < sqr o b)))] : List Fct).getD i_ .any)
  (by kernel_rfl) (by kernel_rfl) (by decide) (by simp) rfl (all_succ (all_succ (all_succ (all_succ (all_succ (all_succ (all_succ (all_succ all_zero ?_) ?_) ?_) ?_) ?_) ?_) ?_) ?_) ?_
 · refine step0 rfl rfl rfl (fun wr hw => ?_)
   exact OpRun.cell (g := b1) (off := 0) (v := .int .i64 o) scal_int64 rfl (by kernel_rfl) ((hb1.ext hw).get (rfl)) ⟨Ext.refl _, rfl⟩
 · refine step0 rfl rfl rfl (fun wr hw => ?_)
   exact OpRun.val (.int .i64 a) (.int .i64 a) (by kernel_rfl) rfl ⟨Ext.refl _, rfl⟩
 · refine step2 rfl rfl rfl rfl rfl (fun u0 u1 wr hw h0 h1 => ?_)
   cases h0
   cases h1
   exact OpRun.call 46 #[.int .i64 o, .int .i64 a] (by kernel_rfl) ((square_any o a (by omega) (by omega) _).mono fun e w1 ⟨he, hb⟩ => ⟨_, he, hb, rfl⟩)
 · refine step0 rfl rfl rfl (fun wr hw => ?_)
   exact OpRun.cell (g := b1) (off := 0) (v := .int .i64 o) scal_int64 rfl (by kernel_rfl) ((hb1.ext hw).get (rfl)) ⟨Ext.refl _, rfl⟩
 · refine step0 rfl rfl rfl (fun wr hw => ?_)
   exact OpRun.val (.int .i64 b) (.int .i64 b) (by kernel_rfl) rfl ⟨Ext.refl _, rfl⟩
 · refine step2 rfl rfl rfl rfl rfl (fun u0 u1 wr hw h0 h1 => ?_)
   cases h0
   cases h1
   exact OpRun.call 46 #[.int .i64 o, .int .i64 b] (by kernel_rfl) ((square_any o b (by omega) (by omega) _).mono fun e w1 ⟨he, hb⟩ => ⟨_, he, hb, rfl⟩)
 · refine step2 rfl rfl rfl rfl rfl (fun u0 u1 wr hw h0 h1 => ?_)
   cases h0
   cases h1
   exact OpRun.val (.bool (decide ((sqr o a) < sqr o b))) (.bool (decide ((sqr o a) < sqr o b))) (by kernel_rfl) rfl ⟨Ext.refl _, rfl⟩
 · refine step1 rfl rfl rfl rfl (fun u0 wr hw h0 => ?_)
   cases h0
   exact OpRun.val (.bool (decide ((sqr o a) < sqr o b))) (.bool (decide ((sqr o a) < sqr o b))) (by kernel_rfl) rfl ⟨Ext.refl _, rfl⟩
 refine end8 (fun u0 u1 u2 u3 u4 u5 u6 u7 w1 E1 f0 f1 f2 f3 f4 f5 f6 f7 => ?_)
 cases f0
 cases f1
 cases f2
 cases f3
 cases f4
 cases f5
 cases f6
 cases f7
 refine wpList_nil (then_normal ?_)
 refine wp_ret ?_
 have H1 := (Ext.refl w).trans E1
 refine ret1 (.bool (decide (sqr o a < sqr o b))) rfl ?_ rfl ?_
 · refine (resT (v := .bool (decide ((sqr o a) < sqr o b))) (by kernel_rfl)).trans ?_
   refine congrArg Value.bool ?_
   rfl
 exact ⟨rfl, H1⟩


--# nearest_any
theorem nearest_any (F : Fld) (hF : F.wf) (b : Nat) (t : TypeId) (o : Int) (x y : Int) (ho : 0 ≤ o ∧ o ≤ 99) (w : World) (hb : Blk w b t F.cells) :
 Calls Try.prog 45 #[.pointer (some ⟨b, 0, none⟩), .int .i64 o, .agg #[.int .u64 x, .int .u64 y]] w fun e w' => e = .returned (.int .i64 (nearC F o x y)) ∧ Ext w w' := by
 refine calls_of_wp Try.func45 rfl ?_
 refine wp_frame (a' := ⟨#[.pointer (some ⟨b, 0, none⟩), .int .i64 o, .agg #[.int .u64 x, .int .u64 y], undef, undef, undef, undef, undef, undef, undef, undef], []⟩) (by kernel_rfl) ?_
 refine wsr ?_
 refine wboxv (.int .i64 o) ?_
 intro g1 w1 B1 E1 _
 refine wbox #[.int .u64 x, .int .u64 y] ?_
 intro g2 w2 B2 E2 _
 refine wv (.int .i64 0) ?_
 refine wpList_nil (then_normal ?_)
 refine wsr ?_
 refine wv (.pointer (some ⟨b, 0, none⟩)) ?_
 refine wrow row_impl_Cells B2 (by rfl) ?_
 refine wv (.func (.func 69) #[] #[.pointer (some ⟨g1, 0, none⟩)]) ?_
 replace hb := (hb.ext E1).ext E2
 replace B1 := B1.ext E2
 refine wcl (first_any F hF b _ x y (.func (.func 69) #[] #[.pointer (some ⟨g1, 0, none⟩)]) 69 (fun a_ b_ => #[.int .i64 a_, .int .i64 b_, .pointer (some ⟨g1, 0, none⟩)]) (fun a_ b_ => decide (sqr o a_ < sqr o b_)) (fun _ _ _ => by kernel_rfl) _ hb (fun a_ b_ _ Ia_ Ib_ E_ => by have Ja_ := isB_true.1 Ia_; have Jb_ := isB_true.1 Ib_; exact nearest1_any a_ b_ (by omega) (by omega) o g1 _ (by omega) _ (B1.ext E_))) ?_
 intro w3 E3
 refine wv (.int .i64 (firstC F x y (fun a_ b_ => decide (sqr o a_ < sqr o b_)) 100)) ?_
 refine wpList_nil (then_normal ?_)
 refine wp_ret ?_
 have H1 := (((Ext.refl w).trans E1).trans E2).trans E3
 refine ret1 (.int .i64 (nearC F o x y)) rfl ?_ rfl ?_
 · refine (resT (v := .int .i64 (firstC F x y (fun a_ b_ => decide (sqr o a_ < sqr o b_)) 100)) (by kernel_rfl)).trans ?_
   refine congrArg (Value.int _) ?_
   unfold nearC; rfl
 exact ⟨rfl, H1⟩


--# l01Nearest_any
theorem l01Nearest_any (F : Fld) (hF : F.wf) (b : Nat) (t : TypeId) (o : Int) (x y : Int) (b2 : Nat) (t2 : TypeId) (ho : 0 ≤ o ∧ o ≤ 99) (w : World) (hb : Blk w b t F.cells) (hb2 : Blk w b2 t2 #[.int .u64 x, .int .u64 y]) :
 Calls Try.prog 48 #[.pointer (some ⟨b, 0, none⟩), .int .i64 o, .pointer (some ⟨b2, 0, none⟩)] w fun e w' => e = .returned (.int .i64 (nearC F o x y)) ∧ Ext w w' := by
 refine calls_of_wp Try.func48 rfl ?_
 refine wp_frame (a' := ⟨#[.pointer (some ⟨b, 0, none⟩), .int .i64 o, .pointer (some ⟨b2, 0, none⟩), undef, undef, undef, undef, undef, undef, undef, undef, undef, undef, undef, undef, undef, undef, undef, undef, undef, undef, undef, undef, undef, undef, undef, undef, undef, undef, undef, undef, undef, undef, undef, undef, undef], []⟩) (by kernel_rfl) ?_
 refine wsr ?_
 refine wv (.int .i64 0) ?_
 refine wpList_nil (then_normal ?_)
 refine wsr ?_
 refine wv (.int .i64 (-1)) ?_
 refine wpList_nil (then_normal ?_)
 refine wp_seq ?_
 refine wsr ?_
 refine wv (.int .i64 0) ?_
 refine wpList_nil (then_normal ?_)
 refine wp_block ?_
 refine wp_loop_k (fun m1 a wl1 => ∃ (i : Nat) (best : Int), m1 = 100 - i ∧ i ≤ 100 ∧ best = firstC F x y (fun a b => decide (sqr o a < sqr o b)) i ∧ Ext w wl1 ∧ Blk wl1 b t F.cells ∧ Blk wl1 b2 t2 #[.int .u64 x, .int .u64 y] ∧ (∃ J1 : Nat → Value, a = ⟨#[.pointer (some ⟨b, 0, none⟩), .int .i64 o, .pointer (some ⟨b2, 0, none⟩), undef, undef, undef, .int .i64 0, .int .i64 best, .int .i64 (i : Int), J1 9, J1 10, J1 11, J1 12, J1 13, J1 14, J1 15, J1 16, J1 17, J1 18, J1 19, J1 20, J1 21, J1 22, J1 23, J1 24, J1 25, J1 26, J1 27, J1 28, J1 29, J1 30, J1 31, J1 32, J1 33, J1 34, undef], []⟩)) (100) ?_ ?_
 · refine ⟨0, (-1), rfl, ?_, ?_, (Ext.refl w), hb, hb2, exJ (by kernel_rfl)⟩
   · omega
   · exact firstC_0
 intro m1 a wl1 hI
 obtain ⟨i, best, rfl, hi_, hb_, HL1, hb, hb2, J1, rfl⟩ := hI
 have hbi_ := firstC_is hb_
 have hbn_ := is_in hbi_
 refine wp_seq ?_
 refine wsr ?_
 refine wv (.int .i64 (i : Int)) ?_
 refine wv (.bool (decide ((i : Int) < 100))) ?_
 refine wpList_nil (then_normal ?_)
 refine wsplit (decide ((i : Int) < 100)) (fun h1 => ?_) (fun h1 => ?_)
 · skip
   have h1d := dT h1
   refine wp_skip ?_
   refine then_normal ?_
   refine wp_seq ?_
   refine wp_block ?_
   refine wsr ?_
   refine wv (.pointer (some ⟨b, 0, none⟩)) ?_
   refine wv (.int .i64 (i : Int)) ?_
   refine wcl (l01Is_any F hF b _ (i : Int) _ hb) ?_
   intro w1 E1
   refine wv (.bool (isB F (i : Int))) ?_
   refine split_bool (isB F (i : Int)) (fun h2 => ?_) (fun h2 => ?_)
   · skip
     refine wbl 16 true h2 ?_
     have h2d := isB_true.1 h2
     refine wv (.pointer (some ⟨b2, 0, none⟩)) ?_
     refine wv (.int .i64 (i : Int)) ?_
     replace hb2 := hb2.ext E1
     refine wcl (l01Has_any x y b2 _ (i : Int) _ hb2) ?_
     intro w2 E2
     refine wv (.bool (hasB x y (i : Int))) ?_
     refine wv (.bool (hasB x y (i : Int))) ?_
     have H1 := (HL1.trans E1).trans E2
     refine split_bool (hasB x y (i : Int)) (fun h3 => ?_) (fun h3 => ?_)
     · skip
       refine wbl 21 true h3 ?_
       refine wv (.int .i64 best) ?_
       refine wv (.bool (decide (best < 0))) ?_
       refine wv (.bool (decide (best < 0))) ?_
       refine split_bool (decide (best < 0)) (fun h4 => ?_) (fun h4 => ?_)
       · skip
         refine wbl 24 true h4 ?_
         have h4d := dT h4
         refine wsk ?_
         refine wsk ?_
         refine wsk ?_
         refine wsk ?_
         refine wsk ?_
         refine wsk ?_
         refine wsk ?_
         refine wv (.bool true) ?_
         refine wv (.bool true) ?_
         refine wpList_nil (then_normal ?_)
         refine wct ?_
         refine wp_region_lit ?_
         refine wv (.int .i64 (i : Int)) ?_
         refine wv (.int .i64 (i : Int)) ?_
         refine wpList_nil (block_normal (then_normal ?_))
         refine wp_region_lit ?_
         refine wv (.int .i64 (i : Int)) ?_
         refine wi64 ((i : Int) + 1) ?_
         refine wv (.int .i64 ((i : Int) + 1)) ?_
         refine wpList_nil (then_normal ?_)
         replace hb := (hb.ext E1).ext E2
         replace hb2 := hb2.ext E2
         refine ⟨_, ?_, i + 1, (i : Int), rfl, ?_, ?_, H1, hb, hb2, exJ (by kernel_rfl)⟩
         · omega
         · omega
         · first | exact firstC_n hb_ (by assumption) | exact firstC_h hb_ (by assumption) (by assumption) | exact firstC_b hb_ (by assumption) (by assumption) (by omega) | exact firstC_t hb_ (by assumption) (by assumption) (decide_eq_true (by omega)) | exact firstC_f hb_ (by assumption) (by omega) (decide_eq_false (by omega))
       · skip
         refine wbl 24 false h4 ?_
         have h4d := dF h4
         refine wv (.int .i64 o) ?_
         refine wv (.int .i64 (i : Int)) ?_
         refine wcl (l01Square_any o (i : Int) (by omega) (by omega) _) ?_
         intro w3 E3
         refine wv (.int .i64 o) ?_
         refine wv (.int .i64 best) ?_
         refine wcl (l01Square_any o best (by omega) (by omega) _) ?_
         intro w4 E4
         refine wv (.bool (decide ((sqr o (i : Int)) < sqr o best))) ?_
         refine wv (.bool (decide ((sqr o (i : Int)) < sqr o best))) ?_
         refine wv (.bool (decide ((sqr o (i : Int)) < sqr o best))) ?_
         refine wpList_nil (then_normal ?_)
         have H2 := (H1.trans E3).trans E4
         refine wsplit (decide ((sqr o (i : Int)) < sqr o best)) (fun h5 => ?_) (fun h5 => ?_)
         · skip
           have h5d := dT h5
           refine wp_region_lit ?_
           refine wv (.int .i64 (i : Int)) ?_
           refine wv (.int .i64 (i : Int)) ?_
           refine wpList_nil (block_normal (then_normal ?_))
           refine wp_region_lit ?_
           refine wv (.int .i64 (i : Int)) ?_
           refine wi64 ((i : Int) + 1) ?_
           refine wv (.int .i64 ((i : Int) + 1)) ?_
           refine wpList_nil (then_normal ?_)
           replace hb := (((hb.ext E1).ext E2).ext E3).ext E4
           replace hb2 := ((hb2.ext E2).ext E3).ext E4
           refine ⟨_, ?_, i + 1, (i : Int), rfl, ?_, ?_, H2, hb, hb2, exJ (by kernel_rfl)⟩
           · omega
           · omega
           · first | exact firstC_n hb_ (by assumption) | exact firstC_h hb_ (by assumption) (by assumption) | exact firstC_b hb_ (by assumption) (by assumption) (by omega) | exact firstC_t hb_ (by assumption) (by assumption) (decide_eq_true (by omega)) | exact firstC_f hb_ (by assumption) (by omega) (decide_eq_false (by omega))
         · skip
           have h5d := dF h5
           refine wp_skip ?_
           refine block_normal (then_normal ?_)
           refine wp_region_lit ?_
           refine wv (.int .i64 (i : Int)) ?_
           refine wi64 ((i : Int) + 1) ?_
           refine wv (.int .i64 ((i : Int) + 1)) ?_
           refine wpList_nil (then_normal ?_)
           replace hb := (((hb.ext E1).ext E2).ext E3).ext E4
           replace hb2 := ((hb2.ext E2).ext E3).ext E4
           refine ⟨_, ?_, i + 1, best, rfl, ?_, ?_, H2, hb, hb2, exJ (by kernel_rfl)⟩
           · omega
           · omega
           · first | exact firstC_n hb_ (by assumption) | exact firstC_h hb_ (by assumption) (by assumption) | exact firstC_b hb_ (by assumption) (by assumption) (by omega) | exact firstC_t hb_ (by assumption) (by assumption) (decide_eq_true (by omega)) | exact firstC_f hb_ (by assumption) (by omega) (decide_eq_false (by omega))
     · skip
       refine wbl 21 false h3 ?_
       refine wsk ?_
       refine wsk ?_
       refine wsk ?_
       refine wsk ?_
       refine wsk ?_
       refine wsk ?_
       refine wsk ?_
       refine wsk ?_
       refine wsk ?_
       refine wsk ?_
       refine wsk ?_
       refine wv (.bool false) ?_
       refine wpList_nil (then_normal ?_)
       refine wcf ?_
       refine wp_skip ?_
       refine block_normal (then_normal ?_)
       refine wp_region_lit ?_
       refine wv (.int .i64 (i : Int)) ?_
       refine wi64 ((i : Int) + 1) ?_
       refine wv (.int .i64 ((i : Int) + 1)) ?_
       refine wpList_nil (then_normal ?_)
       replace hb := (hb.ext E1).ext E2
       replace hb2 := hb2.ext E2
       refine ⟨_, ?_, i + 1, best, rfl, ?_, ?_, H1, hb, hb2, exJ (by kernel_rfl)⟩
       · omega
       · omega
       · first | exact firstC_n hb_ (by assumption) | exact firstC_h hb_ (by assumption) (by assumption) | exact firstC_b hb_ (by assumption) (by assumption) (by omega) | exact firstC_t hb_ (by assumption) (by assumption) (decide_eq_true (by omega)) | exact firstC_f hb_ (by assumption) (by omega) (decide_eq_false (by omega))
   · skip
     refine wbl 16 false h2 ?_
     refine wsk ?_
     refine wsk ?_
     refine wsk ?_
     refine wv (.bool false) ?_
     refine wv (.bool false) ?_
     refine wsk ?_
     refine wsk ?_
     refine wsk ?_
     refine wsk ?_
     refine wsk ?_
     refine wsk ?_
     refine wsk ?_
     refine wsk ?_
     refine wsk ?_
     refine wsk ?_
     refine wsk ?_
     refine wv (.bool false) ?_
     refine wpList_nil (then_normal ?_)
     refine wcf ?_
     refine wp_skip ?_
     refine block_normal (then_normal ?_)
     refine wp_region_lit ?_
     refine wv (.int .i64 (i : Int)) ?_
     refine wi64 ((i : Int) + 1) ?_
     refine wv (.int .i64 ((i : Int) + 1)) ?_
     refine wpList_nil (then_normal ?_)
     replace hb := hb.ext E1
     replace hb2 := hb2.ext E1
     have H3 := HL1.trans E1
     refine ⟨_, ?_, i + 1, best, rfl, ?_, ?_, H3, hb, hb2, exJ (by kernel_rfl)⟩
     · omega
     · omega
     · first | exact firstC_n hb_ (by assumption) | exact firstC_h hb_ (by assumption) (by assumption) | exact firstC_b hb_ (by assumption) (by assumption) (by omega) | exact firstC_t hb_ (by assumption) (by assumption) (decide_eq_true (by omega)) | exact firstC_f hb_ (by assumption) (by omega) (decide_eq_false (by omega))
 · skip
   have h1d := dF h1
   refine wp_exit ?_
   refine then_exit ?_
   refine then_exit ?_
   refine block_exit ?_
   refine then_normal ?_
   refine wsr ?_
   refine wv (.int .i64 best) ?_
   refine wv (.int .i64 best) ?_
   refine wpList_nil (then_normal ?_)
   refine wp_ret ?_
   refine ret1 (.int .i64 (nearC F o x y)) rfl ?_ rfl ?_
   · refine (resT (v := .int .i64 best) (by kernel_rfl)).trans ?_
     refine congrArg (Value.int _) ?_
     unfold nearC; exact firstC_end hb_ (by omega) (by omega)
   exact ⟨rfl, HL1⟩


--# sNearestIn_any
theorem sNearestIn_any (F : Fld) (hF : F.wf) (c : Int) (x y : Int) (w : World) :
 Calls Try.prog 20 #[.agg F.cells, .int .i64 c, .agg #[.int .u64 x, .int .u64 y]] w fun e w' => e = .returned (.tuple #[.int .i64 (near0 F c x y), .int .i64 (near1 F c x y), .int .i64 (near2 F c x y)]) ∧ Ext w w' := by
 refine calls_of_wp Try.func20 rfl ?_
 refine wp_frame (a' := ⟨#[.agg F.cells, .int .i64 c, .agg #[.int .u64 x, .int .u64 y], undef, undef, undef, undef, undef, undef, undef, undef, undef, undef, undef, undef, undef, undef, undef, undef, undef, undef, undef, undef, undef], []⟩) (by kernel_rfl) ?_
 refine wsr ?_
 refine wbox F.cells ?_
 intro g1 w1 B1 E1 _
 refine wbox #[.int .u64 x, .int .u64 y] ?_
 intro g2 w2 B2 E2 _
 refine wv (.int .i64 0) ?_
 refine wv (.int .i64 0) ?_
 refine wv (.int .i64 0) ?_
 refine wpList_nil (then_normal ?_)
 refine wp_seq ?_
 refine wsr ?_
 refine wv (.int .i64 c) ?_
 replace B1 := B1.ext E2
 refine wcl (l01Asked_any F hF g1 _ c true (isB F c) (Bool.and_true _) _ B1) ?_
 intro w3 E3
 refine wv (.int .i64 (code F (isB F c))) ?_
 refine wpList_nil (then_normal ?_)
 refine wsr ?_
 refine wv (.int .i64 (code F (isB F c))) ?_
 refine wv (.bool ((code F (isB F c)) != 0)) ?_
 refine wpList_nil (then_normal ?_)
 have H1 := (((Ext.refl w).trans E1).trans E2).trans E3
 refine wsplit ((code F (isB F c)) != 0) (fun h1 => ?_) (fun h1 => ?_)
 · skip
   have h1d := nT h1
   refine wsr ?_
   refine wv (.int .i64 (code F (isB F c))) ?_
   refine wv (.int .i64 0) ?_
   refine wv (.int .i64 0) ?_
   refine wv (.int .i64 (code F (isB F c))) ?_
   refine wpList_nil (then_normal ?_)
   refine wp_ret ?_
   refine then_ret ?_
   refine ret3 (.int .i64 (near0 F c x y)) (.int .i64 (near1 F c x y)) (.int .i64 (near2 F c x y)) rfl ?_ ?_ ?_ rfl ?_
   · refine (resT (v := .int .i64 0) (by kernel_rfl)).trans ?_
     refine congrArg (Value.int _) ?_
     unfold near0; first | rw [if_neg (by first | assumption | (simp [*]; done) | omega)] | rw [if_pos (by first | assumption | omega), if_pos (by omega)] | rw [if_pos (by first | assumption | omega), if_neg (by omega)]
   · refine (resT (v := .int .i64 0) (by kernel_rfl)).trans ?_
     refine congrArg (Value.int _) ?_
     unfold near1; first | rw [if_neg (by first | assumption | (simp [*]; done) | omega)] | rw [if_pos (by first | assumption | omega), if_pos (by omega)] | rw [if_pos (by first | assumption | omega), if_neg (by omega)]
   · refine (resT (v := .int .i64 (code F (isB F c))) (by kernel_rfl)).trans ?_
     refine congrArg (Value.int _) ?_
     unfold near2; first | rw [if_neg (by first | assumption | (simp [*]; done) | omega)] | rw [if_pos (by first | assumption | omega), if_pos (by omega)] | rw [if_pos (by first | assumption | omega), if_neg (by omega)]
   exact ⟨rfl, H1⟩
 · skip
   have h1d := nF h1
   have h1o := (code_zero h1d).1
   have h1z := (code_zero h1d).2
   have h1zd := isB_true.1 h1z
   refine wp_skip ?_
   refine then_normal ?_
   refine wsr ?_
   refine wv (.int .i64 c) ?_
   replace B1 := B1.ext E3
   replace B2 := B2.ext E3
   refine wcl (l01Nearest_any F hF g1 _ c x y g2 _ (by omega) _ B1 B2) ?_
   intro w4 E4
   have nc1 := nearC_in F c x y
   refine wv (.int .i64 (nearC F c x y)) ?_
   refine wpList_nil (then_normal ?_)
   refine wp_seq ?_
   refine wsr ?_
   refine wv (.int .i64 (nearC F c x y)) ?_
   refine wv (.bool (decide ((nearC F c x y) < 0))) ?_
   refine wpList_nil (then_normal ?_)
   refine wsplit (decide ((nearC F c x y) < 0)) (fun h2 => ?_) (fun h2 => ?_)
   · skip
     have h2d := dT h2
     refine wsr ?_
     refine wv (.int .i64 0) ?_
     refine wv (.int .i64 0) ?_
     refine wv (.int .i64 6) ?_
     refine wpList_nil (then_normal ?_)
     refine wp_ret ?_
     refine then_ret ?_
     have H2 := H1.trans E4
     refine ret3 (.int .i64 (near0 F c x y)) (.int .i64 (near1 F c x y)) (.int .i64 (near2 F c x y)) rfl ?_ ?_ ?_ rfl ?_
     · refine (resT (v := .int .i64 0) (by kernel_rfl)).trans ?_
       refine congrArg (Value.int _) ?_
       unfold near0; first | rw [if_neg (by first | assumption | (simp [*]; done) | omega)] | rw [if_pos (by first | assumption | omega), if_pos (by omega)] | rw [if_pos (by first | assumption | omega), if_neg (by omega)]
     · refine (resT (v := .int .i64 0) (by kernel_rfl)).trans ?_
       refine congrArg (Value.int _) ?_
       unfold near1; first | rw [if_neg (by first | assumption | (simp [*]; done) | omega)] | rw [if_pos (by first | assumption | omega), if_pos (by omega)] | rw [if_pos (by first | assumption | omega), if_neg (by omega)]
     · refine (resT (v := .int .i64 6) (by kernel_rfl)).trans ?_
       refine congrArg (Value.int _) ?_
       unfold near2; first | rw [if_neg (by first | assumption | (simp [*]; done) | omega)] | rw [if_pos (by first | assumption | omega), if_pos (by omega)] | rw [if_pos (by first | assumption | omega), if_neg (by omega)]
     exact ⟨rfl, H2⟩
   · skip
     have h2d := dF h2
     refine wp_skip ?_
     refine then_normal ?_
     refine wsr ?_
     refine wv (.int .i64 (nearC F c x y)) ?_
     refine wv (.int .i64 c) ?_
     refine wv (.int .i64 (nearC F c x y)) ?_
     refine wcl (l01Square_any c (nearC F c x y) (by omega) (by omega) _) ?_
     intro w5 E5
     refine wv (.int .i64 (nearC F c x y)) ?_
     refine wv (.int .i64 (sqr c (nearC F c x y))) ?_
     refine wv (.int .i64 0) ?_
     refine wpList_nil (then_normal ?_)
     refine wp_ret ?_
     have H3 := (H1.trans E4).trans E5
     refine ret3 (.int .i64 (near0 F c x y)) (.int .i64 (near1 F c x y)) (.int .i64 (near2 F c x y)) rfl ?_ ?_ ?_ rfl ?_
     · refine (resT (v := .int .i64 (nearC F c x y)) (by kernel_rfl)).trans ?_
       refine congrArg (Value.int _) ?_
       unfold near0; first | rw [if_neg (by first | assumption | (simp [*]; done) | omega)] | rw [if_pos (by first | assumption | omega), if_pos (by omega)] | rw [if_pos (by first | assumption | omega), if_neg (by omega)]
     · refine (resT (v := .int .i64 (sqr c (nearC F c x y))) (by kernel_rfl)).trans ?_
       refine congrArg (Value.int _) ?_
       unfold near1; first | rw [if_neg (by first | assumption | (simp [*]; done) | omega)] | rw [if_pos (by first | assumption | omega), if_pos (by omega)] | rw [if_pos (by first | assumption | omega), if_neg (by omega)]
     · refine (resT (v := .int .i64 0) (by kernel_rfl)).trans ?_
       refine congrArg (Value.int _) ?_
       unfold near2; first | rw [if_neg (by first | assumption | (simp [*]; done) | omega)] | rw [if_pos (by first | assumption | omega), if_pos (by omega)] | rw [if_pos (by first | assumption | omega), if_neg (by omega)]
     exact ⟨rfl, H3⟩


--# iNearestIn_any
theorem iNearestIn_any (F : Fld) (hF : F.wf) (c : Int) (x y : Int) (w : World) :
 Calls Try.prog 19 #[.agg F.cells, .int .i64 c, .agg #[.int .u64 x, .int .u64 y]] w fun e w' => e = .returned (.tuple #[.int .i64 (near0 F c x y), .int .i64 (near1 F c x y), .int .i64 (near2 F c x y)]) ∧ Ext w w' := by
 refine calls_of_wp Try.func19 rfl ?_
 refine wp_frame (a' := ⟨#[.agg F.cells, .int .i64 c, .agg #[.int .u64 x, .int .u64 y], undef, undef, undef, undef, undef, undef, undef, undef, undef, undef, undef, undef, undef, undef, undef, undef, undef, undef, undef, undef, undef, undef], []⟩) (by kernel_rfl) ?_
 refine wsr ?_
 refine wbox F.cells ?_
 intro g1 w1 B1 E1 _
 refine wboxv (.int .i64 c) ?_
 intro g2 w2 B2 E2 _
 refine wbox #[.int .u64 x, .int .u64 y] ?_
 intro g3 w3 B3 E3 _
 refine wv (.int .i64 0) ?_
 refine wv (.int .i64 0) ?_
 refine wv (.int .i64 0) ?_
 refine wpList_nil (then_normal ?_)
 refine wp_seq ?_
 refine wsr ?_
 refine wv (.func (.func 43) #[] #[.pointer (some ⟨g1, 0, none⟩), .pointer (some ⟨g2, 0, none⟩)]) ?_
 replace B1 := (B1.ext E2).ext E3
 replace B2 := B2.ext E3
 refine wcl (fieldCode_any F hF g1 _ (.func (.func 43) #[] #[.pointer (some ⟨g1, 0, none⟩), .pointer (some ⟨g2, 0, none⟩)]) 43 #[.pointer (some ⟨g1, 0, none⟩), .pointer (some ⟨g2, 0, none⟩)] (fun _ => by kernel_rfl) (isB F c) _ B1 (fun _ E_ => NearestIn1_any F hF g1 _ c g2 _ _ (B1.ext E_) (B2.ext E_))) ?_
 intro w4 E4
 refine wv (.int .i64 (code F (isB F c))) ?_
 refine wpList_nil (then_normal ?_)
 refine wsr ?_
 refine wv (.int .i64 (code F (isB F c))) ?_
 refine wv (.bool ((code F (isB F c)) != 0)) ?_
 refine wpList_nil (then_normal ?_)
 have H1 := ((((Ext.refl w).trans E1).trans E2).trans E3).trans E4
 refine wsplit ((code F (isB F c)) != 0) (fun h1 => ?_) (fun h1 => ?_)
 · skip
   have h1d := nT h1
   refine wsr ?_
   refine wv (.int .i64 (code F (isB F c))) ?_
   refine wv (.int .i64 0) ?_
   refine wv (.int .i64 0) ?_
   refine wv (.int .i64 (code F (isB F c))) ?_
   refine wpList_nil (then_normal ?_)
   refine wp_ret ?_
   refine then_ret ?_
   refine ret3 (.int .i64 (near0 F c x y)) (.int .i64 (near1 F c x y)) (.int .i64 (near2 F c x y)) rfl ?_ ?_ ?_ rfl ?_
   · refine (resT (v := .int .i64 0) (by kernel_rfl)).trans ?_
     refine congrArg (Value.int _) ?_
     unfold near0; first | rw [if_neg (by first | assumption | (simp [*]; done) | omega)] | rw [if_pos (by first | assumption | omega), if_pos (by omega)] | rw [if_pos (by first | assumption | omega), if_neg (by omega)]
   · refine (resT (v := .int .i64 0) (by kernel_rfl)).trans ?_
     refine congrArg (Value.int _) ?_
     unfold near1; first | rw [if_neg (by first | assumption | (simp [*]; done) | omega)] | rw [if_pos (by first | assumption | omega), if_pos (by omega)] | rw [if_pos (by first | assumption | omega), if_neg (by omega)]
   · refine (resT (v := .int .i64 (code F (isB F c))) (by kernel_rfl)).trans ?_
     refine congrArg (Value.int _) ?_
     unfold near2; first | rw [if_neg (by first | assumption | (simp [*]; done) | omega)] | rw [if_pos (by first | assumption | omega), if_pos (by omega)] | rw [if_pos (by first | assumption | omega), if_neg (by omega)]
   exact ⟨rfl, H1⟩
 · skip
   have h1d := nF h1
   have h1o := (code_zero h1d).1
   have h1z := (code_zero h1d).2
   have h1zd := isB_true.1 h1z
   refine wp_skip ?_
   refine then_normal ?_
   refine wsr ?_
   replace B2 := B2.ext E4
   refine wld (v := .int .i64 c) g2 (0) scal_int64 (B2.get (rfl)) ?_
   replace B3 := B3.ext E4
   refine wrow row_impl_Cells B3 (by rfl) ?_
   replace B1 := B1.ext E4
   refine wcl (nearest_any F hF g1 _ c x y (by omega) _ B1) ?_
   intro w5 E5
   have nc1 := nearC_in F c x y
   refine wv (.int .i64 (nearC F c x y)) ?_
   refine wpList_nil (then_normal ?_)
   refine wp_seq ?_
   refine wsr ?_
   refine wv (.int .i64 (nearC F c x y)) ?_
   refine wv (.bool (decide ((nearC F c x y) < 0))) ?_
   refine wpList_nil (then_normal ?_)
   refine wsplit (decide ((nearC F c x y) < 0)) (fun h2 => ?_) (fun h2 => ?_)
   · skip
     have h2d := dT h2
     refine wsr ?_
     refine wv (.int .i64 0) ?_
     refine wv (.int .i64 0) ?_
     refine wv (.int .i64 6) ?_
     refine wpList_nil (then_normal ?_)
     refine wp_ret ?_
     refine then_ret ?_
     have H2 := H1.trans E5
     refine ret3 (.int .i64 (near0 F c x y)) (.int .i64 (near1 F c x y)) (.int .i64 (near2 F c x y)) rfl ?_ ?_ ?_ rfl ?_
     · refine (resT (v := .int .i64 0) (by kernel_rfl)).trans ?_
       refine congrArg (Value.int _) ?_
       unfold near0; first | rw [if_neg (by first | assumption | (simp [*]; done) | omega)] | rw [if_pos (by first | assumption | omega), if_pos (by omega)] | rw [if_pos (by first | assumption | omega), if_neg (by omega)]
     · refine (resT (v := .int .i64 0) (by kernel_rfl)).trans ?_
       refine congrArg (Value.int _) ?_
       unfold near1; first | rw [if_neg (by first | assumption | (simp [*]; done) | omega)] | rw [if_pos (by first | assumption | omega), if_pos (by omega)] | rw [if_pos (by first | assumption | omega), if_neg (by omega)]
     · refine (resT (v := .int .i64 6) (by kernel_rfl)).trans ?_
       refine congrArg (Value.int _) ?_
       unfold near2; first | rw [if_neg (by first | assumption | (simp [*]; done) | omega)] | rw [if_pos (by first | assumption | omega), if_pos (by omega)] | rw [if_pos (by first | assumption | omega), if_neg (by omega)]
     exact ⟨rfl, H2⟩
   · skip
     have h2d := dF h2
     refine wp_skip ?_
     refine then_normal ?_
     refine wsr ?_
     refine wv (.int .i64 (nearC F c x y)) ?_
     replace B2 := B2.ext E5
     refine wld (v := .int .i64 c) g2 (0) scal_int64 (B2.get (rfl)) ?_
     refine wv (.int .i64 (nearC F c x y)) ?_
     refine wcl (square_any c (nearC F c x y) (by omega) (by omega) _) ?_
     intro w6 E6
     refine wv (.int .i64 (nearC F c x y)) ?_
     refine wv (.int .i64 (sqr c (nearC F c x y))) ?_
     refine wv (.int .i64 0) ?_
     refine wpList_nil (then_normal ?_)
     refine wp_ret ?_
     have H3 := (H1.trans E5).trans E6
     refine ret3 (.int .i64 (near0 F c x y)) (.int .i64 (near1 F c x y)) (.int .i64 (near2 F c x y)) rfl ?_ ?_ ?_ rfl ?_
     · refine (resT (v := .int .i64 (nearC F c x y)) (by kernel_rfl)).trans ?_
       refine congrArg (Value.int _) ?_
       unfold near0; first | rw [if_neg (by first | assumption | (simp [*]; done) | omega)] | rw [if_pos (by first | assumption | omega), if_pos (by omega)] | rw [if_pos (by first | assumption | omega), if_neg (by omega)]
     · refine (resT (v := .int .i64 (sqr c (nearC F c x y))) (by kernel_rfl)).trans ?_
       refine congrArg (Value.int _) ?_
       unfold near1; first | rw [if_neg (by first | assumption | (simp [*]; done) | omega)] | rw [if_pos (by first | assumption | omega), if_pos (by omega)] | rw [if_pos (by first | assumption | omega), if_neg (by omega)]
     · refine (resT (v := .int .i64 0) (by kernel_rfl)).trans ?_
       refine congrArg (Value.int _) ?_
       unfold near2; first | rw [if_neg (by first | assumption | (simp [*]; done) | omega)] | rw [if_pos (by first | assumption | omega), if_pos (by omega)] | rw [if_pos (by first | assumption | omega), if_neg (by omega)]
     exact ⟨rfl, H3⟩


--# sRingOf_any
theorem sRingOf_any (F : Fld) (hF : F.wf) (o : Int) (m : Int) (w : World) :
 Calls Try.prog 24 #[.agg F.cells, .int .i64 o, .int .i64 m] w fun e w' => e = .returned (.tuple #[.agg #[.int .u64 ((ringS F o m).1), .int .u64 ((ringS F o m).2)], .int .i64 (code F (isB F o && inB m 0 200))]) ∧ Ext w w' := by
 refine calls_of_wp Try.func24 rfl ?_
 refine wp_frame (a' := ⟨#[.agg F.cells, .int .i64 o, .int .i64 m, undef, undef, undef, undef, undef, undef, undef, undef, undef, undef, undef, undef, undef, undef, undef, undef, undef], []⟩) (by kernel_rfl) ?_
 refine wsr ?_
 refine wbox F.cells ?_
 intro g1 w1 B1 E1 hg_
 have lo_g1 := Nat.le_trans ((Ext.refl w)).size hg_
 have H1 := (Ext.refl w).trans E1
 refine wnew #[.int .u64 0, .int .u64 0] Try.zeroValue33 rfl ?_
 intro g2 w2 B2 E2 hg_
 have q_g1_g2 := Nat.ne_of_lt (Nat.lt_of_lt_of_le B1.lt hg_)
 have lo_g2 := Nat.le_trans (H1).size hg_
 refine wv (.int .i64 0) ?_
 refine wpList_nil (then_normal ?_)
 refine wp_seq ?_
 refine wsr ?_
 refine wv (.int .i64 o) ?_
 refine wv (.int .i64 m) ?_
 refine wcl (l00In_any m 0 200 _) ?_
 intro w3 E3
 replace B1 := (B1.ext E2).ext E3
 refine wcl (l01Asked_any F hF g1 _ o (inB m 0 200) (isB F o && (inB m 0 200)) rfl _ B1) ?_
 intro w4 E4
 refine wv (.int .i64 (code F (isB F o && (inB m 0 200)))) ?_
 refine wpList_nil (then_normal ?_)
 refine wsr ?_
 refine wv (.int .i64 (code F (isB F o && (inB m 0 200)))) ?_
 refine wv (.bool ((code F (isB F o && (inB m 0 200))) != 0)) ?_
 refine wpList_nil (then_normal ?_)
 have H2 := ((H1.trans E2).trans E3).trans E4
 refine wsplit ((code F (isB F o && (inB m 0 200))) != 0) (fun h1 => ?_) (fun h1 => ?_)
 · skip
   have h1d := nT h1
   refine wsr ?_
   refine wv (.agg #[.int .u64 0, .int .u64 0]) ?_
   refine wv (.int .i64 (code F (isB F o && (inB m 0 200)))) ?_
   replace B2 := (B2.ext E3).ext E4
   refine wput #[.int .u64 0, .int .u64 0] row_impl_Cells B2 (by rfl) (by rfl) (by kernel_rfl) ?_
   intro w5 B2_ X1
   clear B2; have B2 := B2_; clear B2_
   refine wv (.int .i64 (code F (isB F o && (inB m 0 200)))) ?_
   refine wpList_nil (then_normal ?_)
   refine wp_ret ?_
   refine then_ret ?_
   have H3 := X1.ext w lo_g2 H2
   refine ret2 (.agg #[.int .u64 ((ringS F o m).1), .int .u64 ((ringS F o m).2)]) (.int .i64 (code F (isB F o && inB m 0 200))) rfl ?_ ?_ rfl ?_
   · refine ⟨g2, 33, #[.int .u64 0, .int .u64 0], _, by kernel_rfl, B2, row_impl_Cells, ?_, ?_⟩
     · rfl
     · show (.agg #[.int .u64 ((ringS F o m).1), .int .u64 ((ringS F o m).2)] : Value) = (.agg #[.int .u64 0, .int .u64 0])
       refine congrArg Value.agg ?_
       first | rw [ringS_f (by assumption)] | rw [ringS_t (by assumption)]
   · refine (resT (v := .int .i64 (code F (isB F o && (inB m 0 200)))) (by kernel_rfl)).trans ?_
     refine congrArg (Value.int _) ?_
     first | (rw [if_pos (by assumption)]; done) | (rw [if_neg (by assumption)]; done) | rfl | assumption | (symm; assumption)
   exact ⟨rfl, H3⟩
 · skip
   have h1d := nF h1
   have h1o := (code_zero h1d).1
   have h1z := (code_zero h1d).2
   obtain ⟨h1za, h1zb⟩ := andT h1z
   have h1zad := isB_true.1 h1za
   have h1zbd := inT h1zb
   refine wp_skip ?_
   refine then_normal ?_
   refine wsr ?_
   refine wv (.int .i64 o) ?_
   refine wv (.int .i64 m) ?_
   replace B1 := B1.ext E4
   refine wcl (l01Ring_any F hF g1 _ o m (by omega) _ B1) ?_
   intro w6 E5
   replace B2 := ((B2.ext E3).ext E4).ext E5
   refine wput #[.int .u64 ((setC F (fun c_ => decide (sqr o c_ ≤ m)) 100).1), .int .u64 ((setC F (fun c_ => decide (sqr o c_ ≤ m)) 100).2)] row_impl_Cells B2 (by rfl) (by rfl) (by kernel_rfl) ?_
   intro w7 B2_ X2
   clear B2; have B2 := B2_; clear B2_
   refine wv (.int .i64 0) ?_
   refine wpList_nil (then_normal ?_)
   refine wp_ret ?_
   have H4 := X2.ext w lo_g2 (H2.trans E5)
   refine ret2 (.agg #[.int .u64 ((ringS F o m).1), .int .u64 ((ringS F o m).2)]) (.int .i64 (code F (isB F o && inB m 0 200))) rfl ?_ ?_ rfl ?_
   · refine ⟨g2, 33, #[.int .u64 ((setC F (fun c_ => decide (sqr o c_ ≤ m)) 100).1), .int .u64 ((setC F (fun c_ => decide (sqr o c_ ≤ m)) 100).2)], _, by kernel_rfl, B2, row_impl_Cells, ?_, ?_⟩
     · rfl
     · show (.agg #[.int .u64 ((ringS F o m).1), .int .u64 ((ringS F o m).2)] : Value) = (.agg #[.int .u64 ((setC F (fun c_ => decide (sqr o c_ ≤ m)) 100).1), .int .u64 ((setC F (fun c_ => decide (sqr o c_ ≤ m)) 100).2)])
       refine congrArg Value.agg ?_
       first | rw [ringS_f (by assumption)] | rw [ringS_t (by assumption)]
   · refine (resT (v := .int .i64 0) (by kernel_rfl)).trans ?_
     refine congrArg (Value.int _) ?_
     first | (rw [if_pos (by assumption)]; done) | (rw [if_neg (by assumption)]; done) | rfl | assumption | (symm; assumption)
   exact ⟨rfl, H4⟩


--# iRingOf_any
theorem iRingOf_any (F : Fld) (hF : F.wf) (o : Int) (m : Int) (w : World) :
 Calls Try.prog 23 #[.agg F.cells, .int .i64 o, .int .i64 m] w fun e w' => e = .returned (.tuple #[.agg #[.int .u64 ((ringS F o m).1), .int .u64 ((ringS F o m).2)], .int .i64 (code F (isB F o && inB m 0 200))]) ∧ Ext w w' := by
 refine calls_of_wp Try.func23 rfl ?_
 refine wp_frame (a' := ⟨#[.agg F.cells, .int .i64 o, .int .i64 m, undef, undef, undef, undef, undef, undef, undef, undef, undef, undef, undef, undef, undef, undef, undef], []⟩) (by kernel_rfl) ?_
 refine wsr ?_
 refine wbox F.cells ?_
 intro g1 w1 B1 E1 hg_
 have lo_g1 := Nat.le_trans ((Ext.refl w)).size hg_
 have H1 := (Ext.refl w).trans E1
 refine wboxv (.int .i64 o) ?_
 intro g2 w2 B2 E2 hg_
 have q_g1_g2 := Nat.ne_of_lt (Nat.lt_of_lt_of_le B1.lt hg_)
 have lo_g2 := Nat.le_trans (H1).size hg_
 have H2 := H1.trans E2
 replace B1 := B1.ext E2
 refine wboxv (.int .i64 m) ?_
 intro g3 w3 B3 E3 hg_
 have q_g1_g3 := Nat.ne_of_lt (Nat.lt_of_lt_of_le B1.lt hg_)
 have q_g2_g3 := Nat.ne_of_lt (Nat.lt_of_lt_of_le B2.lt hg_)
 have lo_g3 := Nat.le_trans (H2).size hg_
 have H3 := H2.trans E3
 replace B1 := B1.ext E3
 replace B2 := B2.ext E3
 refine wnew #[.int .u64 0, .int .u64 0] Try.zeroValue33 rfl ?_
 intro g4 w4 B4 E4 hg_
 have q_g1_g4 := Nat.ne_of_lt (Nat.lt_of_lt_of_le B1.lt hg_)
 have q_g2_g4 := Nat.ne_of_lt (Nat.lt_of_lt_of_le B2.lt hg_)
 have q_g3_g4 := Nat.ne_of_lt (Nat.lt_of_lt_of_le B3.lt hg_)
 have lo_g4 := Nat.le_trans (H3).size hg_
 refine wv (.int .i64 0) ?_
 refine wpList_nil (then_normal ?_)
 refine wp_seq ?_
 refine wsr ?_
 refine wv (.func (.func 56) #[] #[.pointer (some ⟨g1, 0, none⟩), .pointer (some ⟨g2, 0, none⟩), .pointer (some ⟨g3, 0, none⟩)]) ?_
 replace B1 := B1.ext E4
 replace B2 := B2.ext E4
 replace B3 := B3.ext E4
 refine wcl (fieldCode_any F hF g1 _ (.func (.func 56) #[] #[.pointer (some ⟨g1, 0, none⟩), .pointer (some ⟨g2, 0, none⟩), .pointer (some ⟨g3, 0, none⟩)]) 56 #[.pointer (some ⟨g1, 0, none⟩), .pointer (some ⟨g2, 0, none⟩), .pointer (some ⟨g3, 0, none⟩)] (fun _ => by kernel_rfl) (isB F o && inB m 0 200) _ B1 (fun _ E_ => RingOf1_any F hF g1 _ o g2 _ m g3 _ _ (B1.ext E_) (B2.ext E_) (B3.ext E_))) ?_
 intro w5 E5
 refine wv (.int .i64 (code F (isB F o && inB m 0 200))) ?_
 refine wpList_nil (then_normal ?_)
 refine wsr ?_
 refine wv (.int .i64 (code F (isB F o && inB m 0 200))) ?_
 refine wv (.bool ((code F (isB F o && inB m 0 200)) != 0)) ?_
 refine wpList_nil (then_normal ?_)
 have H4 := (H3.trans E4).trans E5
 refine wsplit ((code F (isB F o && inB m 0 200)) != 0) (fun h1 => ?_) (fun h1 => ?_)
 · skip
   have h1d := nT h1
   refine wsr ?_
   refine wv (.agg #[.int .u64 0, .int .u64 0]) ?_
   refine wv (.int .i64 (code F (isB F o && inB m 0 200))) ?_
   replace B4 := B4.ext E5
   refine wput #[.int .u64 0, .int .u64 0] row_impl_Cells B4 (by rfl) (by rfl) (by kernel_rfl) ?_
   intro w6 B4_ X1
   clear B4; have B4 := B4_; clear B4_
   refine wv (.int .i64 (code F (isB F o && inB m 0 200))) ?_
   refine wpList_nil (then_normal ?_)
   refine wp_ret ?_
   refine then_ret ?_
   have H5 := X1.ext w lo_g4 H4
   refine ret2 (.agg #[.int .u64 ((ringS F o m).1), .int .u64 ((ringS F o m).2)]) (.int .i64 (code F (isB F o && inB m 0 200))) rfl ?_ ?_ rfl ?_
   · refine ⟨g4, 33, #[.int .u64 0, .int .u64 0], _, by kernel_rfl, B4, row_impl_Cells, ?_, ?_⟩
     · rfl
     · show (.agg #[.int .u64 ((ringS F o m).1), .int .u64 ((ringS F o m).2)] : Value) = (.agg #[.int .u64 0, .int .u64 0])
       refine congrArg Value.agg ?_
       first | rw [ringS_f (by assumption)] | rw [ringS_t (by assumption)]
   · exact resT (by kernel_rfl)
   exact ⟨rfl, H5⟩
 · skip
   have h1d := nF h1
   have h1o := (code_zero h1d).1
   have h1z := (code_zero h1d).2
   obtain ⟨h1za, h1zb⟩ := andT h1z
   have h1zad := isB_true.1 h1za
   have h1zbd := inT h1zb
   refine wp_skip ?_
   refine then_normal ?_
   refine wsr ?_
   replace B2 := B2.ext E5
   refine wld (v := .int .i64 o) g2 (0) scal_int64 (B2.get (rfl)) ?_
   replace B3 := B3.ext E5
   refine wld (v := .int .i64 m) g3 (0) scal_int64 (B3.get (rfl)) ?_
   replace B1 := B1.ext E5
   refine wcl (ring_any F hF g1 _ o m (by omega) _ B1) ?_
   intro w7 E6
   replace B4 := (B4.ext E5).ext E6
   refine wput #[.int .u64 ((setC F (fun c_ => decide (sqr o c_ ≤ m)) 100).1), .int .u64 ((setC F (fun c_ => decide (sqr o c_ ≤ m)) 100).2)] row_impl_Cells B4 (by rfl) (by rfl) (by kernel_rfl) ?_
   intro w8 B4_ X2
   clear B4; have B4 := B4_; clear B4_
   refine wv (.int .i64 0) ?_
   refine wpList_nil (then_normal ?_)
   refine wp_ret ?_
   have H6 := X2.ext w lo_g4 (H4.trans E6)
   refine ret2 (.agg #[.int .u64 ((ringS F o m).1), .int .u64 ((ringS F o m).2)]) (.int .i64 (code F (isB F o && inB m 0 200))) rfl ?_ ?_ rfl ?_
   · refine ⟨g4, 33, #[.int .u64 ((setC F (fun c_ => decide (sqr o c_ ≤ m)) 100).1), .int .u64 ((setC F (fun c_ => decide (sqr o c_ ≤ m)) 100).2)], _, by kernel_rfl, B4, row_impl_Cells, ?_, ?_⟩
     · rfl
     · show (.agg #[.int .u64 ((ringS F o m).1), .int .u64 ((ringS F o m).2)] : Value) = (.agg #[.int .u64 ((setC F (fun c_ => decide (sqr o c_ ≤ m)) 100).1), .int .u64 ((setC F (fun c_ => decide (sqr o c_ ≤ m)) 100).2)])
       refine congrArg Value.agg ?_
       first | rw [ringS_f (by assumption)] | rw [ringS_t (by assumption)]
   · refine (resT (v := .int .i64 0) (by kernel_rfl)).trans ?_
     refine congrArg (Value.int _) ?_
     first | (rw [if_pos (by assumption)]; done) | (rw [if_neg (by assumption)]; done) | rfl | assumption | (symm; assumption)
   exact ⟨rfl, H6⟩


