/-
  Contracts: cells for which something is so. No conditions.
-/
import Derived.Test.YtldlaohefgianaaTy
import Derived.Test.YtldlaohefgianaaSl
import Derived.Test.YtldlaohefgianaaMth
import Derived.Test.YtldlaohefgianaaFn4
namespace Go.Proofs.Ytldlaohefgianaa
open Go.RowKit
set_option linter.unusedSimpArgs false
set_option linter.unusedVariables false
set_option maxHeartbeats 4000000
set_option maxRecDepth 100000
attribute [local irreducible] wpList Code.wp
--# those_any
theorem those_any (F : Fld) (hF : F.wf) (b : Nat) (t : TypeId) (V : Value) (fn : FuncId) (full : Int → Array Value) (p : Int → Bool) (hV : ∀ c, Clo Try.prog V #[.int .i64 c] fn (full c)) (w : World) (hb : Blk w b t F.cells) (hc : ∀ c w', isB F c = true → Ext w w' → Calls Try.prog fn (full c) w' fun e w'' => e = .returned (.bool (p c)) ∧ Ext w' w'') :
 Calls Try.prog 68 #[.pointer (some ⟨b, 0, none⟩), V] w fun e w' => e = .returned (.agg #[.int .u64 ((setC F p 100).1), .int .u64 ((setC F p 100).2)]) ∧ Ext w w' := by
 refine calls_of_wp Try.func68 rfl ?_
 refine wp_frame (a' := ⟨#[.pointer (some ⟨b, 0, none⟩), V, undef, undef, undef, undef, undef, undef, undef, undef, undef, undef, undef, undef, undef, undef, undef, undef, undef, undef, undef, undef, undef], []⟩) (by kernel_rfl) ?_
 refine wsr ?_
 refine wnew #[.int .u64 0, .int .u64 0] Try.zeroValue43 rfl ?_
 intro g1 w1 B1 E1 hg_
 have q_b_g1 := Nat.ne_of_lt (Nat.lt_of_lt_of_le hb.lt hg_)
 have lo_g1 := Nat.le_trans ((Ext.refl w)).size hg_
 refine wpList_nil (then_normal ?_)
 refine wsr ?_
 refine wv (.agg #[.int .u64 0, .int .u64 0]) ?_
 have H1 := (Ext.refl w).trans E1
 replace hb := hb.ext E1
 refine wnew #[.int .u64 0, .int .u64 0] Try.zeroValue43 rfl ?_
 intro g2 w2 B2 E2 hg_
 have q_b_g2 := Nat.ne_of_lt (Nat.lt_of_lt_of_le hb.lt hg_)
 have q_g1_g2 := Nat.ne_of_lt (Nat.lt_of_lt_of_le B1.lt hg_)
 have lo_g2 := Nat.le_trans (H1).size hg_
 refine wput #[.int .u64 0, .int .u64 0] row_impl_Cells B2 (by rfl) (by rfl) (by kernel_rfl) ?_
 intro w3 B2_ X1
 clear B2; have B2 := B2_; clear B2_
 refine wpList_nil (then_normal ?_)
 refine wp_seq ?_
 refine wsr ?_
 refine wv (.pointer (some ⟨b, 0, none⟩)) ?_
 replace hb := X1.blk (hb.ext E2) q_b_g2
 replace B1 := X1.blk (B1.ext E2) q_g1_g2
 have H2 := X1.ext w lo_g2 (H1.trans E2)
 refine wcli (cells_any F hF b _ _ hb) ?_
 intro g3 cap1 cs1 w4 B3 S1 E3 hg_
 have q_b_g3 := Nat.ne_of_lt (Nat.lt_of_lt_of_le hb.lt hg_)
 have q_g1_g3 := Nat.ne_of_lt (Nat.lt_of_lt_of_le B1.lt hg_)
 have q_g2_g3 := Nat.ne_of_lt (Nat.lt_of_lt_of_le B2.lt hg_)
 have lo_g3 := Nat.le_trans (H2).size hg_
 have cl1 := cellsL_length F
 refine wv (.int .i64 ((cellsL F).length : Int)) ?_
 refine wv (.int .i64 0) ?_
 refine wpList_nil (then_normal ?_)
 refine wp_block ?_
 replace hb := hb.ext E3
 replace B1 := B1.ext E3
 replace B2 := B2.ext E3
 have H3 := H2.trans E3
 refine wp_loop_k (fun m1 a wl1 => ∃ (j : Nat), m1 = (cellsL F).length - j ∧ j ≤ (cellsL F).length ∧ Ext w wl1 ∧ Blk wl1 b t F.cells ∧ Blk wl1 g1 43 #[.int .u64 0, .int .u64 0] ∧ Blk wl1 g2 43 #[.int .u64 ((setT F p j).1), .int .u64 ((setT F p j).2)] ∧ Blk wl1 g3 2 cs1 ∧ (∃ J1 : Nat → Value, a = ⟨#[.pointer (some ⟨b, 0, none⟩), V, undef, undef, .pointer (some ⟨g1, 0, none⟩), .pointer (some ⟨g2, 0, none⟩), undef, J1 7, .agg #[.int .u64 0, .int .u64 0], .pointer (some ⟨b, 0, none⟩), .slice (some ⟨g3, 0, none⟩) ((cellsL F).length) cap1, .int .i64 ((cellsL F).length : Int), .int .i64 (j : Int), J1 13, J1 14, J1 15, J1 16, J1 17, J1 18, J1 19, J1 20, J1 21, undef], []⟩)) ((cellsL F).length) ?_ ?_
 · refine ⟨0, rfl, ?_, H3, hb, B1, ?_, B3, exJ (by kernel_rfl)⟩
   · omega
   · unfold setT; rw [foldT_0]; exact B2
 intro m1 a wl1 hI
 obtain ⟨j, rfl, hi_, HL1, hb, B1, B2, B3, J1, rfl⟩ := hI
 refine wsr ?_
 refine wv (.bool (decide ((j : Int) < ((cellsL F).length : Int)))) ?_
 refine wpList_nil (then_normal ?_)
 refine wp_seq ?_
 refine wsplit (decide ((j : Int) < ((cellsL F).length : Int))) (fun h1 => ?_) (fun h1 => ?_)
 · skip
   have h1d := dT h1
   refine wp_skip ?_
   refine then_normal ?_
   refine wp_seq ?_
   refine wp_block ?_
   refine wsr ?_
   refine wsix1 g3 0 ((cellsL F).length) cap1 j .i64 slit__int64 ?_
   have ce1 := cellsL_in (F := F) (j := j) (by omega)
   have ci1 := cellsL_is (F := F) (j := j) (by omega)
   refine wld g3 (0 + j) scal_int64 (B3.get (SlI.get S1 (by omega))) ?_
   refine wv (.int .i64 (atI (cellsL F) j)) ?_
   refine wpList_nil (then_normal ?_)
   refine wsr ?_
   refine wv V ?_
   refine wv (.int .i64 (atI (cellsL F) j)) ?_
   refine wcl (he := (Eq.trans (b := (callV V #[.int .i64 (atI (cellsL F) j)]).run Try.prog _) (by kernel_rfl) (hV (atI (cellsL F) j) _))) (hc (atI (cellsL F) j) _ (by first | assumption | omega) HL1) ?_
   intro w5 E4
   refine wpList_nil (then_normal ?_)
   have H4 := HL1.trans E4
   refine wsplit (p (atI (cellsL F) j)) (fun h2 => ?_) (fun h2 => ?_)
   · skip
     refine wp_region_lit ?_
     refine wv (.int .i64 (atI (cellsL F) j)) ?_
     replace B2 := B2.ext E4
     refine wcl (put_any ((setT F p j).1) ((setT F p j).2) g2 _ (atI (cellsL F) j) (by omega) _ B2) ?_
     rintro w6 ⟨B2_, X2⟩
     clear B2; have B2 := B2_; clear B2_
     refine wpList_nil (block_normal (then_normal ?_))
     refine wp_region_lit ?_
     refine wi64 ((j : Int) + 1) ?_
     refine wv (.int .i64 ((j : Int) + 1)) ?_
     refine wpList_nil (then_normal ?_)
     replace hb := X2.blk (hb.ext E4) q_b_g2
     replace B1 := X2.blk (B1.ext E4) q_g1_g2
     replace B3 := X2.blk (B3.ext E4) (Ne.symm q_g2_g3)
     have H5 := X2.ext w lo_g2 H4
     refine ⟨_, ?_, j + 1, rfl, ?_, H5, hb, B1, ?_, B3, exJ (by kernel_rfl)⟩
     · omega
     · omega
     · first | (rw [setT_1 (by omega) (by assumption)]; exact B2) | (rw [setT_2 (by omega) (by assumption)]; exact B2)
   · skip
     refine wp_skip ?_
     refine block_normal (then_normal ?_)
     refine wp_region_lit ?_
     refine wi64 ((j : Int) + 1) ?_
     refine wv (.int .i64 ((j : Int) + 1)) ?_
     refine wpList_nil (then_normal ?_)
     replace hb := hb.ext E4
     replace B1 := B1.ext E4
     replace B2 := B2.ext E4
     replace B3 := B3.ext E4
     refine ⟨_, ?_, j + 1, rfl, ?_, H4, hb, B1, ?_, B3, exJ (by kernel_rfl)⟩
     · omega
     · omega
     · first | (rw [setT_1 (by omega) (by assumption)]; exact B2) | (rw [setT_2 (by omega) (by assumption)]; exact B2)
 · skip
   have h1d := dF h1
   refine wp_exit ?_
   refine then_exit ?_
   refine then_exit ?_
   refine block_exit ?_
   refine then_normal ?_
   refine wsr ?_
   refine wrow row_impl_Cells B2 (by rfl) ?_
   refine wput #[.int .u64 ((setT F p j).1), .int .u64 ((setT F p j).2)] row_impl_Cells B1 (by rfl) (by rfl) (by kernel_rfl) ?_
   intro w7 B1_ X3
   clear B1; have B1 := B1_; clear B1_
   refine wpList_nil (then_normal ?_)
   refine wp_ret ?_
   have H6 := X3.ext w lo_g1 HL1
   refine ret1 (.agg #[.int .u64 ((setC F p 100).1), .int .u64 ((setC F p 100).2)]) rfl ?_ rfl ?_
   · refine ⟨g1, 43, #[.int .u64 ((setT F p j).1), .int .u64 ((setT F p j).2)], _, by kernel_rfl, B1, row_impl_Cells, ?_, ?_⟩
     · rfl
     · show (.agg #[.int .u64 ((setC F p 100).1), .int .u64 ((setC F p 100).2)] : Value) = (.agg #[.int .u64 ((setT F p j).1), .int .u64 ((setT F p j).2)])
       refine congrArg Value.agg ?_
       rw [setT_end (by omega)]
   exact ⟨rfl, H6⟩


--# ofKind1_any
theorem ofKind1_any (c : Int) (hc : 0 ≤ c ∧ c ≤ 99) (F : Fld) (hF : F.wf) (b0 : Nat) (t0 : TypeId) (bf : Nat) (tf : TypeId) (k : Int) (b1 : Nat) (t1 : TypeId) (w : World) (hb0 : Blk w b0 t0 #[.pointer (some ⟨bf, 0, none⟩)]) (hbf : Blk w bf tf F.cells) (hb1 : Blk w b1 t1 #[.int .i64 k]) :
 Calls Try.prog 69 #[.int .i64 c, .pointer (some ⟨b0, 0, none⟩), .pointer (some ⟨b1, 0, none⟩)] w fun e w' => e = .returned (.bool (F.k c.toNat == k)) ∧ Ext w w' := by
 refine calls_of_wp Try.func69 rfl ?_
 refine wp_frame (a' := ⟨#[.int .i64 c, .pointer (some ⟨b0, 0, none⟩), .pointer (some ⟨b1, 0, none⟩), undef, undef, undef, undef, undef, undef, undef, undef, undef, undef, undef], []⟩) (by kernel_rfl) ?_
 refine wsr ?_
 refine wv (.bool false) ?_
 refine wpList_nil (then_normal ?_)
 refine wp_seq ?_
 refine wp_frame (a' := ⟨#[.int .i64 c, .pointer (some ⟨b0, 0, none⟩), .pointer (some ⟨b1, 0, none⟩), undef, .bool false, undef, undef, undef, undef, undef, undef, undef, undef, undef], []⟩) (by kernel_rfl) ?_
 have ce1 := hF.k1 ((c).toNat) (by omega)
 refine region_go 10 [5, 6, 7, 8, 9, 10, 11, 12, 13, 4] [[], [], [0], [2], [3, 1], [4], [5], [], [6, 7], [8]]
  (fun i_ => ([.val (.pointer (some ⟨bf, 0, none⟩)), .val (.int .i64 c), .val (.pointer (some ⟨bf, 0, none⟩)), .val (.pointer (some ⟨bf, 2, none⟩)), .val (.pointer (some ⟨bf, 2 + (c).toNat, none⟩)), .val (.int .u8 (F.k ((c).toNat))), .val (.int .i64 (F.k ((c).toNat))), .val (.int .i64 k), .val (.bool ((F.k ((c).toNat)) == k)), .val (.bool ((F.k ((c).toNat)) == k))] : List Fct).getD i_ .any)
  (by kernel_rfl) (by kernel_rfl) (by decide) (by simp) rfl (all_succ (all_succ (all_succ (all_succ (all_succ (all_succ (all_succ (all_succ (all_succ (all_succ all_zero ?_) ?_) ?_) ?_) ?_) ?_) ?_) ?_) ?_) ?_) ?_
 · refine step0 rfl rfl rfl (fun wr hw => ?_)
   exact OpRun.cell (g := b0) (off := 0) (v := .pointer (some ⟨bf, 0, none⟩)) scal__impl_Field rfl (by kernel_rfl) ((hb0.ext hw).get (rfl)) ⟨Ext.refl _, rfl⟩
 · refine step0 rfl rfl rfl (fun wr hw => ?_)
   exact OpRun.val (.int .i64 c) (.int .i64 c) (by kernel_rfl) rfl ⟨Ext.refl _, rfl⟩
 · refine step1 rfl rfl rfl rfl (fun u0 wr hw h0 => ?_)
   cases h0
   exact OpRun.val (.pointer (some ⟨bf, 0, none⟩)) (.pointer (some ⟨bf, 0, none⟩)) (by kernel_rfl) rfl ⟨Ext.refl _, rfl⟩
 · refine step1 rfl rfl rfl rfl (fun u0 wr hw h0 => ?_)
   cases h0
   exact OpRun.val (.pointer (some ⟨bf, 2, none⟩)) (.pointer (some ⟨bf, 2, none⟩)) (by kernel_rfl) rfl ⟨Ext.refl _, rfl⟩
 · refine step2 rfl rfl rfl rfl rfl (fun u0 u1 wr hw h0 h1 => ?_)
   cases h0
   cases h1
   exact OpRun.ixa (i := c) (k := .i64) (g := bf) (off := 2) arrt__100_uint8 rfl (by kernel_rfl) (by kernel_rfl) (by omega) (by omega) ⟨Ext.refl _, rfl⟩
 · refine step1 rfl rfl rfl rfl (fun u0 wr hw h0 => ?_)
   cases h0
   exact OpRun.cell (g := bf) (off := 2 + (c).toNat) (v := .int .u8 (F.k ((c).toNat))) scal_uint8 rfl (by kernel_rfl) ((hbf.ext hw).get (Fld.getk _ _ (by omega))) ⟨Ext.refl _, rfl⟩
 · refine step1 rfl rfl rfl rfl (fun u0 wr hw h0 => ?_)
   cases h0
   exact OpRun.val (.int .i64 (IntKind.i64.wrap (F.k ((c).toNat)))) (.int .i64 (F.k ((c).toNat))) (by kernel_rfl) (by exact congrArg _ (IntWalk.i64_in _ (by omega))) ⟨Ext.refl _, rfl⟩
 · refine step0 rfl rfl rfl (fun wr hw => ?_)
   exact OpRun.cell (g := b1) (off := 0) (v := .int .i64 k) scal_int64 rfl (by kernel_rfl) ((hb1.ext hw).get (rfl)) ⟨Ext.refl _, rfl⟩
 · refine step2 rfl rfl rfl rfl rfl (fun u0 u1 wr hw h0 h1 => ?_)
   cases h0
   cases h1
   exact OpRun.val (.bool ((F.k ((c).toNat)) == k)) (.bool ((F.k ((c).toNat)) == k)) (by kernel_rfl) rfl ⟨Ext.refl _, rfl⟩
 · refine step1 rfl rfl rfl rfl (fun u0 wr hw h0 => ?_)
   cases h0
   exact OpRun.val (.bool ((F.k ((c).toNat)) == k)) (.bool ((F.k ((c).toNat)) == k)) (by kernel_rfl) rfl ⟨Ext.refl _, rfl⟩
 refine end10 (fun u0 u1 u2 u3 u4 u5 u6 u7 u8 u9 w1 E1 f0 f1 f2 f3 f4 f5 f6 f7 f8 f9 => ?_)
 cases f0
 cases f1
 cases f2
 cases f3
 cases f4
 cases f5
 cases f6
 cases f7
 cases f8
 cases f9
 refine wpList_nil (then_normal ?_)
 refine wp_ret ?_
 have H1 := (Ext.refl w).trans E1
 refine ret1 (.bool (F.k c.toNat == k)) rfl ?_ rfl ?_
 · refine (resT (v := .bool ((F.k ((c).toNat)) == k)) (by kernel_rfl)).trans ?_
   refine congrArg Value.bool ?_
   rfl
 exact ⟨rfl, H1⟩


--# ofKind_any
theorem ofKind_any (F : Fld) (hF : F.wf) (b : Nat) (t : TypeId) (k : Int) (w : World) (hb : Blk w b t F.cells) :
 Calls Try.prog 58 #[.pointer (some ⟨b, 0, none⟩), .int .i64 k] w fun e w' => e = .returned (.agg #[.int .u64 ((setC F (fun c_ => F.k c_.toNat == k) 100).1), .int .u64 ((setC F (fun c_ => F.k c_.toNat == k) 100).2)]) ∧ Ext w w' := by
 refine calls_of_wp Try.func58 rfl ?_
 refine wp_frame (a' := ⟨#[.pointer (some ⟨b, 0, none⟩), .int .i64 k, undef, undef, undef, undef, undef, undef], []⟩) (by kernel_rfl) ?_
 refine wsr ?_
 refine wboxv (.pointer (some ⟨b, 0, none⟩)) ?_
 intro g1 w1 B1 E1 hg_
 have q_b_g1 := Nat.ne_of_lt (Nat.lt_of_lt_of_le hb.lt hg_)
 have lo_g1 := Nat.le_trans ((Ext.refl w)).size hg_
 have H1 := (Ext.refl w).trans E1
 replace hb := hb.ext E1
 refine wboxv (.int .i64 k) ?_
 intro g2 w2 B2 E2 hg_
 have q_b_g2 := Nat.ne_of_lt (Nat.lt_of_lt_of_le hb.lt hg_)
 have q_g1_g2 := Nat.ne_of_lt (Nat.lt_of_lt_of_le B1.lt hg_)
 have lo_g2 := Nat.le_trans (H1).size hg_
 have H2 := H1.trans E2
 replace hb := hb.ext E2
 replace B1 := B1.ext E2
 refine wnew #[.int .u64 0, .int .u64 0] Try.zeroValue43 rfl ?_
 intro g3 w3 B3 E3 hg_
 have q_b_g3 := Nat.ne_of_lt (Nat.lt_of_lt_of_le hb.lt hg_)
 have q_g1_g3 := Nat.ne_of_lt (Nat.lt_of_lt_of_le B1.lt hg_)
 have q_g2_g3 := Nat.ne_of_lt (Nat.lt_of_lt_of_le B2.lt hg_)
 have lo_g3 := Nat.le_trans (H2).size hg_
 refine wpList_nil (then_normal ?_)
 refine wsr ?_
 replace B1 := B1.ext E3
 refine wld (v := .pointer (some ⟨b, 0, none⟩)) g1 (0) scal__impl_Field (B1.get (rfl)) ?_
 refine wv (.func (.func 69) #[] #[.pointer (some ⟨g1, 0, none⟩), .pointer (some ⟨g2, 0, none⟩)]) ?_
 replace hb := hb.ext E3
 replace B2 := B2.ext E3
 refine wcl (those_any F hF b _ (.func (.func 69) #[] #[.pointer (some ⟨g1, 0, none⟩), .pointer (some ⟨g2, 0, none⟩)]) 69 (fun c_ => #[.int .i64 c_, .pointer (some ⟨g1, 0, none⟩), .pointer (some ⟨g2, 0, none⟩)]) (fun c_ => F.k c_.toNat == k) (fun _ _ => by kernel_rfl) _ hb (fun c_ _ I_ E_ => by have J_ := isB_true.1 I_; exact ofKind1_any c_ (by omega) F hF g1 _ b _ k g2 _ _ (B1.ext E_) (hb.ext E_) (B2.ext E_))) ?_
 intro w4 E4
 replace B3 := B3.ext E4
 refine wput #[.int .u64 ((setC F (fun c_ => F.k c_.toNat == k) 100).1), .int .u64 ((setC F (fun c_ => F.k c_.toNat == k) 100).2)] row_impl_Cells B3 (by rfl) (by rfl) (by kernel_rfl) ?_
 intro w5 B3_ X1
 clear B3; have B3 := B3_; clear B3_
 refine wpList_nil (then_normal ?_)
 refine wp_ret ?_
 have H3 := X1.ext w lo_g3 ((H2.trans E3).trans E4)
 refine ret1 (.agg #[.int .u64 ((setC F (fun c_ => F.k c_.toNat == k) 100).1), .int .u64 ((setC F (fun c_ => F.k c_.toNat == k) 100).2)]) rfl ?_ rfl ?_
 · refine ⟨g3, 43, #[.int .u64 ((setC F (fun c_ => F.k c_.toNat == k) 100).1), .int .u64 ((setC F (fun c_ => F.k c_.toNat == k) 100).2)], _, by kernel_rfl, B3, row_impl_Cells, ?_, ?_⟩
   · rfl
   · rfl
 exact ⟨rfl, H3⟩


