/-
  Contracts: the search for the fewest places. No conditions.
-/
import Derived.Test.YtldlaohefgianaaTy
import Derived.Test.YtldlaohefgianaaSl
import Derived.Test.YtldlaohefgianaaMth
import Derived.Test.YtldlaohefgianaaSk
namespace Go.Proofs.Ytldlaohefgianaa
open Go.RowKit
set_option linter.unusedSimpArgs false
set_option linter.unusedVariables false
set_option maxHeartbeats 4000000
set_option maxRecDepth 100000
attribute [local irreducible] wpList Code.wp
--# scsk
-- 35
theorem scal_map_int64_impl_Cells : ScalT Try.prog 71 := ⟨_, Try.underlying71, rfl, by kernel_rfl⟩

--# cloneI
-- 56
theorem cloneI_any (xs : List Int) (n b cap : Nat) (cs : Array Value) (hS : SlI cs n cap .i64 xs) (hx : n ≤ 1048576) (w : World) (hb : Blk w b 2 cs) :
    Calls Try.prog 56 #[.slice (some ⟨b, 0, none⟩) n cap] w fun e w' => RetI w 2 .i64 xs id e w' := by
  have hl := hS.len
  subst hl
  exact cloneJ_any xs b cap cs hS hx w hb

--# seek_step
theorem seek_step (F : Fld) (hF : F.wf) (w0 l : Int) (B : Int) (m : Nat) (bf : Nat) (tf : TypeId) (bm b : Nat) (lk : Int) (x y : Int) (o : List Int) (n gP cap : Nat) (cs : Array Value) (hS : SlI cs n cap .i64 o) (mo : Int) (hmo : mo = (m : Int)) (hok : okP (x, y)) (hn : n + m ≤ 1000) (hnf : bf ≠ b) (hnm : bm ≠ b) (hnP : gP ≠ b) (hl0 : 0 ≤ lk) (hlB : lk ≤ B) (hB : B ≤ 20000) (w : World) (hbf : Blk w bf tf F.cells) (hbm : MV w bm (.agg #[.int .u64 0, .int .u64 0]) (cvV F w0 l)) (hb : Blk w b 74 #[.pointer (some ⟨bf, 0, none⟩), .map (some bm), .int .i64 lk, .int .i64 B]) (hbP : Blk w gP 2 cs) (IH : ∀ m', m' < m → SeekP F w0 l B m') :
 Calls Try.prog 35 #[.pointer (some ⟨b, 0, none⟩), .agg #[.int .u64 x, .int .u64 y], .slice (some ⟨gP, 0, none⟩) n cap, .int .i64 mo] w fun e w' => SkR w b 74 2 (.pointer (some ⟨bf, 0, none⟩)) (.map (some bm)) B gP (seekF F w0 l B m (x, y) o lk) e w' := by
 have hn_ := hS.len
 have hm_ : ¬ mo = 0 → m ≠ 0 ∧ m - 1 < m ∧ mo - 1 = ((m - 1 : Nat) : Int) ∧ o.length + 1 + (m - 1) ≤ 1000 := fun h => by refine ⟨?_, ?_, ?_, ?_⟩ <;> omega
 have hm0_ : mo = 0 → m = 0 := fun h => by omega
 refine calls_of_wp Try.func35 rfl ?_
 refine wp_frame (a' := ⟨#[.pointer (some ⟨b, 0, none⟩), .agg #[.int .u64 x, .int .u64 y], .slice (some ⟨gP, 0, none⟩) n cap, .int .i64 mo, undef, undef, undef, undef, undef, undef, undef, undef, undef, undef, undef, undef, undef, undef, undef, undef, undef, undef, undef, undef, undef, undef, undef, undef, undef, undef, undef, undef, undef, undef, undef, undef, undef, undef, undef, undef, undef, undef, undef, undef, undef, undef, undef, undef, undef, undef, undef, undef, undef, undef, undef, undef, undef, undef, undef, undef, undef, undef, undef, undef, undef, undef, undef, undef, undef, undef, undef, undef, undef, undef, undef, undef, undef, undef, undef, undef, undef, undef, undef, undef, undef, undef, undef, undef], []⟩) (by kernel_rfl) ?_
 refine wsr ?_
 refine wbox #[.int .u64 x, .int .u64 y] ?_
 intro g1 w1 B1 E1 hg_
 have q_bf_g1 := Nat.ne_of_lt (Nat.lt_of_lt_of_le hbf.lt hg_)
 have q_bm_g1 := Nat.ne_of_lt (Nat.lt_of_lt_of_le hbm.lt hg_)
 have q_b_g1 := Nat.ne_of_lt (Nat.lt_of_lt_of_le hb.lt hg_)
 have q_gP_g1 := Nat.ne_of_lt (Nat.lt_of_lt_of_le hbP.lt hg_)
 have lo_g1 := Nat.le_trans ((Wr.of_ext (b := b) (Ext.refl w))).size hg_
 refine wv (.slice none 0 0) ?_
 refine wv (.bool false) ?_
 refine wpList_nil (then_normal ?_)
 refine wsr ?_
 refine wrow row_impl_Cells B1 (by rfl) ?_
 replace hbf := hbf.ext E1
 replace hbm := hbm.ext E1
 replace hb := hb.ext E1
 replace hbP := hbP.ext E1
 have H1 := (Wr.of_ext (b := b) (Ext.refl w)).trans (Wr.of_ext E1)
 refine wcli (iListOf_any x y _) ?_
 intro g2 cap1 cs1 w2 B2 S1 E2 hg_
 have q_bf_g2 := Nat.ne_of_lt (Nat.lt_of_lt_of_le hbf.lt hg_)
 have q_bm_g2 := Nat.ne_of_lt (Nat.lt_of_lt_of_le hbm.lt hg_)
 have q_b_g2 := Nat.ne_of_lt (Nat.lt_of_lt_of_le hb.lt hg_)
 have q_gP_g2 := Nat.ne_of_lt (Nat.lt_of_lt_of_le hbP.lt hg_)
 have q_g1_g2 := Nat.ne_of_lt (Nat.lt_of_lt_of_le B1.lt hg_)
 have lo_g2 := Nat.le_trans (H1).size hg_
 have ll1 := listL_length x y
 refine wv (.slice (some ⟨g2, 0, none⟩) ((listL x y).length) cap1) ?_
 refine wpList_nil (then_normal ?_)
 refine wp_seq ?_
 refine wp_block ?_
 refine wsr ?_
 refine wv (.slice (some ⟨g2, 0, none⟩) ((listL x y).length) cap1) ?_
 refine wv (.int .i64 ((listL x y).length : Int)) ?_
 refine wv (.bool (((listL x y).length : Int) == 0)) ?_
 refine wv (.bool (((listL x y).length : Int) == 0)) ?_
 refine wpList_nil (then_normal ?_)
 have H2 := H1.trans (Wr.of_ext E2)
 refine wsplit (((listL x y).length : Int) == 0) (fun h1 => ?_) (fun h1 => ?_)
 · skip
   have h1d := eT h1
   refine wsr ?_
   refine wv (.slice (some ⟨gP, 0, none⟩) n cap) ?_
   refine wv (.slice (some ⟨gP, 0, none⟩) n cap) ?_
   refine wv (.bool true) ?_
   refine wpList_nil (then_normal ?_)
   refine wp_ret ?_
   refine block_ret (then_ret ?_)
   refine ret2 (.slice (some ⟨gP, 0, none⟩) n cap) (.bool true) rfl ?_ ?_ rfl ?_
   · exact resT (by kernel_rfl)
   · exact resT (by kernel_rfl)
   replace hb := hb.ext E2
   replace hbP := hbP.ext E2
   exact SkR.some (seekf_e hok (by assumption)) rfl rfl rfl hb H2 hbP hS hnP (.inl rfl)
 · skip
   have h1d := eF h1
   refine wsr ?_
   refine wv (.int .i64 mo) ?_
   refine wv (.bool (mo == 0)) ?_
   refine wv (.bool (mo == 0)) ?_
   refine wpList_nil (then_normal ?_)
   refine wsplit (mo == 0) (fun h2 => ?_) (fun h2 => ?_)
   · skip
     have h2d := eT h2
     refine wsr ?_
     refine wv (.slice none 0 0) ?_
     refine wv (.bool true) ?_
     refine wpList_nil (then_normal ?_)
     refine wp_ret ?_
     refine block_ret (then_ret ?_)
     refine ret2 (.slice none 0 0) (.bool true) rfl ?_ ?_ rfl ?_
     · exact resT (by kernel_rfl)
     · exact resT (by kernel_rfl)
     replace hb := hb.ext E2
     exact SkR.nil (seekf_0 hok (by assumption) (hm0_ (by assumption))) rfl rfl rfl hb H2
   · skip
     have h2d := eF h2
     refine wp_skip ?_
     refine block_normal (then_normal ?_)
     refine wp_seq ?_
     refine wsr ?_
     refine wv (.pointer (some ⟨b, 0, none⟩)) ?_
     refine wv (.pointer (some ⟨b, 0, none⟩)) ?_
     refine wv (.pointer (some ⟨b, 0, none⟩)) ?_
     replace hb := hb.ext E2
     refine wld (v := .pointer (some ⟨bf, 0, none⟩)) b (0) scal__impl_Field (hb.get (rfl)) ?_
     replace hbf := hbf.ext E2
     replace hbm := hbm.ext E2
     replace hbP := hbP.ext E2
     replace B1 := B1.ext E2
     refine wcli (cells_any F hF bf _ _ hbf) ?_
     intro g3 cap2 cs2 w3 B3 S2 E3 hg_
     have q_bf_g3 := Nat.ne_of_lt (Nat.lt_of_lt_of_le hbf.lt hg_)
     have q_bm_g3 := Nat.ne_of_lt (Nat.lt_of_lt_of_le hbm.lt hg_)
     have q_b_g3 := Nat.ne_of_lt (Nat.lt_of_lt_of_le hb.lt hg_)
     have q_gP_g3 := Nat.ne_of_lt (Nat.lt_of_lt_of_le hbP.lt hg_)
     have q_g1_g3 := Nat.ne_of_lt (Nat.lt_of_lt_of_le B1.lt hg_)
     have q_g2_g3 := Nat.ne_of_lt (Nat.lt_of_lt_of_le B2.lt hg_)
     have lo_g3 := Nat.le_trans (H2).size hg_
     have cl1 := cellsL_length F
     refine wv (.int .i64 ((cellsL F).length : Int)) ?_
     refine wv (.int .i64 0) ?_
     refine wpList_nil (then_normal ?_)
     refine wp_block ?_
     replace hbf := hbf.ext E3
     replace hbm := hbm.ext E3
     replace hb := hb.ext E3
     replace hbP := hbP.ext E3
     replace B1 := B1.ext E3
     replace B2 := B2.ext E3
     have H3 := H2.trans (Wr.of_ext E3)
     refine wp_loop_k (fun m1 a wl1 => ∃ (j : Nat) (lk_ : Int), m1 = (cellsL F).length - j ∧ j ≤ (cellsL F).length ∧ atF F w0 l B (m - 1) (x, y) o j lk_ = seekF F w0 l B m (x, y) o lk ∧ 0 ≤ lk_ ∧ lk_ ≤ B ∧ Wr b w wl1 ∧ Blk wl1 bf tf F.cells ∧ MV wl1 bm (.agg #[.int .u64 0, .int .u64 0]) (cvV F w0 l) ∧ Blk wl1 b 74 #[.pointer (some ⟨bf, 0, none⟩), .map (some bm), .int .i64 lk_, .int .i64 B] ∧ Blk wl1 gP 2 cs ∧ Blk wl1 g1 43 #[.int .u64 x, .int .u64 y] ∧ Blk wl1 g2 2 cs1 ∧ Blk wl1 g3 2 cs2 ∧ (∃ J1 : Nat → Value, a = ⟨#[.pointer (some ⟨b, 0, none⟩), .agg #[.int .u64 x, .int .u64 y], .slice (some ⟨gP, 0, none⟩) n cap, .int .i64 mo, undef, .pointer (some ⟨g1, 0, none⟩), undef, undef, J1 8, J1 9, .slice (some ⟨g2, 0, none⟩) ((listL x y).length) cap1, undef, J1 12, J1 13, J1 14, J1 15, .agg #[.int .u64 x, .int .u64 y], .slice (some ⟨g2, 0, none⟩) ((listL x y).length) cap1, .bool (((listL x y).length : Int) == 0), .slice (some ⟨g2, 0, none⟩) ((listL x y).length) cap1, .int .i64 ((listL x y).length : Int), .bool (((listL x y).length : Int) == 0), undef, .bool (mo == 0), .int .i64 mo, .bool (mo == 0), .pointer (some ⟨b, 0, none⟩), .pointer (some ⟨b, 0, none⟩), .pointer (some ⟨b, 0, none⟩), .pointer (some ⟨bf, 0, none⟩), .slice (some ⟨g3, 0, none⟩) ((cellsL F).length) cap2, .int .i64 ((cellsL F).length : Int), .int .i64 (j : Int), J1 33, J1 34, J1 35, J1 36, J1 37, J1 38, J1 39, J1 40, J1 41, J1 42, J1 43, J1 44, J1 45, J1 46, J1 47, J1 48, J1 49, J1 50, J1 51, J1 52, J1 53, J1 54, J1 55, J1 56, J1 57, J1 58, J1 59, J1 60, J1 61, J1 62, J1 63, J1 64, J1 65, J1 66, J1 67, J1 68, J1 69, J1 70, J1 71, J1 72, J1 73, J1 74, J1 75, J1 76, J1 77, J1 78, J1 79, J1 80, J1 81, J1 82, J1 83, J1 84, J1 85, J1 86, J1 87], []⟩)) ((cellsL F).length) ?_ ?_
     · refine ⟨0, lk, rfl, ?_, ?_, ?_, ?_, H3, hbf, hbm, hb, hbP, B1, B2, B3, exJ (by kernel_rfl)⟩
       · omega
       · exact (seekf_s hok (by assumption) (hm_ (by assumption)).1).symm
       · omega
       · omega
     intro m1 a wl1 hI
     obtain ⟨j, lk_, rfl, hi_, hI, hk0, hkB, HL1, hbf, hbm, hb, hbP, B1, B2, B3, J1, rfl⟩ := hI
     refine wsr ?_
     refine wv (.bool (decide ((j : Int) < ((cellsL F).length : Int)))) ?_
     refine wpList_nil (then_normal ?_)
     refine wp_seq ?_
     refine wsplit (decide ((j : Int) < ((cellsL F).length : Int))) (fun h3 => ?_) (fun h3 => ?_)
     · skip
       have h3d := dT h3
       refine wp_skip ?_
       refine then_normal ?_
       refine wp_seq ?_
       refine wp_block ?_
       refine wsr ?_
       refine wsix1 g3 0 ((cellsL F).length) cap2 j .i64 slit__int64 ?_
       have ce1 := cellsL_in (F := F) (j := j) (by omega)
       have ci1 := cellsL_is (F := F) (j := j) (by omega)
       refine wld g3 (0 + j) scal_int64 (B3.get (SlI.get S2 (by omega))) ?_
       refine wv (.int .i64 (atI (cellsL F) j)) ?_
       refine wpList_nil (then_normal ?_)
       refine wsr ?_
       refine wv (.pointer (some ⟨b, 0, none⟩)) ?_
       refine wv (.pointer (some ⟨b, 0, none⟩)) ?_
       refine wv (.pointer (some ⟨b, 1, none⟩)) ?_
       refine wld (v := .map (some bm)) b (1) scal_map_int64_impl_Cells (hb.get (rfl)) ?_
       refine wv (.int .i64 (atI (cellsL F) j)) ?_
       refine wmlk bm (atI (cellsL F) j) mapt_map_int64_impl_Cells hbm (by omega) ?_
       refine wnew #[.int .u64 0, .int .u64 0] Try.zeroValue43 rfl ?_
       intro g4 w4 B4 E4 hg_
       have q_bf_g4 := Nat.ne_of_lt (Nat.lt_of_lt_of_le hbf.lt hg_)
       have q_bm_g4 := Nat.ne_of_lt (Nat.lt_of_lt_of_le hbm.lt hg_)
       have q_b_g4 := Nat.ne_of_lt (Nat.lt_of_lt_of_le hb.lt hg_)
       have q_gP_g4 := Nat.ne_of_lt (Nat.lt_of_lt_of_le hbP.lt hg_)
       have q_g1_g4 := Nat.ne_of_lt (Nat.lt_of_lt_of_le B1.lt hg_)
       have q_g2_g4 := Nat.ne_of_lt (Nat.lt_of_lt_of_le B2.lt hg_)
       have q_g3_g4 := Nat.ne_of_lt (Nat.lt_of_lt_of_le B3.lt hg_)
       have lo_g4 := Nat.le_trans (HL1).size hg_
       refine wput #[.int .u64 ((cvP F w0 l (atI (cellsL F) j)).1), .int .u64 ((cvP F w0 l (atI (cellsL F) j)).2)] row_impl_Cells B4 (by rfl) (by rfl) (by kernel_rfl) ?_
       intro w5 B4_ X1
       clear B4; have B4 := B4_; clear B4_
       refine wpList_nil (then_normal ?_)
       refine wp_seq ?_
       refine wp_seq ?_
       refine wp_frame (a' := ⟨#[.pointer (some ⟨b, 0, none⟩), .agg #[.int .u64 x, .int .u64 y], .slice (some ⟨gP, 0, none⟩) n cap, .int .i64 mo, undef, .pointer (some ⟨g1, 0, none⟩), undef, undef, J1 8, J1 9, .slice (some ⟨g2, 0, none⟩) ((listL x y).length) cap1, undef, .int .i64 (atI (cellsL F) j), .pointer (some ⟨g4, 0, none⟩), J1 14, J1 15, .agg #[.int .u64 x, .int .u64 y], .slice (some ⟨g2, 0, none⟩) ((listL x y).length) cap1, .bool (((listL x y).length : Int) == 0), .slice (some ⟨g2, 0, none⟩) ((listL x y).length) cap1, .int .i64 ((listL x y).length : Int), .bool (((listL x y).length : Int) == 0), undef, .bool (mo == 0), .int .i64 mo, .bool (mo == 0), .pointer (some ⟨b, 0, none⟩), .pointer (some ⟨b, 0, none⟩), .pointer (some ⟨b, 0, none⟩), .pointer (some ⟨bf, 0, none⟩), .slice (some ⟨g3, 0, none⟩) ((cellsL F).length) cap2, .int .i64 ((cellsL F).length : Int), .int .i64 (j : Int), .bool (decide ((j : Int) < ((cellsL F).length : Int))), .pointer (some ⟨g3, 0 + j, none⟩), .int .i64 (atI (cellsL F) j), .pointer (some ⟨b, 0, none⟩), .pointer (some ⟨b, 0, none⟩), .pointer (some ⟨b, 1, none⟩), .map (some bm), .int .i64 (atI (cellsL F) j), .agg #[.int .u64 ((cvP F w0 l (atI (cellsL F) j)).1), .int .u64 ((cvP F w0 l (atI (cellsL F) j)).2)], J1 42, J1 43, J1 44, J1 45, J1 46, J1 47, J1 48, J1 49, J1 50, J1 51, J1 52, J1 53, J1 54, J1 55, J1 56, J1 57, J1 58, J1 59, J1 60, J1 61, J1 62, J1 63, J1 64, J1 65, J1 66, J1 67, J1 68, J1 69, J1 70, J1 71, J1 72, J1 73, J1 74, J1 75, J1 76, J1 77, J1 78, J1 79, J1 80, J1 81, J1 82, J1 83, J1 84, J1 85, J1 86, J1 87], []⟩) (by kernel_rfl) ?_
       replace B2 := X1.blk (B2.ext E4) q_g2_g4
       refine region_go 6 [42, 43, 44, 45, 46, 47] [[], [], [1], [2], [0, 3], [4]]
        (fun i_ => ([.val (.agg #[.int .u64 ((cvP F w0 l (atI (cellsL F) j)).1), .int .u64 ((cvP F w0 l (atI (cellsL F) j)).2)]), .val (.slice (some ⟨g2, 0, none⟩) ((listL x y).length) cap1), .val (.pointer (some ⟨g2, 0 + 0, none⟩)), .val (.int .i64 (atI (listL x y) 0)), .val (.bool (hasB ((cvP F w0 l (atI (cellsL F) j)).1) ((cvP F w0 l (atI (cellsL F) j)).2) (atI (listL x y) 0))), .val (.bool (!(hasB ((cvP F w0 l (atI (cellsL F) j)).1) ((cvP F w0 l (atI (cellsL F) j)).2) (atI (listL x y) 0))))] : List Fct).getD i_ .any)
        (by kernel_rfl) (by kernel_rfl) (by decide) (by simp) rfl (all_succ (all_succ (all_succ (all_succ (all_succ (all_succ all_zero ?_) ?_) ?_) ?_) ?_) ?_) ?_
       · refine step0 rfl rfl rfl (fun wr hw => ?_)
         with_reducible refine OpRun.row (x := (.tmp 13)) row_impl_Cells (B4.ext hw) ?_ ?_ ?_ ?_
         · rfl
         · rfl
         · kernel_rfl
         · exact ⟨Ext.refl _, rfl⟩
       · refine step0 rfl rfl rfl (fun wr hw => ?_)
         exact OpRun.val (.slice (some ⟨g2, 0, none⟩) ((listL x y).length) cap1) (.slice (some ⟨g2, 0, none⟩) ((listL x y).length) cap1) (by kernel_rfl) rfl ⟨Ext.refl _, rfl⟩
       · refine step1 rfl rfl rfl rfl (fun u0 wr hw h0 => ?_)
         cases h0
         exact OpRun.six1 (i := 0) (k := .i64) (g := g2) (off := 0) (n := ((listL x y).length)) (cap := cap1) slit__int64 rfl (by kernel_rfl) (by kernel_rfl) (by omega) ⟨Ext.refl _, rfl⟩
       · refine step1 rfl rfl rfl rfl (fun u0 wr hw h0 => ?_)
         cases h0
         exact OpRun.cell (g := g2) (off := 0 + 0) (v := .int .i64 (atI (listL x y) 0)) scal_int64 rfl (by kernel_rfl) ((B2.ext hw).get (SlI.get S1 (by omega))) ⟨Ext.refl _, rfl⟩
       · refine step2 rfl rfl rfl rfl rfl (fun u0 u1 wr hw h0 h1 => ?_)
         cases h0
         cases h1
         exact OpRun.call 54 #[.agg #[.int .u64 ((cvP F w0 l (atI (cellsL F) j)).1), .int .u64 ((cvP F w0 l (atI (cellsL F) j)).2)], .int .i64 (atI (listL x y) 0)] (by kernel_rfl) ((iHasCell_any ((cvP F w0 l (atI (cellsL F) j)).1) ((cvP F w0 l (atI (cellsL F) j)).2) (atI (listL x y) 0) _).mono fun e w1 ⟨he, hb⟩ => ⟨_, he, hb, rfl⟩)
       · refine step1 rfl rfl rfl rfl (fun u0 wr hw h0 => ?_)
         cases h0
         exact OpRun.val (.bool (!(hasB ((cvP F w0 l (atI (cellsL F) j)).1) ((cvP F w0 l (atI (cellsL F) j)).2) (atI (listL x y) 0)))) (.bool (!(hasB ((cvP F w0 l (atI (cellsL F) j)).1) ((cvP F w0 l (atI (cellsL F) j)).2) (atI (listL x y) 0)))) (by kernel_rfl) rfl ⟨Ext.refl _, rfl⟩
       refine end6 (fun u0 u1 u2 u3 u4 u5 w6 E5 f0 f1 f2 f3 f4 f5 => ?_)
       cases f0
       cases f1
       cases f2
       cases f3
       cases f4
       cases f5
       refine wpList_nil (then_normal ?_)
       have H4 := ((HL1.trans (Wr.of_ext E4)).own X1 lo_g4).trans (Wr.of_ext E5)
       refine wsplit (!(hasB ((cvP F w0 l (atI (cellsL F) j)).1) ((cvP F w0 l (atI (cellsL F) j)).2) (atI (listL x y) 0))) (fun h4 => ?_) (fun h4 => ?_)
       · skip
         replace h4 := nbT h4
         refine wp_exit ?_
         refine then_exit ?_
         refine block_exit ?_
         refine then_normal ?_
         refine wp_region_lit ?_
         refine wi64 ((j : Int) + 1) ?_
         refine wv (.int .i64 ((j : Int) + 1)) ?_
         refine wpList_nil (then_normal ?_)
         replace hbf := (X1.blk (hbf.ext E4) q_bf_g4).ext E5
         replace hbm := (X1.mv (hbm.ext E4) q_bm_g4).ext E5
         replace hb := (X1.blk (hb.ext E4) q_b_g4).ext E5
         replace hbP := (X1.blk (hbP.ext E4) q_gP_g4).ext E5
         replace B1 := (X1.blk (B1.ext E4) q_g1_g4).ext E5
         replace B2 := B2.ext E5
         replace B3 := (X1.blk (B3.ext E4) q_g3_g4).ext E5
         refine ⟨_, ?_, j + 1, lk_, rfl, ?_, ?_, ?_, ?_, H4, hbf, hbm, hb, hbP, B1, B2, B3, exJ (by kernel_rfl)⟩
         · omega
         · omega
         · first | exact (at_skip (nat_lt (by assumption)) (by rw [fsC_at (by assumption)]; assumption)).symm.trans hI | exact (at_next (nat_lt (by assumption)) (by rw [fsC_at (by assumption)]; assumption) (by assumption) (no_or (by assumption) (by assumption))).symm.trans hI
         · first | exact hk0 | exact (seek_lk (lk_nn hk0) (lk_up hkB (by assumption))).1
         · first | exact hkB | exact (seek_lk (lk_nn hk0) (lk_up hkB (by assumption))).2
       · skip
         replace h4 := nbF h4
         refine wp_skip ?_
         refine then_normal ?_
         refine wp_seq ?_
         refine wp_seq ?_
         refine wp_frame (a' := ⟨#[.pointer (some ⟨b, 0, none⟩), .agg #[.int .u64 x, .int .u64 y], .slice (some ⟨gP, 0, none⟩) n cap, .int .i64 mo, undef, .pointer (some ⟨g1, 0, none⟩), undef, undef, J1 8, J1 9, .slice (some ⟨g2, 0, none⟩) ((listL x y).length) cap1, undef, .int .i64 (atI (cellsL F) j), .pointer (some ⟨g4, 0, none⟩), J1 14, J1 15, .agg #[.int .u64 x, .int .u64 y], .slice (some ⟨g2, 0, none⟩) ((listL x y).length) cap1, .bool (((listL x y).length : Int) == 0), .slice (some ⟨g2, 0, none⟩) ((listL x y).length) cap1, .int .i64 ((listL x y).length : Int), .bool (((listL x y).length : Int) == 0), undef, .bool (mo == 0), .int .i64 mo, .bool (mo == 0), .pointer (some ⟨b, 0, none⟩), .pointer (some ⟨b, 0, none⟩), .pointer (some ⟨b, 0, none⟩), .pointer (some ⟨bf, 0, none⟩), .slice (some ⟨g3, 0, none⟩) ((cellsL F).length) cap2, .int .i64 ((cellsL F).length : Int), .int .i64 (j : Int), .bool (decide ((j : Int) < ((cellsL F).length : Int))), .pointer (some ⟨g3, 0 + j, none⟩), .int .i64 (atI (cellsL F) j), .pointer (some ⟨b, 0, none⟩), .pointer (some ⟨b, 0, none⟩), .pointer (some ⟨b, 1, none⟩), .map (some bm), .int .i64 (atI (cellsL F) j), .agg #[.int .u64 ((cvP F w0 l (atI (cellsL F) j)).1), .int .u64 ((cvP F w0 l (atI (cellsL F) j)).2)], .agg #[.int .u64 ((cvP F w0 l (atI (cellsL F) j)).1), .int .u64 ((cvP F w0 l (atI (cellsL F) j)).2)], .slice (some ⟨g2, 0, none⟩) ((listL x y).length) cap1, .pointer (some ⟨g2, 0 + 0, none⟩), .int .i64 (atI (listL x y) 0), .bool (hasB ((cvP F w0 l (atI (cellsL F) j)).1) ((cvP F w0 l (atI (cellsL F) j)).2) (atI (listL x y) 0)), .bool (!(hasB ((cvP F w0 l (atI (cellsL F) j)).1) ((cvP F w0 l (atI (cellsL F) j)).2) (atI (listL x y) 0))), J1 48, J1 49, J1 50, J1 51, J1 52, J1 53, J1 54, J1 55, J1 56, J1 57, J1 58, J1 59, J1 60, J1 61, J1 62, J1 63, J1 64, J1 65, J1 66, J1 67, J1 68, J1 69, J1 70, J1 71, J1 72, J1 73, J1 74, J1 75, J1 76, J1 77, J1 78, J1 79, J1 80, J1 81, J1 82, J1 83, J1 84, J1 85, J1 86, J1 87], []⟩) (by kernel_rfl) ?_
         replace hb := (X1.blk (hb.ext E4) q_b_g4).ext E5
         replace hbf := (X1.blk (hbf.ext E4) q_bf_g4).ext E5
         replace hbm := (X1.mv (hbm.ext E4) q_bm_g4).ext E5
         refine region_go 9 [48, 49, 50, 51, 52, 53, 54, 55, 56] [[], [0], [1], [2], [], [4], [5], [6], [3, 7]]
          (fun i_ => ([.val (.pointer (some ⟨b, 0, none⟩)), .val (.pointer (some ⟨b, 0, none⟩)), .val (.pointer (some ⟨b, 2, none⟩)), .val (.int .i64 lk_), .val (.pointer (some ⟨b, 0, none⟩)), .val (.pointer (some ⟨b, 0, none⟩)), .val (.pointer (some ⟨b, 3, none⟩)), .val (.int .i64 B), .val (.bool (lk_ == B))] : List Fct).getD i_ .any)
          (by kernel_rfl) (by kernel_rfl) (by decide) (by simp) rfl (all_succ (all_succ (all_succ (all_succ (all_succ (all_succ (all_succ (all_succ (all_succ all_zero ?_) ?_) ?_) ?_) ?_) ?_) ?_) ?_) ?_) ?_
         · refine step0 rfl rfl rfl (fun wr hw => ?_)
           exact OpRun.val (.pointer (some ⟨b, 0, none⟩)) (.pointer (some ⟨b, 0, none⟩)) (by kernel_rfl) rfl ⟨Ext.refl _, rfl⟩
         · refine step1 rfl rfl rfl rfl (fun u0 wr hw h0 => ?_)
           cases h0
           exact OpRun.val (.pointer (some ⟨b, 0, none⟩)) (.pointer (some ⟨b, 0, none⟩)) (by kernel_rfl) rfl ⟨Ext.refl _, rfl⟩
         · refine step1 rfl rfl rfl rfl (fun u0 wr hw h0 => ?_)
           cases h0
           exact OpRun.val (.pointer (some ⟨b, 2, none⟩)) (.pointer (some ⟨b, 2, none⟩)) (by kernel_rfl) rfl ⟨Ext.refl _, rfl⟩
         · refine step1 rfl rfl rfl rfl (fun u0 wr hw h0 => ?_)
           cases h0
           exact OpRun.cell (g := b) (off := 2) (v := .int .i64 lk_) scal_int64 rfl (by kernel_rfl) ((hb.ext hw).get (rfl)) ⟨Ext.refl _, rfl⟩
         · refine step0 rfl rfl rfl (fun wr hw => ?_)
           exact OpRun.val (.pointer (some ⟨b, 0, none⟩)) (.pointer (some ⟨b, 0, none⟩)) (by kernel_rfl) rfl ⟨Ext.refl _, rfl⟩
         · refine step1 rfl rfl rfl rfl (fun u0 wr hw h0 => ?_)
           cases h0
           exact OpRun.val (.pointer (some ⟨b, 0, none⟩)) (.pointer (some ⟨b, 0, none⟩)) (by kernel_rfl) rfl ⟨Ext.refl _, rfl⟩
         · refine step1 rfl rfl rfl rfl (fun u0 wr hw h0 => ?_)
           cases h0
           exact OpRun.val (.pointer (some ⟨b, 3, none⟩)) (.pointer (some ⟨b, 3, none⟩)) (by kernel_rfl) rfl ⟨Ext.refl _, rfl⟩
         · refine step1 rfl rfl rfl rfl (fun u0 wr hw h0 => ?_)
           cases h0
           exact OpRun.cell (g := b) (off := 3) (v := .int .i64 B) scal_int64 rfl (by kernel_rfl) ((hb.ext hw).get (rfl)) ⟨Ext.refl _, rfl⟩
         · refine step2 rfl rfl rfl rfl rfl (fun u0 u1 wr hw h0 h1 => ?_)
           cases h0
           cases h1
           exact OpRun.val (.bool (lk_ == B)) (.bool (lk_ == B)) (by kernel_rfl) rfl ⟨Ext.refl _, rfl⟩
         refine end9 (fun u0 u1 u2 u3 u4 u5 u6 u7 u8 w7 E6 f0 f1 f2 f3 f4 f5 f6 f7 f8 => ?_)
         cases f0
         cases f1
         cases f2
         cases f3
         cases f4
         cases f5
         cases f6
         cases f7
         cases f8
         refine wpList_nil (then_normal ?_)
         have H5 := H4.trans (Wr.of_ext E6)
         refine wsplit (lk_ == B) (fun h5 => ?_) (fun h5 => ?_)
         · skip
           have h5d := eT h5
           refine wsr ?_
           refine wv (.slice none 0 0) ?_
           refine wv (.bool false) ?_
           refine wpList_nil (then_normal ?_)
           refine wp_ret ?_
           refine then_ret (block_ret (then_ret (then_ret (block_ret (then_ret ?_)))))
           refine ret2 (.slice none 0 0) (.bool false) rfl ?_ ?_ rfl ?_
           · exact resT (by kernel_rfl)
           · exact resT (by kernel_rfl)
           replace hb := hb.ext E6
           exact SkR.nil (hI.symm.trans (at_over (nat_lt (by assumption)) (by rw [fsC_at (by assumption)]; assumption) (by assumption))) rfl rfl rfl hb H5
         · skip
           have h5d := eF h5
           refine wp_skip ?_
           refine then_normal ?_
           refine wsr ?_
           refine wv (.pointer (some ⟨b, 0, none⟩)) ?_
           refine wv (.pointer (some ⟨b, 0, none⟩)) ?_
           refine wv (.pointer (some ⟨b, 2, none⟩)) ?_
           replace hb := hb.ext E6
           refine wld (v := .int .i64 lk_) b (2) scal_int64 (hb.get (rfl)) ?_
           refine wi64 (lk_ + 1) ?_
           refine wv (.pointer (some ⟨b, 0, none⟩)) ?_
           refine wv (.pointer (some ⟨b, 2, none⟩)) ?_
           refine wst b (2) (.int .i64 (lk_ + 1)) scal_int64 hb (rfl) (by simp) ?_
           intro w8 hb_ X2
           clear hb; have hb := hb_; clear hb_
           refine wpList_nil (then_normal ?_)
           refine wsr ?_
           refine wv (.pointer (some ⟨b, 0, none⟩)) ?_
           replace B1 := X2.blk (((X1.blk (B1.ext E4) q_g1_g4).ext E5).ext E6) (Ne.symm q_b_g1)
           refine wrow row_impl_Cells B1 (by rfl) ?_
           replace B4 := X2.blk ((B4.ext E5).ext E6) (Ne.symm q_b_g4)
           refine wrow row_impl_Cells B4 (by rfl) ?_
           refine wcl (iWithout_any x y ((cvP F w0 l (atI (cellsL F) j)).1) ((cvP F w0 l (atI (cellsL F) j)).2) (by first | assumption | exact okP.w2 hok | exact okP.w2 (cvP_ok _) | exact okP.w2 (setC_ok 100 (Nat.le_refl _))) (by first | assumption | exact okP.w2 hok | exact okP.w2 (cvP_ok _) | exact okP.w2 (setC_ok 100 (Nat.le_refl _))) _) ?_
           intro w9 E7
           refine wv (.slice (some ⟨gP, 0, none⟩) n cap) ?_
           replace hbP := (X2.blk (((X1.blk (hbP.ext E4) q_gP_g4).ext E5).ext E6) (Ne.symm (Ne.symm hnP))).ext E7
           replace hbf := (X2.blk (hbf.ext E6) hnf).ext E7
           replace hbm := (X2.mv (hbm.ext E6) hnm).ext E7
           replace hb := hb.ext E7
           replace B1 := B1.ext E7
           replace B2 := (X2.blk ((B2.ext E5).ext E6) (Ne.symm q_b_g2)).ext E7
           replace B3 := (X2.blk (((X1.blk (B3.ext E4) q_g3_g4).ext E5).ext E6) (Ne.symm q_b_g3)).ext E7
           replace B4 := B4.ext E7
           have H6 := (H5.trans X2).trans (Wr.of_ext E7)
           refine wcli (cloneI_any o n gP cap cs hS (by omega) _ hbP) ?_
           intro g5 cap3 cs3 w10 B5 S3 E8 hg_
           have q_bf_g5 := Nat.ne_of_lt (Nat.lt_of_lt_of_le hbf.lt hg_)
           have q_bm_g5 := Nat.ne_of_lt (Nat.lt_of_lt_of_le hbm.lt hg_)
           have q_b_g5 := Nat.ne_of_lt (Nat.lt_of_lt_of_le hb.lt hg_)
           have q_gP_g5 := Nat.ne_of_lt (Nat.lt_of_lt_of_le hbP.lt hg_)
           have q_g1_g5 := Nat.ne_of_lt (Nat.lt_of_lt_of_le B1.lt hg_)
           have q_g2_g5 := Nat.ne_of_lt (Nat.lt_of_lt_of_le B2.lt hg_)
           have q_g3_g5 := Nat.ne_of_lt (Nat.lt_of_lt_of_le B3.lt hg_)
           have q_g4_g5 := Nat.ne_of_lt (Nat.lt_of_lt_of_le B4.lt hg_)
           have lo_g5 := Nat.le_trans (H6).size hg_
           refine wv (.int .i64 (atI (cellsL F) j)) ?_
           have H7 := H6.trans (Wr.of_ext E8)
           replace hbf := hbf.ext E8
           replace hbm := hbm.ext E8
           replace hb := hb.ext E8
           replace hbP := hbP.ext E8
           replace B1 := B1.ext E8
           replace B2 := B2.ext E8
           replace B3 := B3.ext E8
           replace B4 := B4.ext E8
           refine wbsl 1 #[.int .i64 (atI (cellsL F) j)] slt__int64 ?_
           intro g6 w11 B6 E9 hg_
           have q_bf_g6 := Nat.ne_of_lt (Nat.lt_of_lt_of_le hbf.lt hg_)
           have q_bm_g6 := Nat.ne_of_lt (Nat.lt_of_lt_of_le hbm.lt hg_)
           have q_b_g6 := Nat.ne_of_lt (Nat.lt_of_lt_of_le hb.lt hg_)
           have q_gP_g6 := Nat.ne_of_lt (Nat.lt_of_lt_of_le hbP.lt hg_)
           have q_g1_g6 := Nat.ne_of_lt (Nat.lt_of_lt_of_le B1.lt hg_)
           have q_g2_g6 := Nat.ne_of_lt (Nat.lt_of_lt_of_le B2.lt hg_)
           have q_g3_g6 := Nat.ne_of_lt (Nat.lt_of_lt_of_le B3.lt hg_)
           have q_g4_g6 := Nat.ne_of_lt (Nat.lt_of_lt_of_le B4.lt hg_)
           have q_g5_g6 := Nat.ne_of_lt (Nat.lt_of_lt_of_le B5.lt hg_)
           have lo_g6 := Nat.le_trans (H7).size hg_
           replace hbf := hbf.ext E9
           replace hbm := hbm.ext E9
           replace hb := hb.ext E9
           replace hbP := hbP.ext E9
           replace B1 := B1.ext E9
           replace B2 := B2.ext E9
           replace B3 := B3.ext E9
           replace B4 := B4.ext E9
           replace B5 := B5.ext E9
           have H8 := H7.trans (Wr.of_ext E9)
           refine wappi (atI (cellsL F) j) slt__int64 B5 S3 B6 ?_
           intro g7 cap4 cs4 w12 B7 S4 X3 or1
           have n_bf_g7 := ne_app hbf q_bf_g5 or1
           have n_bm_g7 := ne_appL hbm.lt q_bm_g5 or1
           have n_b_g7 := ne_app hb q_b_g5 or1
           have n_gP_g7 := ne_app hbP q_gP_g5 or1
           have n_g1_g7 := ne_app B1 q_g1_g5 or1
           have n_g2_g7 := ne_app B2 q_g2_g5 or1
           have n_g3_g7 := ne_app B3 q_g3_g5 or1
           have n_g4_g7 := ne_app B4 q_g4_g5 or1
           have n_g6_g7 := ne_app B6 (Ne.symm q_g5_g6) or1
           have lo_g7 := Wr.lo or1 lo_g5 (H8).size
           refine wv (.int .i64 mo) ?_
           refine wi64 (mo - 1) ?_
           have H9 := H8.own X3 lo_g5
           refine split_bool ((stF F w0 l B (m - 1) (x, y) o (atI (cellsL F) j) (lk_ + 1)).fd.isSome) (fun h6 => ?_) (fun h6 => ?_)
           · skip
             replace hb := X3.blk hb q_b_g5
             replace hbf := X3.blk hbf q_bf_g5
             replace hbm := X3.mv hbm q_bm_g5
             replace hbP := X3.blk hbP q_gP_g5
             replace B1 := X3.blk B1 q_g1_g5
             replace B2 := X3.blk B2 q_g2_g5
             replace B3 := X3.blk B3 q_g3_g5
             replace B4 := X3.blk B4 q_g4_g5
             replace B6 := X3.blk B6 (Ne.symm q_g5_g6)
             refine wskT (r := stF F w0 l B (m - 1) (x, y) o (atI (cellsL F) j) (lk_ + 1)) (IH (m - 1) (hm_ (by assumption)).2.1 hF _ bf _ bm b (wo0 x ((cvP F w0 l (atI (cellsL F) j)).1)) (wo1 y ((cvP F w0 l (atI (cellsL F) j)).2)) (o ++ [atI (cellsL F) j]) (o.length + 1) g7 cap4 cs4 (mo - 1) (lk_ + 1) (hm_ (by assumption)).2.2.1 (wo_ok (s := (x, y)) hok (cvP_ok _)) S4 (hm_ (by assumption)).2.2.2 hnf hnm (Ne.symm n_b_g7) (lk_nn hk0) (lk_up hkB (by assumption)) hbf hbm hb B7) h6 ?_
             intro g8 n1 cap5 cs5 w13 hb_ X4 B8 S5 n2 or2
             clear hb; have hb := hb_; clear hb_
             have lo_g8 := Wr.lo or2 lo_g7 (H9).size
             refine wv (.tuple #[.slice (some ⟨g8, 0, none⟩) n1 cap5, .bool (!(stF F w0 l B (m - 1) (x, y) o (atI (cellsL F) j) (lk_ + 1)).ov)]) ?_
             refine wv (.slice (some ⟨g8, 0, none⟩) n1 cap5) ?_
             refine wv (.bool (!(stF F w0 l B (m - 1) (x, y) o (atI (cellsL F) j) (lk_ + 1)).ov)) ?_
             refine wv (.slice (some ⟨g8, 0, none⟩) n1 cap5) ?_
             refine wv (.bool (!(stF F w0 l B (m - 1) (x, y) o (atI (cellsL F) j) (lk_ + 1)).ov)) ?_
             refine wpList_nil (then_normal ?_)
             refine wp_frame (a' := ⟨#[.pointer (some ⟨b, 0, none⟩), .agg #[.int .u64 x, .int .u64 y], .slice (some ⟨gP, 0, none⟩) n cap, .int .i64 mo, undef, .pointer (some ⟨g1, 0, none⟩), undef, undef, J1 8, J1 9, .slice (some ⟨g2, 0, none⟩) ((listL x y).length) cap1, undef, .int .i64 (atI (cellsL F) j), .pointer (some ⟨g4, 0, none⟩), .slice (some ⟨g8, 0, none⟩) n1 cap5, .bool (!(stF F w0 l B (m - 1) (x, y) o (atI (cellsL F) j) (lk_ + 1)).ov), .agg #[.int .u64 x, .int .u64 y], .slice (some ⟨g2, 0, none⟩) ((listL x y).length) cap1, .bool (((listL x y).length : Int) == 0), .slice (some ⟨g2, 0, none⟩) ((listL x y).length) cap1, .int .i64 ((listL x y).length : Int), .bool (((listL x y).length : Int) == 0), undef, .bool (mo == 0), .int .i64 mo, .bool (mo == 0), .pointer (some ⟨b, 0, none⟩), .pointer (some ⟨b, 0, none⟩), .pointer (some ⟨b, 0, none⟩), .pointer (some ⟨bf, 0, none⟩), .slice (some ⟨g3, 0, none⟩) ((cellsL F).length) cap2, .int .i64 ((cellsL F).length : Int), .int .i64 (j : Int), .bool (decide ((j : Int) < ((cellsL F).length : Int))), .pointer (some ⟨g3, 0 + j, none⟩), .int .i64 (atI (cellsL F) j), .pointer (some ⟨b, 0, none⟩), .pointer (some ⟨b, 0, none⟩), .pointer (some ⟨b, 1, none⟩), .map (some bm), .int .i64 (atI (cellsL F) j), .agg #[.int .u64 ((cvP F w0 l (atI (cellsL F) j)).1), .int .u64 ((cvP F w0 l (atI (cellsL F) j)).2)], .agg #[.int .u64 ((cvP F w0 l (atI (cellsL F) j)).1), .int .u64 ((cvP F w0 l (atI (cellsL F) j)).2)], .slice (some ⟨g2, 0, none⟩) ((listL x y).length) cap1, .pointer (some ⟨g2, 0 + 0, none⟩), .int .i64 (atI (listL x y) 0), .bool (hasB ((cvP F w0 l (atI (cellsL F) j)).1) ((cvP F w0 l (atI (cellsL F) j)).2) (atI (listL x y) 0)), .bool (!(hasB ((cvP F w0 l (atI (cellsL F) j)).1) ((cvP F w0 l (atI (cellsL F) j)).2) (atI (listL x y) 0))), .pointer (some ⟨b, 0, none⟩), .pointer (some ⟨b, 0, none⟩), .pointer (some ⟨b, 2, none⟩), .int .i64 lk_, .pointer (some ⟨b, 0, none⟩), .pointer (some ⟨b, 0, none⟩), .pointer (some ⟨b, 3, none⟩), .int .i64 B, .bool (lk_ == B), .pointer (some ⟨b, 0, none⟩), .pointer (some ⟨b, 0, none⟩), .pointer (some ⟨b, 2, none⟩), .int .i64 lk_, .int .i64 (lk_ + 1), .pointer (some ⟨b, 0, none⟩), .pointer (some ⟨b, 2, none⟩), .tuple #[.slice (some ⟨g8, 0, none⟩) n1 cap5, .bool (!(stF F w0 l B (m - 1) (x, y) o (atI (cellsL F) j) (lk_ + 1)).ov)], .pointer (some ⟨b, 0, none⟩), .agg #[.int .u64 x, .int .u64 y], .agg #[.int .u64 ((cvP F w0 l (atI (cellsL F) j)).1), .int .u64 ((cvP F w0 l (atI (cellsL F) j)).2)], .agg #[.int .u64 (wo0 x ((cvP F w0 l (atI (cellsL F) j)).1)), .int .u64 (wo1 y ((cvP F w0 l (atI (cellsL F) j)).2))], .slice (some ⟨gP, 0, none⟩) n cap, .slice (some ⟨g5, 0, none⟩) o.length cap3, .int .i64 (atI (cellsL F) j), .slice (some ⟨g6, 0, none⟩) 1 1, .slice (some ⟨g7, 0, none⟩) (o.length + 1) cap4, .int .i64 mo, .int .i64 (mo - 1), .tuple #[.slice (some ⟨g8, 0, none⟩) n1 cap5, .bool (!(stF F w0 l B (m - 1) (x, y) o (atI (cellsL F) j) (lk_ + 1)).ov)], .slice (some ⟨g8, 0, none⟩) n1 cap5, .bool (!(stF F w0 l B (m - 1) (x, y) o (atI (cellsL F) j) (lk_ + 1)).ov), J1 79, J1 80, J1 81, J1 82, J1 83, J1 84, J1 85, J1 86, J1 87], []⟩) (by kernel_rfl) ?_
             refine wsr ?_
             refine wv (.slice (some ⟨g8, 0, none⟩) n1 cap5) ?_
             refine wv (.bool true) ?_
             refine wv (.bool true) ?_
             refine wsk ?_
             refine wsk ?_
             refine wv (.bool true) ?_
             refine wpList_nil (then_normal ?_)
             refine wct ?_
             refine wsr ?_
             refine wv (.slice (some ⟨g8, 0, none⟩) n1 cap5) ?_
             refine wv (.bool (!(stF F w0 l B (m - 1) (x, y) o (atI (cellsL F) j) (lk_ + 1)).ov)) ?_
             refine wv (.slice (some ⟨g8, 0, none⟩) n1 cap5) ?_
             refine wv (.bool (!(stF F w0 l B (m - 1) (x, y) o (atI (cellsL F) j) (lk_ + 1)).ov)) ?_
             refine wpList_nil (then_normal ?_)
             refine wp_ret ?_
             refine block_ret (then_ret (then_ret (block_ret (then_ret ?_))))
             refine ret2 (.slice (some ⟨g8, 0, none⟩) n1 cap5) (.bool (!(stF F w0 l B (m - 1) (x, y) o (atI (cellsL F) j) (lk_ + 1)).ov)) rfl ?_ ?_ rfl ?_
             · exact resT (by kernel_rfl)
             · exact resT (by kernel_rfl)
             have H10 := H9.trans X4
             exact SkR.some (hI.symm.trans (at_ret (nat_lt (by assumption)) (by rw [fsC_at (by assumption)]; assumption) (by assumption) (.inl (by assumption)))) (fd_get (by assumption)) (by first | rfl | exact (bnT (by assumption)).symm) rfl hb H10 B8 S5 n2 (.inr lo_g8)
           · skip
             replace hb := X3.blk hb q_b_g5
             replace hbf := X3.blk hbf q_bf_g5
             replace hbm := X3.mv hbm q_bm_g5
             replace hbP := X3.blk hbP q_gP_g5
             replace B1 := X3.blk B1 q_g1_g5
             replace B2 := X3.blk B2 q_g2_g5
             replace B3 := X3.blk B3 q_g3_g5
             replace B4 := X3.blk B4 q_g4_g5
             replace B6 := X3.blk B6 (Ne.symm q_g5_g6)
             refine wskF (r := stF F w0 l B (m - 1) (x, y) o (atI (cellsL F) j) (lk_ + 1)) (IH (m - 1) (hm_ (by assumption)).2.1 hF _ bf _ bm b (wo0 x ((cvP F w0 l (atI (cellsL F) j)).1)) (wo1 y ((cvP F w0 l (atI (cellsL F) j)).2)) (o ++ [atI (cellsL F) j]) (o.length + 1) g7 cap4 cs4 (mo - 1) (lk_ + 1) (hm_ (by assumption)).2.2.1 (wo_ok (s := (x, y)) hok (cvP_ok _)) S4 (hm_ (by assumption)).2.2.2 hnf hnm (Ne.symm n_b_g7) (lk_nn hk0) (lk_up hkB (by assumption)) hbf hbm hb B7) h6 ?_
             intro w14 hb_ X5
             clear hb; have hb := hb_; clear hb_
             refine wv (.tuple #[.slice none 0 0, .bool (!(stF F w0 l B (m - 1) (x, y) o (atI (cellsL F) j) (lk_ + 1)).ov)]) ?_
             refine wv (.slice none 0 0) ?_
             refine wv (.bool (!(stF F w0 l B (m - 1) (x, y) o (atI (cellsL F) j) (lk_ + 1)).ov)) ?_
             refine wv (.slice none 0 0) ?_
             refine wv (.bool (!(stF F w0 l B (m - 1) (x, y) o (atI (cellsL F) j) (lk_ + 1)).ov)) ?_
             refine wpList_nil (then_normal ?_)
             refine wp_frame (a' := ⟨#[.pointer (some ⟨b, 0, none⟩), .agg #[.int .u64 x, .int .u64 y], .slice (some ⟨gP, 0, none⟩) n cap, .int .i64 mo, undef, .pointer (some ⟨g1, 0, none⟩), undef, undef, J1 8, J1 9, .slice (some ⟨g2, 0, none⟩) ((listL x y).length) cap1, undef, .int .i64 (atI (cellsL F) j), .pointer (some ⟨g4, 0, none⟩), .slice none 0 0, .bool (!(stF F w0 l B (m - 1) (x, y) o (atI (cellsL F) j) (lk_ + 1)).ov), .agg #[.int .u64 x, .int .u64 y], .slice (some ⟨g2, 0, none⟩) ((listL x y).length) cap1, .bool (((listL x y).length : Int) == 0), .slice (some ⟨g2, 0, none⟩) ((listL x y).length) cap1, .int .i64 ((listL x y).length : Int), .bool (((listL x y).length : Int) == 0), undef, .bool (mo == 0), .int .i64 mo, .bool (mo == 0), .pointer (some ⟨b, 0, none⟩), .pointer (some ⟨b, 0, none⟩), .pointer (some ⟨b, 0, none⟩), .pointer (some ⟨bf, 0, none⟩), .slice (some ⟨g3, 0, none⟩) ((cellsL F).length) cap2, .int .i64 ((cellsL F).length : Int), .int .i64 (j : Int), .bool (decide ((j : Int) < ((cellsL F).length : Int))), .pointer (some ⟨g3, 0 + j, none⟩), .int .i64 (atI (cellsL F) j), .pointer (some ⟨b, 0, none⟩), .pointer (some ⟨b, 0, none⟩), .pointer (some ⟨b, 1, none⟩), .map (some bm), .int .i64 (atI (cellsL F) j), .agg #[.int .u64 ((cvP F w0 l (atI (cellsL F) j)).1), .int .u64 ((cvP F w0 l (atI (cellsL F) j)).2)], .agg #[.int .u64 ((cvP F w0 l (atI (cellsL F) j)).1), .int .u64 ((cvP F w0 l (atI (cellsL F) j)).2)], .slice (some ⟨g2, 0, none⟩) ((listL x y).length) cap1, .pointer (some ⟨g2, 0 + 0, none⟩), .int .i64 (atI (listL x y) 0), .bool (hasB ((cvP F w0 l (atI (cellsL F) j)).1) ((cvP F w0 l (atI (cellsL F) j)).2) (atI (listL x y) 0)), .bool (!(hasB ((cvP F w0 l (atI (cellsL F) j)).1) ((cvP F w0 l (atI (cellsL F) j)).2) (atI (listL x y) 0))), .pointer (some ⟨b, 0, none⟩), .pointer (some ⟨b, 0, none⟩), .pointer (some ⟨b, 2, none⟩), .int .i64 lk_, .pointer (some ⟨b, 0, none⟩), .pointer (some ⟨b, 0, none⟩), .pointer (some ⟨b, 3, none⟩), .int .i64 B, .bool (lk_ == B), .pointer (some ⟨b, 0, none⟩), .pointer (some ⟨b, 0, none⟩), .pointer (some ⟨b, 2, none⟩), .int .i64 lk_, .int .i64 (lk_ + 1), .pointer (some ⟨b, 0, none⟩), .pointer (some ⟨b, 2, none⟩), .tuple #[.slice none 0 0, .bool (!(stF F w0 l B (m - 1) (x, y) o (atI (cellsL F) j) (lk_ + 1)).ov)], .pointer (some ⟨b, 0, none⟩), .agg #[.int .u64 x, .int .u64 y], .agg #[.int .u64 ((cvP F w0 l (atI (cellsL F) j)).1), .int .u64 ((cvP F w0 l (atI (cellsL F) j)).2)], .agg #[.int .u64 (wo0 x ((cvP F w0 l (atI (cellsL F) j)).1)), .int .u64 (wo1 y ((cvP F w0 l (atI (cellsL F) j)).2))], .slice (some ⟨gP, 0, none⟩) n cap, .slice (some ⟨g5, 0, none⟩) o.length cap3, .int .i64 (atI (cellsL F) j), .slice (some ⟨g6, 0, none⟩) 1 1, .slice (some ⟨g7, 0, none⟩) (o.length + 1) cap4, .int .i64 mo, .int .i64 (mo - 1), .tuple #[.slice none 0 0, .bool (!(stF F w0 l B (m - 1) (x, y) o (atI (cellsL F) j) (lk_ + 1)).ov)], .slice none 0 0, .bool (!(stF F w0 l B (m - 1) (x, y) o (atI (cellsL F) j) (lk_ + 1)).ov), J1 79, J1 80, J1 81, J1 82, J1 83, J1 84, J1 85, J1 86, J1 87], []⟩) (by kernel_rfl) ?_
             refine wsr ?_
             refine wv (.slice none 0 0) ?_
             refine wv (.bool false) ?_
             refine wv (.bool false) ?_
             refine wv (.bool (!(stF F w0 l B (m - 1) (x, y) o (atI (cellsL F) j) (lk_ + 1)).ov)) ?_
             refine wvv (.bool (!(!(stF F w0 l B (m - 1) (x, y) o (atI (cellsL F) j) (lk_ + 1)).ov))) (.bool ((stF F w0 l B (m - 1) (x, y) o (atI (cellsL F) j) (lk_ + 1)).ov)) (by simp) ?_
             refine wv (.bool ((stF F w0 l B (m - 1) (x, y) o (atI (cellsL F) j) (lk_ + 1)).ov)) ?_
             refine wpList_nil (then_normal ?_)
             have H11 := H9.trans X5
             refine wsplit ((stF F w0 l B (m - 1) (x, y) o (atI (cellsL F) j) (lk_ + 1)).ov) (fun h7 => ?_) (fun h7 => ?_)
             · skip
               refine wsr ?_
               refine wv (.slice none 0 0) ?_
               refine wv (.bool (!(stF F w0 l B (m - 1) (x, y) o (atI (cellsL F) j) (lk_ + 1)).ov)) ?_
               refine wbl 86 false (bnT h7) ?_
               refine wv (.slice none 0 0) ?_
               refine wv (.bool false) ?_
               refine wpList_nil (then_normal ?_)
               refine wp_ret ?_
               refine block_ret (then_ret (then_ret (block_ret (then_ret ?_))))
               refine ret2 (.slice none 0 0) (.bool false) rfl ?_ ?_ rfl ?_
               · exact resT (by kernel_rfl)
               · exact resT (by kernel_rfl)
               exact SkR.nil (hI.symm.trans (at_ret (nat_lt (by assumption)) (by rw [fsC_at (by assumption)]; assumption) (by assumption) (.inr (by assumption)))) (by assumption) (by first | rfl | exact (bnT (by assumption)).symm) rfl hb H11
             · skip
               refine wp_skip ?_
               refine block_normal (then_normal ?_)
               refine wp_region_lit ?_
               refine wi64 ((j : Int) + 1) ?_
               refine wv (.int .i64 ((j : Int) + 1)) ?_
               refine wpList_nil (then_normal ?_)
               replace hbf := X5.blk hbf hnf
               replace hbm := X5.mv hbm hnm
               replace hbP := X5.blk hbP (Ne.symm (Ne.symm hnP))
               replace B1 := X5.blk B1 (Ne.symm q_b_g1)
               replace B2 := X5.blk B2 (Ne.symm q_b_g2)
               replace B3 := X5.blk B3 (Ne.symm q_b_g3)
               refine ⟨_, ?_, j + 1, (stF F w0 l B (m - 1) (x, y) o (atI (cellsL F) j) (lk_ + 1)).lk, rfl, ?_, ?_, ?_, ?_, H11, hbf, hbm, hb, hbP, B1, B2, B3, exJ (by kernel_rfl)⟩
               · omega
               · omega
               · first | exact (at_skip (nat_lt (by assumption)) (by rw [fsC_at (by assumption)]; assumption)).symm.trans hI | exact (at_next (nat_lt (by assumption)) (by rw [fsC_at (by assumption)]; assumption) (by assumption) (no_or (by assumption) (by assumption))).symm.trans hI
               · first | exact hk0 | exact (seek_lk (lk_nn hk0) (lk_up hkB (by assumption))).1
               · first | exact hkB | exact (seek_lk (lk_nn hk0) (lk_up hkB (by assumption))).2
     · skip
       have h3d := dF h3
       refine wp_exit ?_
       refine then_exit ?_
       refine then_exit ?_
       refine block_exit ?_
       refine then_normal ?_
       refine wsr ?_
       refine wv (.slice none 0 0) ?_
       refine wv (.bool true) ?_
       refine wpList_nil (then_normal ?_)
       refine wp_ret ?_
       refine ret2 (.slice none 0 0) (.bool true) rfl ?_ ?_ rfl ?_
       · exact resT (by kernel_rfl)
       · exact resT (by kernel_rfl)
       exact SkR.nil (hI.symm.trans (at_end (nat_le (by assumption)))) rfl rfl rfl hb HL1


--# seek_any
-- 35
theorem seek_any (F : Fld) (w0 l B : Int) (hB : B ≤ 20000) : ∀ m, SeekP F w0 l B m := by
  intro m
  induction m using Nat.strongRecOn with
  | _ m IH =>
    intro hF w bf tf bm b x y o n gP cap cs mo lk hmo hok hS hn hnf hnm hnP hl0 hlB hbf hbm hb hbP
    exact seek_step F hF w0 l B m bf tf bm b lk x y o n gP cap cs hS mo hmo hok hn hnf hnm hnP hl0 hlB hB w hbf hbm hb hbP IH
end Go.Proofs.Ytldlaohefgianaa
