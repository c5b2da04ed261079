/-
  Contracts: what is drawn from bytes, as relations; what a field has. No conditions.
-/
import Derived.Test.YtdhidmigngmgjaaTy
import Derived.Test.YtdhidmigngmgjaaSl
import Derived.Test.YtdhidmigngmgjaaMth
import Derived.Test.YtdhidmigngmgjaaFn7
import Derived.Test.YtdhidmigngmgjaaFn20
import Derived.Test.YtdhidmigngmgjaaPk
import Derived.Test.YtdhidmigngmgjaaLs
namespace Go.Proofs.Ytdhidmigngmgjaa
open Go.RowKit
set_option linter.unusedSimpArgs false
set_option linter.unusedVariables false
set_option maxHeartbeats 4000000
set_option maxRecDepth 100000
attribute [local irreducible] wpList Code.wp
--# pick_one
theorem pick_one (v : Value) (b : Nat) (t : TypeId) (j : Nat) (sd : Int) (n : Int) (hn : n ≤ 1) (w : World) (hb : Blk w b t #[v, .int .i64 (j : Int), .int .u64 sd]) :
 Calls Try.prog 34 #[.pointer (some ⟨b, 0, none⟩), .int .i64 n] w fun e w' => e = .returned (.int .i64 0) ∧ Ext w w' := by
 have hk_ : decide (n ≤ 1) = true := decide_eq_true hn
 refine calls_of_wp Try.func34 rfl ?_
 refine wp_frame (a' := ⟨#[.pointer (some ⟨b, 0, none⟩), .int .i64 n, undef, undef, undef, undef, undef, undef, undef, undef, undef, undef, undef, undef, undef, undef, undef, undef, undef, undef], []⟩) (by kernel_rfl) ?_
 refine wsr ?_
 refine wv (.int .i64 0) ?_
 refine wpList_nil (then_normal ?_)
 refine wp_seq ?_
 refine wsr ?_
 refine wv (.int .i64 n) ?_
 refine wv (.bool (decide (n ≤ 1))) ?_
 refine wbl 7 true hk_ ?_
 refine wpList_nil (then_normal ?_)
 refine wct ?_
 refine wsr ?_
 refine wv (.int .i64 0) ?_
 refine wpList_nil (then_normal ?_)
 refine wp_ret ?_
 refine then_ret ?_
 refine ret1 (.int .i64 0) rfl ?_ rfl ?_
 · exact resT (by kernel_rfl)
 exact ⟨rfl, (Ext.refl w)⟩


--# pickR
-- 34
theorem pickR (xs : List Int) (v : Value) (hx : xs.length ≤ 4096) (hxb : ∀ i, i < xs.length → 0 ≤ atI xs i ∧ atI xs i ≤ 255) (b : Nat) (t : TypeId) (j : Nat) (sd n : Int) (hn : 1 ≤ n ∧ n ≤ 200) (hj : j ≤ 100000) (w : World) (h : SlIn w v .u8 xs) (hb : Blk w b t #[v, .int .i64 (j : Int), .int .u64 sd]) :
    Calls Try.prog 34 #[.pointer (some ⟨b, 0, none⟩), .int .i64 n] w (PickR w b t v n j) := by
  by_cases h1 : n ≤ 1
  · refine (pick_one v b t j sd n h1 w hb).mono fun e w' hh => ?_
    exact ⟨0, j, sd, hh.1, by omega, by omega, hb.ext hh.2, Wr.of_ext hh.2⟩
  · rcases h with ⟨rfl, rfl⟩ | ⟨ad, cap, rfl, h⟩
    · refine (pick_nil b t j sd n (by omega) hj w hb).mono fun e w' hh => ?_
      exact ⟨_, j + 1, _, hh.1, ⟨Int.emod_nonneg _ (by omega), Int.emod_lt_of_pos _ (by omega)⟩, by omega, hh.2.1, hh.2.2⟩
    · refine (pick_some xs ad cap hx b t j sd n (by omega) hj hxb w hb h).mono fun e w' hh => ?_
      exact ⟨_, j + 1, _, hh.1, ⟨Int.emod_nonneg _ (by omega), Int.emod_lt_of_pos _ (by omega)⟩, by omega, hh.2.1, hh.2.2⟩

--# oneR
theorem oneR (xs : List Int) (v : Value) (hx : xs.length ≤ 4096) (hxb : ∀ i, i < xs.length → 0 ≤ atI xs i ∧ atI xs i ≤ 255) (b : Nat) (t : TypeId) (j : Nat) (sd : Int) (n : Int) (hn : 1 ≤ n ∧ n ≤ 200) (hj : j ≤ 100000) (w : World) (hb : Blk w b t #[v, .int .i64 (j : Int), .int .u64 sd]) (hin : SlIn w v .u8 xs) :
 Calls Try.prog 67 #[.pointer (some ⟨b, 0, none⟩), .int .i64 n] w fun e w' => OneR w b t v j e w' := by
 refine calls_of_wp Try.func67 rfl ?_
 refine wp_frame (a' := ⟨#[.pointer (some ⟨b, 0, none⟩), .int .i64 n, undef, undef, undef, undef, undef, undef, undef], []⟩) (by kernel_rfl) ?_
 refine wsr ?_
 refine wv (.bool false) ?_
 refine wpList_nil (then_normal ?_)
 refine wsr ?_
 refine wv (.pointer (some ⟨b, 0, none⟩)) ?_
 refine wv (.int .i64 n) ?_
 refine wpk (pickR xs v hx hxb b _ j sd n (by omega) (by omega) _ hin hb) ?_
 intro r_1 j_1 e_1 w1 hr1 hj1 hb_ X1
 clear hb; have hb := hb_; clear hb_
 refine wv (.bool (r_1 == 0)) ?_
 refine wv (.bool (r_1 == 0)) ?_
 refine wpList_nil (then_normal ?_)
 refine wp_ret ?_
 refine ret1 (.bool (r_1 == 0)) rfl ?_ rfl ?_
 · exact resT (by kernel_rfl)
 have H1 := (Wr.of_ext (b := b) (Ext.refl w)).trans X1
 exact ⟨_, j_1, _, rfl, by omega, hb, H1⟩


--# l00From_in
-- 33
theorem l00From_in (xs : List Int) (v : Value) (w : World) (h : SlIn w v .u8 xs) : Calls Try.prog 33 #[v] w (RetP w 86 #[v, .int .i64 0, .int .u64 0]) := by
  rcases h with ⟨rfl, rfl⟩ | ⟨ad, cap, rfl, h⟩
  · exact l00From_nil w
  · exact l00From_some xs ad cap w

--# l01Drawn_any
theorem l01Drawn_any (xs : List Int) (v : Value) (hx : xs.length ≤ 4096) (hxb : ∀ i, i < xs.length → 0 ≤ atI xs i ∧ atI xs i ≤ 255) (b : Nat) (t : TypeId) (j : Nat) (sd : Int) (hj : j ≤ 10) (wb : World) (hS : SlIn wb v .u8 xs) (hlo : wb.heap.size ≤ b) (w : World) (hb : Blk w b t #[v, .int .i64 (j : Int), .int .u64 sd]) (hEb : Ext wb w) :
 Calls Try.prog 32 #[.pointer (some ⟨b, 0, none⟩)] w fun e w' => ∃ F : Fld, e = .returned (.agg F.cells) ∧ Drw F 100 ∧ Wr b w w' := by
 refine calls_of_wp Try.func32 rfl ?_
 refine wp_frame (a' := ⟨#[.pointer (some ⟨b, 0, none⟩), undef, undef, undef, undef, undef, undef, undef, undef, undef, undef, undef, undef, undef, undef, undef, undef, undef, undef, undef, undef, undef, undef, undef, undef, undef, undef, undef, undef, undef, undef, undef, undef, undef, undef, undef, undef, undef], []⟩) (by kernel_rfl) ?_
 refine wsr ?_
 refine wnew (Fld.cells Fld.zero) Try.zeroValue29 zero_impl_Field ?_
 intro g1 w1 B1 E1 hg_
 have q_b_g1 := Nat.ne_of_lt (Nat.lt_of_lt_of_le hb.lt hg_)
 have lo_g1 := Nat.le_trans ((Wr.of_ext (b := b) (Ext.refl w))).size hg_
 refine wpList_nil (then_normal ?_)
 refine wsr ?_
 refine wv (.pointer (some ⟨b, 0, none⟩)) ?_
 replace hb := hb.ext E1
 have H1 := (Wr.of_ext (b := b) (Ext.refl w)).trans (Wr.of_ext E1)
 refine wpk (pickR xs v hx hxb b _ j sd 5 (by omega) (by omega) _ (SlIn.ext hS (H1.ext wb hlo hEb)) hb) ?_
 intro r_1 j_1 e_1 w2 hr1 hj1 hb_ X1
 clear hb; have hb := hb_; clear hb_
 refine wi64 (1 + r_1) ?_
 refine wi8 (1 + r_1) ?_
 refine wvv (.agg (Try.zeroCells29.setIfInBounds 0 (.int .i8 (1 + r_1)))) (.agg (Fld.cells (fldWH (1 + r_1) 0))) (build_w _) ?_
 have H2 := H1.trans X1
 replace B1 := X1.blk B1 (Ne.symm q_b_g1)
 refine wnew (Fld.cells Fld.zero) Try.zeroValue29 zero_impl_Field ?_
 intro g2 w3 B2 E2 hg_
 have q_b_g2 := Nat.ne_of_lt (Nat.lt_of_lt_of_le hb.lt hg_)
 have q_g1_g2 := Nat.ne_of_lt (Nat.lt_of_lt_of_le B1.lt hg_)
 have lo_g2 := Nat.le_trans (H2).size hg_
 refine wput (Fld.cells (fldWH (1 + r_1) 0)) row_impl_Field B2 (by exact Fld.size_cells _) (by exact Fld.size_cells _) (by exact Fld.one_cells _) ?_
 intro w4 B2_ X2
 clear B2; have B2 := B2_; clear B2_
 refine wpList_nil (then_normal ?_)
 refine wsr ?_
 refine wv (.pointer (some ⟨b, 0, none⟩)) ?_
 replace hb := X2.blk (hb.ext E2) q_b_g2
 have H3 := (H2.trans (Wr.of_ext E2)).own X2 lo_g2
 refine wpk (pickR xs v hx hxb b _ j_1 e_1 5 (by omega) (by omega) _ (SlIn.ext hS (H3.ext wb hlo hEb)) hb) ?_
 intro r_2 j_2 e_2 w5 hr2 hj2 hb_ X3
 clear hb; have hb := hb_; clear hb_
 refine wi64 (1 + r_2) ?_
 refine wi8 (1 + r_2) ?_
 refine wv (.pointer (some ⟨g2, 1, none⟩)) ?_
 replace B2 := X3.blk B2 (Ne.symm q_b_g2)
 refine wst g2 (1) (.int .i8 (1 + r_2)) scal_int8 B2 (Fld.seth _ _) (by rw [Fld.size_cells]; omega) ?_
 intro w6 B2_ X4
 clear B2; have B2 := B2_; clear B2_
 refine wpList_nil (then_normal ?_)
 refine wp_seq ?_
 refine wsr ?_
 refine wv (.int .i64 0) ?_
 refine wpList_nil (then_normal ?_)
 refine wp_block ?_
 replace hb := X4.blk hb q_b_g2
 replace B1 := X4.blk (X3.blk (X2.blk (B1.ext E2) q_g1_g2) (Ne.symm q_b_g1)) q_g1_g2
 have H4 := (H3.trans X3).own X4 lo_g2
 refine wp_loop_k (fun m1 a wl1 => ∃ (i : Nat) (Fk : Fld) (jv : Nat) (sv : Int), m1 = 100 - i ∧ i ≤ 100 ∧ Drw Fk i ∧ jv ≤ 2 * i + 20 ∧ Wr b w wl1 ∧ Blk wl1 b t #[v, .int .i64 (jv : Int), .int .u64 sv] ∧ Blk wl1 g1 29 (Fld.cells Fld.zero) ∧ Blk wl1 g2 29 Fk.cells ∧ (∃ J1 : Nat → Value, a = ⟨#[.pointer (some ⟨b, 0, none⟩), undef, .pointer (some ⟨g1, 0, none⟩), .pointer (some ⟨g2, 0, none⟩), .int .i64 (i : Int), .pointer (some ⟨b, 0, none⟩), .int .i64 r_1, .int .i64 (1 + r_1), .int .i8 (1 + r_1), .agg (Fld.cells (fldWH (1 + r_1) 0)), .pointer (some ⟨b, 0, none⟩), .int .i64 r_2, .int .i64 (1 + r_2), .int .i8 (1 + r_2), .pointer (some ⟨g2, 1, none⟩), J1 15, J1 16, J1 17, J1 18, J1 19, J1 20, J1 21, J1 22, J1 23, J1 24, J1 25, J1 26, J1 27, J1 28, J1 29, J1 30, J1 31, J1 32, J1 33, J1 34, J1 35, J1 36, undef], []⟩)) (100) ?_ ?_
 · refine ⟨0, { fldWH (1 + r_1) 0 with h := 1 + r_2 }, j_2, e_2, rfl, ?_, ?_, ?_, H4, hb, B1, B2, exJ (by kernel_rfl)⟩
   · omega
   · exact drw_0 (by omega) (by omega)
   · omega
 intro m1 a wl1 hI
 obtain ⟨i, Fk, jv, sv, rfl, hi_, hd, hjv, HL1, hb, B1, B2, J1, rfl⟩ := hI
 refine wp_seq ?_
 refine wsr ?_
 refine wv (.int .i64 (i : Int)) ?_
 refine wv (.bool (decide ((i : Int) < 100))) ?_
 refine wpList_nil (then_normal ?_)
 refine wsplit (decide ((i : Int) < 100)) (fun h1 => ?_) (fun h1 => ?_)
 · skip
   have h1d := dT h1
   refine wp_skip ?_
   refine then_normal ?_
   refine wp_seq ?_
   refine wp_block ?_
   refine wp_seq ?_
   refine wsr ?_
   refine wv (.int .i64 (i : Int)) ?_
   refine wcl (l01Is_any Fk hd.wf g2 _ (i : Int) _ B2) ?_
   intro w7 E3
   refine wv (.bool (!(isB Fk (i : Int)))) ?_
   refine wpList_nil (then_normal ?_)
   have H5 := HL1.trans (Wr.of_ext E3)
   refine wsplit (!(isB Fk (i : Int))) (fun h2 => ?_) (fun h2 => ?_)
   · skip
     replace h2 := nbT h2
     refine wp_exit ?_
     refine then_exit ?_
     refine block_exit ?_
     refine then_normal ?_
     refine wp_region_lit ?_
     refine wv (.int .i64 (i : Int)) ?_
     refine wi64 ((i : Int) + 1) ?_
     refine wv (.int .i64 ((i : Int) + 1)) ?_
     refine wpList_nil (then_normal ?_)
     replace hb := hb.ext E3
     replace B1 := B1.ext E3
     replace B2 := B2.ext E3
     refine ⟨_, ?_, i + 1, Fk, jv, sv, rfl, ?_, ?_, ?_, H5, hb, B1, B2, exJ (by kernel_rfl)⟩
     · omega
     · omega
     · first | exact drw_n hd (by assumption) | exact drw_k hd (by assumption) (by omega) | exact drw_s hd (by assumption) (by omega)
     · omega
   · skip
     replace h2 := nbF h2
     have h2d := isB_true.1 h2
     refine wp_skip ?_
     refine then_normal ?_
     refine wsr ?_
     refine wv (.pointer (some ⟨b, 0, none⟩)) ?_
     replace hb := hb.ext E3
     refine wpo (oneR xs v hx hxb b _ jv sv 4 (by omega) (by omega) _ hb (SlIn.ext hS (H5.ext wb hlo hEb))) ?_
     intro r_3 j_3 e_3 w8 hj3 hb_ X5
     clear hb; have hb := hb_; clear hb_
     refine wpList_nil (then_normal ?_)
     have H6 := H5.trans X5
     refine wsplit (r_3) (fun h3 => ?_) (fun h3 => ?_)
     · skip
       refine wp_region_lit ?_
       refine wv (.int .i64 (i : Int)) ?_
       refine wv (.pointer (some ⟨b, 0, none⟩)) ?_
       refine wpk (pickR xs v hx hxb b _ j_3 e_3 3 (by omega) (by omega) _ (SlIn.ext hS (H6.ext wb hlo hEb)) hb) ?_
       intro r_4 j_4 e_4 w9 hr4 hj4 hb_ X6
       clear hb; have hb := hb_; clear hb_
       refine wi64 (1 + r_4) ?_
       refine wu8 (1 + r_4) ?_
       refine wv (.pointer (some ⟨g2, 2, none⟩)) ?_
       refine wixn g2 2 i .i64 arrt__100_uint8 ?_
       replace B2 := X6.blk (X5.blk (B2.ext E3) (Ne.symm q_b_g2)) (Ne.symm q_b_g2)
       refine wst g2 (2 + i) (.int .u8 (1 + r_4)) scal_uint8 B2 (Fld.setk _ _ (by omega) _) (by rw [Fld.size_cells]; omega) ?_
       intro w10 B2_ X7
       clear B2; have B2 := B2_; clear B2_
       refine wpList_nil (block_normal (then_normal ?_))
       refine wp_region_lit ?_
       refine wv (.int .i64 (i : Int)) ?_
       refine wi64 ((i : Int) + 1) ?_
       refine wv (.int .i64 ((i : Int) + 1)) ?_
       refine wpList_nil (then_normal ?_)
       replace hb := X7.blk hb q_b_g2
       replace B1 := X7.blk (X6.blk (X5.blk (B1.ext E3) (Ne.symm q_b_g1)) (Ne.symm q_b_g1)) q_g1_g2
       have H7 := (H6.trans X6).own X7 lo_g2
       refine ⟨_, ?_, i + 1, { Fk with k := upd Fk.k i (1 + r_4) }, j_4, e_4, rfl, ?_, ?_, ?_, H7, hb, B1, B2, exJ (by kernel_rfl)⟩
       · omega
       · omega
       · first | exact drw_n hd (by assumption) | exact drw_k hd (by assumption) (by omega) | exact drw_s hd (by assumption) (by omega)
       · omega
     · skip
       refine wp_region_lit ?_
       refine wv (.int .i64 (i : Int)) ?_
       refine wv (.pointer (some ⟨b, 0, none⟩)) ?_
       refine wpk (pickR xs v hx hxb b _ j_3 e_3 12 (by omega) (by omega) _ (SlIn.ext hS (H6.ext wb hlo hEb)) hb) ?_
       intro r_5 j_5 e_5 w11 hr5 hj5 hb_ X8
       clear hb; have hb := hb_; clear hb_
       refine wi16 r_5 ?_
       refine wv (.pointer (some ⟨g2, 102, none⟩)) ?_
       refine wixn g2 102 i .i64 arrt__100_int16 ?_
       replace B2 := X8.blk (X5.blk (B2.ext E3) (Ne.symm q_b_g2)) (Ne.symm q_b_g2)
       refine wst g2 (102 + i) (.int .i16 r_5) scal_int16 B2 (Fld.sets _ _ (by omega) _) (by rw [Fld.size_cells]; omega) ?_
       intro w12 B2_ X9
       clear B2; have B2 := B2_; clear B2_
       refine wpList_nil (block_normal (then_normal ?_))
       refine wp_region_lit ?_
       refine wv (.int .i64 (i : Int)) ?_
       refine wi64 ((i : Int) + 1) ?_
       refine wv (.int .i64 ((i : Int) + 1)) ?_
       refine wpList_nil (then_normal ?_)
       replace hb := X9.blk hb q_b_g2
       replace B1 := X9.blk (X8.blk (X5.blk (B1.ext E3) (Ne.symm q_b_g1)) (Ne.symm q_b_g1)) q_g1_g2
       have H8 := (H6.trans X8).own X9 lo_g2
       refine ⟨_, ?_, i + 1, { Fk with s := upd Fk.s i r_5 }, j_5, e_5, rfl, ?_, ?_, ?_, H8, hb, B1, B2, exJ (by kernel_rfl)⟩
       · omega
       · omega
       · first | exact drw_n hd (by assumption) | exact drw_k hd (by assumption) (by omega) | exact drw_s hd (by assumption) (by omega)
       · omega
 · skip
   have h1d := dF h1
   refine wp_exit ?_
   refine then_exit ?_
   refine then_exit ?_
   refine block_exit ?_
   refine then_normal ?_
   refine wsr ?_
   refine wrow row_impl_Field B2 (by exact Fld.size_cells _) ?_
   refine wput Fk.cells row_impl_Field B1 (by exact Fld.size_cells _) (by exact Fld.size_cells _) (by exact Fld.one_cells _) ?_
   intro w13 B1_ X10
   clear B1; have B1 := B1_; clear B1_
   refine wpList_nil (then_normal ?_)
   refine wp_ret ?_
   refine ret1 (.agg Fk.cells) rfl ?_ rfl ?_
   · refine ⟨g1, 29, Fk.cells, _, by kernel_rfl, B1, row_impl_Field, ?_, ?_⟩
     · exact Fld.size_cells _
     · rfl
   have H9 := HL1.own X10 lo_g1
   exact ⟨_, rfl, (by rw [show 100 = i by omega]; exact hd), H9⟩


--# P6Field_any
theorem P6Field_any (xs : List Int) (v : Value) (hx : xs.length ≤ 4096) (hxb : ∀ i, i < xs.length → 0 ≤ atI xs i ∧ atI xs i ≤ 255) (w : World) (hin : SlIn w v .u8 xs) :
 Calls Try.prog 5 #[v] w fun e w' => FldR w e w' := by
 refine calls_of_wp Try.func5 rfl ?_
 refine wp_frame (a' := ⟨#[v, undef, undef, undef, undef, undef], []⟩) (by kernel_rfl) ?_
 refine wsr ?_
 refine wnew (Fld.cells Fld.zero) Try.zeroValue29 zero_impl_Field ?_
 intro g1 w1 B1 E1 hg_
 have lo_g1 := Nat.le_trans ((Ext.refl w)).size hg_
 refine wpList_nil (then_normal ?_)
 refine wsr ?_
 refine wv v ?_
 have H1 := (Ext.refl w).trans E1
 refine wclp (l00From_in xs v _ (SlIn.ext hin H1)) ?_
 intro g2 w2 B2 E2 hg_
 have q_g1_g2 := Nat.ne_of_lt (Nat.lt_of_lt_of_le B1.lt hg_)
 have lo_g2 := Nat.le_trans (H1).size hg_
 replace B1 := B1.ext E2
 have H2 := H1.trans E2
 refine wdrw (l01Drawn_any xs v hx hxb g2 _ 0 0 (by omega) w hin lo_g2 _ B2 H2) ?_
 intro F1 w3 hd1 X1
 replace B1 := X1.blk B1 q_g1_g2
 refine wput F1.cells row_impl_Field B1 (by exact Fld.size_cells _) (by exact Fld.size_cells _) (by exact Fld.one_cells _) ?_
 intro w4 B1_ X2
 clear B1; have B1 := B1_; clear B1_
 refine wpList_nil (then_normal ?_)
 refine wp_ret ?_
 refine ret1 (.agg F1.cells) rfl ?_ rfl ?_
 · refine ⟨g1, 29, F1.cells, _, by kernel_rfl, B1, row_impl_Field, ?_, ?_⟩
   · exact Fld.size_cells _
   · rfl
 have H3 := X2.ext w lo_g1 (X1.ext w lo_g2 H2)
 exact ⟨_, rfl, hd1, H3⟩


--# P6Set_any
theorem P6Set_any (xs : List Int) (v : Value) (hx : xs.length ≤ 4096) (hxb : ∀ i, i < xs.length → 0 ≤ atI xs i ∧ atI xs i ≤ 255) (w : World) (hin : SlIn w v .u8 xs) :
 Calls Try.prog 6 #[v] w fun e w' => SetR w e w' := by
 refine calls_of_wp Try.func6 rfl ?_
 refine wp_frame (a' := ⟨#[v, undef, undef, undef, undef, undef, undef, undef, undef, undef, undef, undef, undef, undef, undef, undef, undef, undef, undef, undef, undef, undef, undef, undef, undef], []⟩) (by kernel_rfl) ?_
 refine wsr ?_
 refine wnew #[.int .u64 0, .int .u64 0] Try.zeroValue33 rfl ?_
 intro g1 w1 B1 E1 hg_
 have lo_g1 := Nat.le_trans ((Ext.refl w)).size hg_
 refine wpList_nil (then_normal ?_)
 refine wsr ?_
 refine wv v ?_
 have H1 := (Ext.refl w).trans E1
 refine wclp (l00From_in xs v _ (SlIn.ext hin H1)) ?_
 intro g2 w2 B2 E2 hg_
 have q_g1_g2 := Nat.ne_of_lt (Nat.lt_of_lt_of_le B1.lt hg_)
 have lo_g2 := Nat.le_trans (H1).size hg_
 refine wv (.pointer (some ⟨g2, 0, none⟩)) ?_
 refine wpList_nil (then_normal ?_)
 refine wsr ?_
 refine wv (.agg #[.int .u64 0, .int .u64 0]) ?_
 have H2 := H1.trans E2
 replace B1 := B1.ext E2
 refine wnew #[.int .u64 0, .int .u64 0] Try.zeroValue33 rfl ?_
 intro g3 w3 B3 E3 hg_
 have q_g1_g3 := Nat.ne_of_lt (Nat.lt_of_lt_of_le B1.lt hg_)
 have q_g2_g3 := Nat.ne_of_lt (Nat.lt_of_lt_of_le B2.lt hg_)
 have lo_g3 := Nat.le_trans (H2).size hg_
 refine wput #[.int .u64 0, .int .u64 0] row_impl_Cells B3 (by rfl) (by rfl) (by kernel_rfl) ?_
 intro w4 B3_ X1
 clear B3; have B3 := B3_; clear B3_
 refine wpList_nil (then_normal ?_)
 refine wp_seq ?_
 refine wsr ?_
 refine wv (.pointer (some ⟨g2, 0, none⟩)) ?_
 replace B2 := X1.blk (B2.ext E3) q_g2_g3
 have H3 := X1.ext w lo_g3 (H2.trans E3)
 refine wpk (pickR xs v hx hxb g2 _ 0 0 8 (by omega) (by omega) _ (SlIn.ext hin H3) B2) ?_
 intro r_1 j_1 e_1 w5 hr1 hj1 B2_ X2
 clear B2; have B2 := B2_; clear B2_
 refine wv (.int .i64 r_1) ?_
 refine wpList_nil (then_normal ?_)
 refine wp_block ?_
 replace B3 := X2.blk B3 (Ne.symm q_g2_g3)
 replace B1 := X2.blk (X1.blk (B1.ext E3) q_g1_g3) q_g1_g2
 have H4 := X2.ext w lo_g2 H3
 refine wp_loop_k (fun m1 a wl1 => ∃ (i : Nat) (k_ : Int) (x_ : Int) (y_ : Int) (jv : Nat) (sv : Int), m1 = k_.toNat ∧ okP (x_, y_) ∧ (listL x_ y_).length ≤ i ∧ 0 ≤ k_ ∧ k_ + (i : Int) ≤ 7 ∧ jv ≤ 2 * i + 10 ∧ Ext w wl1 ∧ Blk wl1 g1 33 #[.int .u64 0, .int .u64 0] ∧ Blk wl1 g2 86 #[v, .int .i64 (jv : Int), .int .u64 sv] ∧ Blk wl1 g3 33 #[.int .u64 x_, .int .u64 y_] ∧ (∃ J1 : Nat → Value, a = ⟨#[v, undef, .pointer (some ⟨g1, 0, none⟩), .pointer (some ⟨g2, 0, none⟩), .pointer (some ⟨g3, 0, none⟩), .int .i64 k_, J1 6, v, .pointer (some ⟨g2, 0, none⟩), .agg #[.int .u64 0, .int .u64 0], .pointer (some ⟨g2, 0, none⟩), .int .i64 r_1, J1 12, J1 13, J1 14, J1 15, J1 16, J1 17, J1 18, J1 19, J1 20, J1 21, J1 22, J1 23, undef], []⟩)) ((r_1).toNat) ?_ ?_
 · refine ⟨0, r_1, 0, 0, j_1, e_1, rfl, ?_, ?_, ?_, ?_, ?_, H4, B1, B2, B3, exJ (by kernel_rfl)⟩
   · exact okP0
   · exact sz_00
   · omega
   · omega
   · omega
 intro m1 a wl1 hI
 obtain ⟨i, k_, x_, y_, jv, sv, rfl, hok, hsz, hk1, hk2, hjv, HL1, B1, B2, B3, J1, rfl⟩ := hI
 refine wp_seq ?_
 refine wsr ?_
 refine wv (.int .i64 k_) ?_
 refine wv (.bool (decide (0 < k_))) ?_
 refine wpList_nil (then_normal ?_)
 refine wsplit (decide (0 < k_)) (fun h1 => ?_) (fun h1 => ?_)
 · skip
   have h1d := dT h1
   refine wp_skip ?_
   refine then_normal ?_
   refine wp_seq ?_
   refine wp_block ?_
   refine wsr ?_
   refine wv (.pointer (some ⟨g2, 0, none⟩)) ?_
   refine wpk (pickR xs v hx hxb g2 _ jv sv 6 (by omega) (by omega) _ (SlIn.ext hin HL1) B2) ?_
   intro r_2 j_2 e_2 w6 hr2 hj2 B2_ X3
   clear B2; have B2 := B2_; clear B2_
   refine wv (.int .i64 r_2) ?_
   refine wpList_nil (then_normal ?_)
   refine wp_region_lit ?_
   refine wv (.int .i64 r_2) ?_
   refine wv (.pointer (some ⟨g2, 0, none⟩)) ?_
   have H5 := X3.ext w lo_g2 HL1
   refine wpk (pickR xs v hx hxb g2 _ j_2 e_2 6 (by omega) (by omega) _ (SlIn.ext hin H5) B2) ?_
   intro r_3 j_3 e_3 w7 hr3 hj3 B2_ X4
   clear B2; have B2 := B2_; clear B2_
   refine wi64 (10 * r_3) ?_
   refine wi64 (r_2 + (10 * r_3)) ?_
   replace B3 := X4.blk (X3.blk B3 (Ne.symm q_g2_g3)) (Ne.symm q_g2_g3)
   refine wcl (l01Put_any x_ y_ g3 _ (r_2 + (10 * r_3)) (by omega) _ B3) ?_
   rintro w8 ⟨B3_, X5⟩
   clear B3; have B3 := B3_; clear B3_
   refine wpList_nil (block_normal (then_normal ?_))
   refine wp_region_lit ?_
   refine wv (.int .i64 k_) ?_
   refine wi64 (k_ - 1) ?_
   refine wv (.int .i64 (k_ - 1)) ?_
   refine wpList_nil (then_normal ?_)
   replace B1 := X5.blk (X4.blk (X3.blk B1 q_g1_g2) q_g1_g2) q_g1_g3
   replace B2 := X5.blk B2 q_g2_g3
   have H6 := X5.ext w lo_g3 (X4.ext w lo_g2 H5)
   refine ⟨_, ?_, i + 1, k_ - 1, (putS (x_, y_) (r_2 + (10 * r_3))).1, (putS (x_, y_) (r_2 + (10 * r_3))).2, j_3, e_3, rfl, ?_, ?_, ?_, ?_, ?_, H6, B1, B2, B3, exJ (by kernel_rfl)⟩
   · omega
   · exact put_ok2 hok (by omega)
   · exact put_sz2 hok (by omega) hsz
   · omega
   · omega
   · omega
 · skip
   have h1d := dF h1
   refine wp_exit ?_
   refine then_exit ?_
   refine then_exit ?_
   refine block_exit ?_
   refine then_normal ?_
   refine wsr ?_
   refine wrow row_impl_Cells B3 (by rfl) ?_
   refine wput #[.int .u64 x_, .int .u64 y_] row_impl_Cells B1 (by rfl) (by rfl) (by kernel_rfl) ?_
   intro w9 B1_ X6
   clear B1; have B1 := B1_; clear B1_
   refine wpList_nil (then_normal ?_)
   refine wp_ret ?_
   refine ret1 (.agg #[.int .u64 x_, .int .u64 y_]) rfl ?_ rfl ?_
   · refine ⟨g1, 33, #[.int .u64 x_, .int .u64 y_], _, by kernel_rfl, B1, row_impl_Cells, ?_, ?_⟩
     · rfl
     · rfl
   have H7 := X6.ext w lo_g1 HL1
   exact ⟨_, _, rfl, hok, by omega, H7⟩


--# P6Cell_any
theorem P6Cell_any (xs : List Int) (v : Value) (hx : xs.length ≤ 4096) (hxb : ∀ i, i < xs.length → 0 ≤ atI xs i ∧ atI xs i ≤ 255) (F : Fld) (hF : F.wf) (hk : okB F = true) (w : World) (hin : SlIn w v .u8 xs) :
 Calls Try.prog 17 #[v, .agg F.cells] w fun e w' => CellR F w e w' := by
 have w1_ := hF.w1
 have w2_ := hF.w2
 have h1_ := hF.h1
 have h2_ := hF.h2
 have wh_ := ok_wh hk
 refine calls_of_wp Try.func17 rfl ?_
 refine wp_frame (a' := ⟨#[v, .agg F.cells, undef, undef, undef, undef, undef, undef, undef, undef, undef, undef, undef, undef, undef, undef, undef, undef, undef, undef, undef, undef], []⟩) (by kernel_rfl) ?_
 refine wsr ?_
 refine wbox F.cells ?_
 intro g1 w1 B1 E1 hg_
 have lo_g1 := Nat.le_trans ((Ext.refl w)).size hg_
 refine wv (.int .i64 0) ?_
 refine wpList_nil (then_normal ?_)
 refine wsr ?_
 refine wv v ?_
 have H1 := (Ext.refl w).trans E1
 refine wclp (l00From_in xs v _ (SlIn.ext hin H1)) ?_
 intro g2 w2 B2 E2 hg_
 have q_g1_g2 := Nat.ne_of_lt (Nat.lt_of_lt_of_le B1.lt hg_)
 have lo_g2 := Nat.le_trans (H1).size hg_
 refine wv (.pointer (some ⟨g2, 0, none⟩)) ?_
 refine wpList_nil (then_normal ?_)
 refine wsr ?_
 refine wv (.pointer (some ⟨g2, 0, none⟩)) ?_
 refine wv (.pointer (some ⟨g1, 0, none⟩)) ?_
 replace B1 := B1.ext E2
 refine wld g1 (0) scal_int8 (B1.get (Fld.get0 _)) ?_
 refine wi64 F.w ?_
 have H2 := H1.trans E2
 refine wpk (pickR xs v hx hxb g2 _ 0 0 F.w (by omega) (by omega) _ (SlIn.ext hin H2) B2) ?_
 intro r_1 j_1 e_1 w3 hr1 hj1 B2_ X1
 clear B2; have B2 := B2_; clear B2_
 refine wv (.int .i64 r_1) ?_
 refine wpList_nil (then_normal ?_)
 refine wsr ?_
 refine wv (.int .i64 r_1) ?_
 refine wv (.pointer (some ⟨g2, 0, none⟩)) ?_
 refine wv (.pointer (some ⟨g1, 1, none⟩)) ?_
 replace B1 := X1.blk B1 q_g1_g2
 refine wld g1 (1) scal_int8 (B1.get (Fld.get1 _)) ?_
 refine wi64 F.h ?_
 have H3 := X1.ext w lo_g2 H2
 refine wpk (pickR xs v hx hxb g2 _ j_1 e_1 F.h (by omega) (by omega) _ (SlIn.ext hin H3) B2) ?_
 intro r_2 j_2 e_2 w4 hr2 hj2 B2_ X2
 clear B2; have B2 := B2_; clear B2_
 refine wi64 (10 * r_2) ?_
 refine wi64 (r_1 + (10 * r_2)) ?_
 refine wv (.int .i64 (r_1 + (10 * r_2))) ?_
 refine wpList_nil (then_normal ?_)
 refine wp_ret ?_
 refine ret1 (.int .i64 (r_1 + (10 * r_2))) rfl ?_ rfl ?_
 · exact resT (by kernel_rfl)
 have H4 := X2.ext w lo_g2 H3
 exact ⟨_, rfl, cell_in (by omega) (by omega) (by omega) (by omega), H4⟩


--# sltu8
-- 4
theorem slt__uint8 : SlT Try.prog 22 5 1 1 (.int .u8 0) := ⟨Try.underlying22, by kernel_rfl, by kernel_rfl, by kernel_rfl, by decide⟩

--# f6big_any
theorem f6big_any (xs : List Int) (v : Value) (w : World) (hin : SlIn w v .u8 xs) :
 Calls Try.prog 4 #[v] w fun e w' => e = .returned (.bool (decide (4096 < (xs.length : Int)))) ∧ Ext w w' := by
 refine calls_of_wp Try.func4 rfl ?_
 refine wp_frame (a' := ⟨#[v, undef, undef, undef, undef, undef], []⟩) (by kernel_rfl) ?_
 refine wsr ?_
 refine wv (.bool false) ?_
 refine wpList_nil (then_normal ?_)
 refine wsr ?_
 refine wv v ?_
 refine wlen (SlIn.ext hin (Ext.refl w)) ⟨_, slt__uint8.1⟩ ?_
 refine wv (.bool (decide (4096 < (xs.length : Int)))) ?_
 refine wv (.bool (decide (4096 < (xs.length : Int)))) ?_
 refine wpList_nil (then_normal ?_)
 refine wp_ret ?_
 refine ret1 (.bool (decide (4096 < (xs.length : Int)))) rfl ?_ rfl ?_
 · exact resT (by kernel_rfl)
 exact ⟨rfl, (Ext.refl w)⟩


--# P6Pick_any
-- 18
/-- A draw, as a number of things. -/
def drM (xs : List Int) (n : Int) : Nat := (drN xs 0 n).toNat
theorem drM_in {xs : List Int} {n : Int} (h : 2 ≤ n) : (drM xs n : Int) < n := by
  have := drN_in (xs := xs) (j := 0) (m := n) (by omega)
  unfold drM
  omega
theorem P6Pick_any (xs : List Int) (v : Value) (n : Int) (hx : xs.length ≤ 4096) (hn : 2 ≤ n ∧ n ≤ 200) (hxb : ∀ i, i < xs.length → 0 ≤ atI xs i ∧ atI xs i ≤ 255) (w : World) (h : SlIn w v .u8 xs) : Calls Try.prog 18 #[v, .int .i64 n] w fun e w' => e = .returned (.int .i64 ((drM xs n : Nat) : Int)) ∧ Ext w w' := by
  have hd := drN_in (xs := xs) (j := 0) (m := n) (by omega)
  rw [show ((drM xs n : Nat) : Int) = drN xs 0 n from Int.toNat_of_nonneg hd.1]
  rcases h with ⟨rfl, rfl⟩ | ⟨ad, cap, rfl, h⟩
  · exact P6Pick_nil n hn w
  · exact P6Pick_some xs ad cap hx n hn hxb w h

--# IsCell_any
theorem IsCell_any (F : Fld) (hF : F.wf) (c : Int) (w : World) :
 Calls Try.prog 29 #[.agg F.cells, .int .i64 c] w fun e w' => e = .returned (.bool (isB F c)) ∧ Ext w w' := by
 refine calls_of_wp Try.func29 rfl ?_
 refine wp_frame (a' := ⟨#[.agg F.cells, .int .i64 c, undef, undef, undef, undef, undef], []⟩) (by kernel_rfl) ?_
 refine wsr ?_
 refine wbox F.cells ?_
 intro g1 w1 B1 E1 _
 refine wv (.bool false) ?_
 refine wpList_nil (then_normal ?_)
 refine wsr ?_
 refine wv (.int .i64 c) ?_
 refine wcl (l01Is_any F hF g1 _ c _ B1) ?_
 intro w2 E2
 refine wv (.bool (isB F c)) ?_
 refine wpList_nil (then_normal ?_)
 refine wp_ret ?_
 have H1 := ((Ext.refl w).trans E1).trans E2
 refine ret1 (.bool (isB F c)) rfl ?_ rfl ?_
 · exact resT (by kernel_rfl)
 exact ⟨rfl, H1⟩

end Go.Proofs.Ytdhidmigngmgjaa
