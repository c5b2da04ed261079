/-
  Contracts: beats backward. No conditions.
-/
import Derived.Test.YtldlaohefgianaaTy
import Derived.Test.YtldlaohefgianaaSl
import Derived.Test.YtldlaohefgianaaMth
import Derived.Test.YtldlaohefgianaaFn9
import Derived.Test.YtldlaohefgianaaRv
namespace Go.Proofs.Ytldlaohefgianaa
open Go.RowKit
set_option linter.unusedSimpArgs false
set_option linter.unusedVariables false
set_option maxHeartbeats 4000000
set_option maxRecDepth 100000
attribute [local irreducible] wpList Code.wp
--# cloneN
-- 22
theorem cloneN_any (xs : List Int) (n b cap : Nat) (cs : Array Value) (hS : SlI cs n cap .i16 xs) (hx : n ≤ 1048576) (w : World) (hb : Blk w b 24 cs) :
    Calls Try.prog 22 #[.slice (some ⟨b, 0, none⟩) n cap] w fun e w' => RetI w 24 .i16 xs id e w' := by
  have hl := hS.len
  subst hl
  exact cloneB_any xs b cap cs hS hx w hb

--# iBack_t
theorem iBack_t (F : Fld) (hF : F.wf) (xs : List Int) (n b2 cap : Nat) (cs : Array Value) (hS : SlI cs n cap .i16 xs) (hn : n ≤ 1048576) (hw16 : ∀ i, -32768 ≤ atI xs i ∧ atI xs i ≤ 32767) (hv : (okB F && beatB F xs) = true) (w : World) (hb2 : Blk w b2 24 cs) :
 Calls Try.prog 8 #[.agg F.cells, .slice (some ⟨b2, 0, none⟩) n cap] w fun e w' => RetI w 24 .i16 (backL xs) (fun v => .tuple #[v, .int .i64 0]) e w' := by
 have hn_ := hS.len
 have bl_ := beat_len hv
 refine calls_of_wp Try.func8 rfl ?_
 refine wp_frame (a' := ⟨#[.agg F.cells, .slice (some ⟨b2, 0, none⟩) n cap, undef, undef, undef, undef, undef, undef, undef, undef, undef, undef, undef, undef, undef, undef, undef], []⟩) (by kernel_rfl) ?_
 refine wsr ?_
 refine wbox F.cells ?_
 intro g1 w1 B1 E1 hg_
 have q_b2_g1 := Nat.ne_of_lt (Nat.lt_of_lt_of_le hb2.lt hg_)
 have lo_g1 := Nat.le_trans ((Ext.refl w)).size hg_
 refine wv (.slice none 0 0) ?_
 refine wv (.int .i64 0) ?_
 refine wpList_nil (then_normal ?_)
 refine wp_seq ?_
 refine wsr ?_
 refine wrow row_impl_Field B1 (by exact Fld.size_cells _) ?_
 refine wv (.slice (some ⟨b2, 0, none⟩) n cap) ?_
 replace hb2 := hb2.ext E1
 refine wcl (iValidBeat_any F hF xs n b2 cap cs hS (by omega) hw16 _ hb2) ?_
 intro w2 E2
 refine wbl 9 true hv ?_
 refine wv (.bool false) ?_
 refine wpList_nil (then_normal ?_)
 refine wcf ?_
 refine wp_skip ?_
 refine then_normal ?_
 refine wsr ?_
 refine wv (.slice (some ⟨b2, 0, none⟩) n cap) ?_
 replace hb2 := hb2.ext E2
 replace B1 := B1.ext E2
 have H1 := ((Ext.refl w).trans E1).trans E2
 refine wcli (cloneN_any xs n b2 cap cs hS (by omega) _ hb2) ?_
 intro g2 cap1 cs1 w3 B2 S1 E3 hg_
 have q_b2_g2 := Nat.ne_of_lt (Nat.lt_of_lt_of_le hb2.lt hg_)
 have q_g1_g2 := Nat.ne_of_lt (Nat.lt_of_lt_of_le B1.lt hg_)
 have lo_g2 := Nat.le_trans (H1).size hg_
 refine wv (.slice (some ⟨g2, 0, none⟩) xs.length cap1) ?_
 refine wpList_nil (then_normal ?_)
 refine wsr ?_
 refine wv (.slice (some ⟨g2, 0, none⟩) xs.length cap1) ?_
 refine wslice1 g2 xs.length cap1 .i64 slit_impl_Beat (by omega) (SlO.nc S1) ?_
 refine wcl (revB_any xs xs.length g2 cap1 cs1 S1 (by omega) _ B2) ?_
 rintro w4 ⟨B2_, X1⟩
 clear B2; have B2 := B2_; clear B2_
 have S2 : SlI (revC cs1 xs) xs.length cap1 .i16 (backL xs) := revC_S S1 (by omega)
 refine wpList_nil (then_normal ?_)
 refine wsr ?_
 refine wv (.slice (some ⟨g2, 0, none⟩) xs.length cap1) ?_
 refine wv (.slice (some ⟨g2, 0, none⟩) xs.length cap1) ?_
 refine wv (.int .i64 0) ?_
 refine wpList_nil (then_normal ?_)
 refine wp_ret ?_
 refine ret2 (.slice (some ⟨g2, 0, none⟩) xs.length cap1) (.int .i64 0) rfl ?_ ?_ rfl ?_
 · exact resT (by kernel_rfl)
 · exact resT (by kernel_rfl)
 have H2 := X1.ext w lo_g2 (H1.trans E3)
 have hq : backL xs = backL xs := by
   rfl
 exact ⟨g2, xs.length, cap1, (revC cs1 xs), rfl, B2, S2.of_eq hq, H2, lo_g2⟩


--# iBack_f
theorem iBack_f (F : Fld) (hF : F.wf) (xs : List Int) (n b2 cap : Nat) (cs : Array Value) (hS : SlI cs n cap .i16 xs) (hn : n ≤ 1048576) (hw16 : ∀ i, -32768 ≤ atI xs i ∧ atI xs i ≤ 32767) (hv : (okB F && beatB F xs) = false) (w : World) (hb2 : Blk w b2 24 cs) :
 Calls Try.prog 8 #[.agg F.cells, .slice (some ⟨b2, 0, none⟩) n cap] w fun e w' => e = .returned (.tuple #[.slice none 0 0, .int .i64 1]) ∧ Ext w w' := by
 have hn_ := hS.len
 refine calls_of_wp Try.func8 rfl ?_
 refine wp_frame (a' := ⟨#[.agg F.cells, .slice (some ⟨b2, 0, none⟩) n cap, undef, undef, undef, undef, undef, undef, undef, undef, undef, undef, undef, undef, undef, undef, undef], []⟩) (by kernel_rfl) ?_
 refine wsr ?_
 refine wbox F.cells ?_
 intro g1 w1 B1 E1 hg_
 have q_b2_g1 := Nat.ne_of_lt (Nat.lt_of_lt_of_le hb2.lt hg_)
 have lo_g1 := Nat.le_trans ((Ext.refl w)).size hg_
 refine wv (.slice none 0 0) ?_
 refine wv (.int .i64 0) ?_
 refine wpList_nil (then_normal ?_)
 refine wp_seq ?_
 refine wsr ?_
 refine wrow row_impl_Field B1 (by exact Fld.size_cells _) ?_
 refine wv (.slice (some ⟨b2, 0, none⟩) n cap) ?_
 replace hb2 := hb2.ext E1
 refine wcl (iValidBeat_any F hF xs n b2 cap cs hS (by omega) hw16 _ hb2) ?_
 intro w2 E2
 refine wbl 9 false hv ?_
 refine wv (.bool true) ?_
 refine wpList_nil (then_normal ?_)
 refine wct ?_
 refine wsr ?_
 refine wv (.slice none 0 0) ?_
 refine wv (.int .i64 1) ?_
 refine wpList_nil (then_normal ?_)
 refine wp_ret ?_
 refine then_ret ?_
 have H1 := ((Ext.refl w).trans E1).trans E2
 refine ret2 (.slice none 0 0) (.int .i64 1) rfl ?_ ?_ rfl ?_
 · exact resT (by kernel_rfl)
 · exact resT (by kernel_rfl)
 exact ⟨rfl, H1⟩


--# sBack_t
theorem sBack_t (F : Fld) (hF : F.wf) (xs : List Int) (n b2 cap : Nat) (cs : Array Value) (hS : SlI cs n cap .i16 xs) (hn : n ≤ 1048576) (hw16 : ∀ i, -32768 ≤ atI xs i ∧ atI xs i ≤ 32767) (hv : (okB F && beatB F xs) = true) (w : World) (hb2 : Blk w b2 24 cs) :
 Calls Try.prog 5 #[.agg F.cells, .slice (some ⟨b2, 0, none⟩) n cap] w fun e w' => RetI w 24 .i16 (backL xs) (fun v => .tuple #[v, .int .i64 0]) e w' := by
 have hn_ := hS.len
 have bl_ := beat_len hv
 refine calls_of_wp Try.func5 rfl ?_
 refine wp_frame (a' := ⟨#[.agg F.cells, .slice (some ⟨b2, 0, none⟩) n cap, undef, undef, undef, undef, undef, undef, undef, undef, undef, undef, undef, undef, undef, undef, undef, undef, undef, undef, undef, undef, undef, undef, undef, undef, undef, undef, undef, undef, undef], []⟩) (by kernel_rfl) ?_
 refine wsr ?_
 refine wbox F.cells ?_
 intro g1 w1 B1 E1 hg_
 have q_b2_g1 := Nat.ne_of_lt (Nat.lt_of_lt_of_le hb2.lt hg_)
 have lo_g1 := Nat.le_trans ((Ext.refl w)).size hg_
 refine wv (.slice none 0 0) ?_
 refine wv (.int .i64 0) ?_
 refine wpList_nil (then_normal ?_)
 refine wp_seq ?_
 refine wsr ?_
 refine wv (.slice (some ⟨b2, 0, none⟩) n cap) ?_
 replace hb2 := hb2.ext E1
 refine wcl (l05Ok_any F hF g1 _ xs n b2 cap cs hS (by omega) hw16 _ B1 hb2) ?_
 intro w2 E2
 refine wbl 9 true hv ?_
 refine wv (.bool false) ?_
 refine wpList_nil (then_normal ?_)
 refine wcf ?_
 refine wp_skip ?_
 refine then_normal ?_
 refine wsr ?_
 refine wv (.slice (some ⟨b2, 0, none⟩) n cap) ?_
 refine wsix1 b2 0 n cap 0 .i64 slit_impl_Beat ?_
 replace hb2 := hb2.ext E2
 refine wld b2 (0 + 0) scal_int16 (hb2.get (SlI.get hS (by omega))) ?_
 have H1 := ((Ext.refl w).trans E1).trans E2
 replace B1 := B1.ext E2
 refine wbsl 1 #[.int .i16 (atI xs 0)] slt_impl_Beat ?_
 intro g2 w3 B2 E3 hg_
 have q_b2_g2 := Nat.ne_of_lt (Nat.lt_of_lt_of_le hb2.lt hg_)
 have q_g1_g2 := Nat.ne_of_lt (Nat.lt_of_lt_of_le B1.lt hg_)
 have lo_g2 := Nat.le_trans (H1).size hg_
 refine wv (.slice (some ⟨g2, 0, none⟩) 1 1) ?_
 refine wpList_nil (then_normal ?_)
 refine wp_seq ?_
 refine wsr ?_
 refine wv (.slice (some ⟨b2, 0, none⟩) n cap) ?_
 refine wv (.int .i64 (n : Int)) ?_
 refine wi64 ((n : Int) - 1) ?_
 refine wv (.int .i64 ((n : Int) - 1)) ?_
 refine wpList_nil (then_normal ?_)
 refine wp_block ?_
 have S1 : SlI #[.int .i16 (atI xs 0)] 1 1 .i16 [atI xs 0] := SlI.one
 replace hb2 := hb2.ext E3
 replace B1 := B1.ext E3
 have H2 := H1.trans E3
 refine wp_loop_k (fun m1 a wl1 => ∃ (i : Nat) (vv : Int) (go : Nat) (no : Nat) (capo : Nat) (cso : Array Value), m1 = n - 1 - i ∧ i ≤ n - 1 ∧ vv = (n : Int) - 1 - (i : Int) ∧ SlI cso no capo .i16 (backN xs i) ∧ w.heap.size ≤ go ∧ b2 ≠ go ∧ g1 ≠ go ∧ Ext w wl1 ∧ Blk wl1 b2 24 cs ∧ Blk wl1 g1 32 F.cells ∧ Blk wl1 go 24 cso ∧ (∃ J1 : Nat → Value, a = ⟨#[.agg F.cells, .slice (some ⟨b2, 0, none⟩) n cap, .pointer (some ⟨g1, 0, none⟩), undef, .slice none 0 0, .int .i64 0, .slice (some ⟨go, 0, none⟩) no capo, .int .i64 vv, .slice (some ⟨b2, 0, none⟩) n cap, .bool true, .bool false, undef, .slice (some ⟨b2, 0, none⟩) n cap, .pointer (some ⟨b2, 0 + 0, none⟩), .int .i16 (atI xs 0), .slice (some ⟨g2, 0, none⟩) 1 1, .slice (some ⟨b2, 0, none⟩) n cap, .int .i64 (n : Int), .int .i64 ((n : Int) - 1), J1 19, J1 20, J1 21, J1 22, J1 23, J1 24, J1 25, J1 26, J1 27, J1 28, J1 29, undef], []⟩)) (n - 1) ?_ ?_
 · refine ⟨0, (n : Int) - 1, g2, 1, 1, #[.int .i16 (atI xs 0)], rfl, ?_, ?_, ?_, ?_, ?_, ?_, H2, hb2, B1, B2, exJ (by kernel_rfl)⟩
   · omega
   · omega
   · refine S1.of_eq ?_
     first | rfl | exact (backN_0 xs).symm
   · exact lo_g2
   · exact q_b2_g2
   · exact q_g1_g2
 intro m1 a wl1 hI
 obtain ⟨i, vv, go, no, capo, cso, rfl, hi_, hvv, So, lo_go, n_b2_go, n_g1_go, HL1, hb2, B1, Bo, J1, rfl⟩ := hI
 have bn_ := backN_length xs i
 have len_So := So.len
 refine wp_seq ?_
 refine wsr ?_
 refine wv (.int .i64 vv) ?_
 refine wv (.bool (decide (0 < vv))) ?_
 refine wpList_nil (then_normal ?_)
 refine wsplit (decide (0 < vv)) (fun h1 => ?_) (fun h1 => ?_)
 · skip
   have h1d := dT h1
   refine wp_skip ?_
   refine then_normal ?_
   refine wp_seq ?_
   refine wp_block ?_
   refine wp_region_lit ?_
   refine wv (.slice (some ⟨go, 0, none⟩) no capo) ?_
   refine wv (.slice (some ⟨b2, 0, none⟩) n cap) ?_
   refine wv (.int .i64 vv) ?_
   refine wsix1z b2 0 n cap vv .i64 slit_impl_Beat ?_
   refine wld b2 (0 + (vv).toNat) scal_int16 (hb2.get (SlI.get hS (by omega))) ?_
   refine wbsl 1 #[.int .i16 (atI xs ((vv).toNat))] slt_impl_Beat ?_
   intro g3 w4 B3 E4 hg_
   have q_b2_g3 := Nat.ne_of_lt (Nat.lt_of_lt_of_le hb2.lt hg_)
   have q_g1_g3 := Nat.ne_of_lt (Nat.lt_of_lt_of_le B1.lt hg_)
   have q_go_g3 := Nat.ne_of_lt (Nat.lt_of_lt_of_le Bo.lt hg_)
   have lo_g3 := Nat.le_trans (HL1).size hg_
   replace hb2 := hb2.ext E4
   replace B1 := B1.ext E4
   replace Bo := Bo.ext E4
   have H3 := HL1.trans E4
   refine wappi (atI xs ((vv).toNat)) slt_impl_Beat Bo So B3 ?_
   intro g4 cap1 cs1 w5 B4 S2 X1 or1
   have n_b2_g4 := ne_app hb2 n_b2_go or1
   have n_g1_g4 := ne_app B1 n_g1_go or1
   have n_g3_g4 := ne_app B3 (Ne.symm q_go_g3) or1
   have lo_g4 := Wr.lo or1 lo_go (H3).size
   refine wv (.slice (some ⟨g4, 0, none⟩) (no + 1) cap1) ?_
   refine wpList_nil (block_normal (then_normal ?_))
   refine wp_region_lit ?_
   refine wv (.int .i64 vv) ?_
   refine wi64 (vv - 1) ?_
   refine wv (.int .i64 (vv - 1)) ?_
   refine wpList_nil (then_normal ?_)
   replace hb2 := X1.blk hb2 n_b2_go
   replace B1 := X1.blk B1 n_g1_go
   have H4 := X1.ext w lo_go H3
   refine ⟨_, ?_, i + 1, vv - 1, g4, no + 1, cap1, cs1, rfl, ?_, ?_, ?_, ?_, ?_, ?_, H4, hb2, B1, B4, exJ (by kernel_rfl)⟩
   · omega
   · omega
   · omega
   · refine S2.of_eq ?_
     rw [backN_s, show vv.toNat = xs.length - 1 - i by omega]
   · exact lo_g4
   · exact n_b2_g4
   · exact n_g1_g4
 · skip
   have h1d := dF h1
   refine wp_exit ?_
   refine then_exit ?_
   refine then_exit ?_
   refine block_exit ?_
   refine then_normal ?_
   refine wsr ?_
   refine wv (.slice (some ⟨go, 0, none⟩) no capo) ?_
   refine wv (.slice (some ⟨go, 0, none⟩) no capo) ?_
   refine wv (.int .i64 0) ?_
   refine wpList_nil (then_normal ?_)
   refine wp_ret ?_
   refine ret2 (.slice (some ⟨go, 0, none⟩) no capo) (.int .i64 0) rfl ?_ ?_ rfl ?_
   · exact resT (by kernel_rfl)
   · exact resT (by kernel_rfl)
   have hq : backN xs i = backL xs := by
     unfold backL; congr 1; omega
   exact ⟨go, no, capo, cso, rfl, Bo, So.of_eq hq, HL1, lo_go⟩


--# sBack_f
theorem sBack_f (F : Fld) (hF : F.wf) (xs : List Int) (n b2 cap : Nat) (cs : Array Value) (hS : SlI cs n cap .i16 xs) (hn : n ≤ 1048576) (hw16 : ∀ i, -32768 ≤ atI xs i ∧ atI xs i ≤ 32767) (hv : (okB F && beatB F xs) = false) (w : World) (hb2 : Blk w b2 24 cs) :
 Calls Try.prog 5 #[.agg F.cells, .slice (some ⟨b2, 0, none⟩) n cap] w fun e w' => RetI w 24 .i16 ([] : List Int) (fun v => .tuple #[v, .int .i64 1]) e w' := by
 have hn_ := hS.len
 refine calls_of_wp Try.func5 rfl ?_
 refine wp_frame (a' := ⟨#[.agg F.cells, .slice (some ⟨b2, 0, none⟩) n cap, undef, undef, undef, undef, undef, undef, undef, undef, undef, undef, undef, undef, undef, undef, undef, undef, undef, undef, undef, undef, undef, undef, undef, undef, undef, undef, undef, undef, undef], []⟩) (by kernel_rfl) ?_
 refine wsr ?_
 refine wbox F.cells ?_
 intro g1 w1 B1 E1 hg_
 have q_b2_g1 := Nat.ne_of_lt (Nat.lt_of_lt_of_le hb2.lt hg_)
 have lo_g1 := Nat.le_trans ((Ext.refl w)).size hg_
 refine wv (.slice none 0 0) ?_
 refine wv (.int .i64 0) ?_
 refine wpList_nil (then_normal ?_)
 refine wp_seq ?_
 refine wsr ?_
 refine wv (.slice (some ⟨b2, 0, none⟩) n cap) ?_
 replace hb2 := hb2.ext E1
 refine wcl (l05Ok_any F hF g1 _ xs n b2 cap cs hS (by omega) hw16 _ B1 hb2) ?_
 intro w2 E2
 refine wbl 9 false hv ?_
 refine wv (.bool true) ?_
 refine wpList_nil (then_normal ?_)
 refine wct ?_
 refine wsr ?_
 have H1 := ((Ext.refl w).trans E1).trans E2
 replace hb2 := hb2.ext E2
 replace B1 := B1.ext E2
 refine wbsl 0 #[] slt_impl_Beat ?_
 intro g2 w3 B2 E3 hg_
 have q_b2_g2 := Nat.ne_of_lt (Nat.lt_of_lt_of_le hb2.lt hg_)
 have q_g1_g2 := Nat.ne_of_lt (Nat.lt_of_lt_of_le B1.lt hg_)
 have lo_g2 := Nat.le_trans (H1).size hg_
 have S1 : SlI #[] 0 0 .i16 [] := SlI.nil
 refine wv (.slice (some ⟨g2, 0, none⟩) 0 0) ?_
 refine wv (.int .i64 1) ?_
 refine wpList_nil (then_normal ?_)
 refine wp_ret ?_
 refine then_ret ?_
 refine ret2 (.slice (some ⟨g2, 0, none⟩) 0 0) (.int .i64 1) rfl ?_ ?_ rfl ?_
 · exact resT (by kernel_rfl)
 · exact resT (by kernel_rfl)
 have H2 := H1.trans E3
 have hq : ([] : List Int) = ([] : List Int) := by
   rfl
 exact ⟨g2, 0, 0, #[], rfl, B2, S1.of_eq hq, H2, lo_g2⟩


--# markBeat_any
theorem markBeat_any (xs : List Int) (b cap : Nat) (cs : Array Value) (hS : SlI cs xs.length cap .i16 xs) (k : Int) (hx : xs.length ≤ 1048576) (hk : 0 ≤ k ∧ k ≤ 1000) (w : World) (hb : Blk w b 24 cs) :
 Calls Try.prog 10 #[.slice (some ⟨b, 0, none⟩) xs.length cap, .int .i64 k] w fun e w' => ∃ cs' ys, e = .returned (.int .i64 (k + (xs.length : Int))) ∧ Blk w' b 24 cs' ∧ SlI cs' xs.length cap .i16 ys ∧ (ys.length = xs.length ∧ ∀ j, j < xs.length → atI ys j = IntKind.i16.wrap (k + (j : Int))) ∧ Wr b w w' := by
 refine calls_of_wp Try.func10 rfl ?_
 refine wp_frame (a' := ⟨#[.slice (some ⟨b, 0, none⟩) xs.length cap, .int .i64 k, undef, undef, undef, undef, undef, undef, undef, undef, undef, undef, undef, undef, undef, undef, undef, undef, undef, undef], []⟩) (by kernel_rfl) ?_
 refine wsr ?_
 refine wv (.int .i64 0) ?_
 refine wpList_nil (then_normal ?_)
 refine wp_seq ?_
 refine wsr ?_
 refine wv (.int .i64 0) ?_
 refine wpList_nil (then_normal ?_)
 refine wp_block ?_
 refine wp_loop_k (fun m1 a wl1 => ∃ (i : Nat) (kk : Int) (ys : List Int) (cs_ : Array Value), m1 = xs.length - i ∧ i ≤ xs.length ∧ kk = k + (i : Int) ∧ SlI cs_ xs.length cap .i16 ys ∧ ys.length = xs.length ∧ (∀ j, j < i → atI ys j = IntKind.i16.wrap (k + (j : Int))) ∧ Wr b w wl1 ∧ Blk wl1 b 24 cs_ ∧ (∃ J1 : Nat → Value, a = ⟨#[.slice (some ⟨b, 0, none⟩) xs.length cap, .int .i64 kk, undef, undef, .int .i64 0, .int .i64 (i : Int), J1 6, J1 7, J1 8, J1 9, J1 10, J1 11, J1 12, J1 13, J1 14, J1 15, J1 16, J1 17, J1 18, undef], []⟩)) (xs.length) ?_ ?_
 · refine ⟨0, k, xs, cs, rfl, ?_, ?_, ?_, ?_, ?_, (Wr.of_ext (Ext.refl w)), hb, exJ (by kernel_rfl)⟩
   · omega
   · omega
   · exact hS
   · rfl
   · intro j hj; omega
 intro m1 a wl1 hI
 obtain ⟨i, kk, ys, cs_, rfl, hi_, hkk, Sm, hl_, hys, HL1, hb, J1, rfl⟩ := hI
 refine wp_seq ?_
 refine wsr ?_
 refine wv (.int .i64 (i : Int)) ?_
 refine wv (.slice (some ⟨b, 0, none⟩) xs.length cap) ?_
 refine wv (.int .i64 (xs.length : Int)) ?_
 refine wv (.bool (decide ((i : Int) < (xs.length : Int)))) ?_
 refine wpList_nil (then_normal ?_)
 refine wsplit (decide ((i : Int) < (xs.length : Int))) (fun h1 => ?_) (fun h1 => ?_)
 · skip
   have h1d := dT h1
   refine wp_skip ?_
   refine then_normal ?_
   refine wp_seq ?_
   refine wp_block ?_
   refine wsr ?_
   refine wv (.slice (some ⟨b, 0, none⟩) xs.length cap) ?_
   refine wv (.int .i64 (i : Int)) ?_
   refine wv (.int .i64 kk) ?_
   refine wv (.int .i16 (IntKind.i16.wrap kk)) ?_
   refine wsix1 b 0 xs.length cap i .i64 slit_impl_Beat ?_
   have S1 := SlI.set Sm i (IntKind.i16.wrap kk)
   refine wst b (0 + i) (.int .i16 (IntKind.i16.wrap kk)) scal_int16 hb (rfl) (by exact SlI.lt Sm (by omega)) ?_
   intro w1 hb_ X1
   clear hb; have hb := hb_; clear hb_
   refine wpList_nil (then_normal ?_)
   refine wp_region_lit ?_
   refine wv (.int .i64 kk) ?_
   refine wi64 (kk + 1) ?_
   refine wv (.int .i64 (kk + 1)) ?_
   refine wpList_nil (block_normal (then_normal ?_))
   refine wp_region_lit ?_
   refine wv (.int .i64 (i : Int)) ?_
   refine wi64 ((i : Int) + 1) ?_
   refine wv (.int .i64 ((i : Int) + 1)) ?_
   refine wpList_nil (then_normal ?_)
   have H1 := HL1.trans X1
   refine ⟨_, ?_, i + 1, kk + 1, ys.set i (IntKind.i16.wrap kk), (cs_.setIfInBounds (0 + i) (.int .i16 (IntKind.i16.wrap kk))), rfl, ?_, ?_, ?_, ?_, ?_, H1, hb, exJ (by kernel_rfl)⟩
   · omega
   · omega
   · omega
   · exact S1
   · rw [List.length_set]; exact hl_
   · intro j hj
     by_cases hji : i = j
     · subst hji; rw [atI_set_self (by omega), hkk]
     · rw [atI_set_ne (by omega) hji]; exact hys j (by omega)
 · skip
   have h1d := dF h1
   refine wp_exit ?_
   refine then_exit ?_
   refine then_exit ?_
   refine block_exit ?_
   refine then_normal ?_
   refine wsr ?_
   refine wv (.int .i64 kk) ?_
   refine wv (.int .i64 kk) ?_
   refine wpList_nil (then_normal ?_)
   refine wp_ret ?_
   refine ret1 (.int .i64 kk) rfl ?_ rfl ?_
   · exact resT (by kernel_rfl)
   have ek_ : kk = k + (xs.length : Int) := by omega
   rw [ek_]
   exact ⟨_, _, rfl, hb, Sm, ⟨hl_, fun j hj => hys j (by omega)⟩, HL1⟩


--# heldBeat_any
theorem heldBeat_any (xs : List Int) (n : Nat) (b cap : Nat) (cs : Array Value) (hS : SlI cs n cap .i16 xs) (k : Int) (hx : n ≤ 1048576) (hk : 0 ≤ k ∧ k ≤ 1000) (hm : ∀ j, j < n → atI xs j = IntKind.i16.wrap (k + (j : Int))) (w : World) (hb : Blk w b 24 cs) :
 Calls Try.prog 11 #[.slice (some ⟨b, 0, none⟩) n cap, .int .i64 k] w fun e w' => e = .returned (.int .i64 (k + (n : Int))) ∧ Ext w w' := by
 refine calls_of_wp Try.func11 rfl ?_
 refine wp_frame (a' := ⟨#[.slice (some ⟨b, 0, none⟩) n cap, .int .i64 k, undef, undef, undef, undef, undef, undef, undef, undef, undef, undef, undef, undef, undef, undef, undef, undef, undef, undef, undef, undef], []⟩) (by kernel_rfl) ?_
 refine wsr ?_
 refine wv (.int .i64 0) ?_
 refine wpList_nil (then_normal ?_)
 refine wp_seq ?_
 refine wsr ?_
 refine wv (.int .i64 0) ?_
 refine wpList_nil (then_normal ?_)
 refine wp_block ?_
 refine wp_loop_k (fun m1 a wl1 => ∃ (i : Nat) (kk : Int), m1 = n - i ∧ i ≤ n ∧ kk = k + (i : Int) ∧ Ext w wl1 ∧ Blk wl1 b 24 cs ∧ (∃ J1 : Nat → Value, a = ⟨#[.slice (some ⟨b, 0, none⟩) n cap, .int .i64 kk, undef, undef, J1 4, .int .i64 (i : Int), J1 6, J1 7, J1 8, J1 9, J1 10, J1 11, J1 12, J1 13, J1 14, J1 15, J1 16, J1 17, J1 18, J1 19, J1 20, undef], []⟩)) (n) ?_ ?_
 · refine ⟨0, k, rfl, ?_, ?_, (Ext.refl w), hb, exJ (by kernel_rfl)⟩
   · omega
   · omega
 intro m1 a wl1 hI
 obtain ⟨i, kk, rfl, hi_, hkk, HL1, hb, J1, rfl⟩ := hI
 refine wp_seq ?_
 refine wsr ?_
 refine wv (.int .i64 (i : Int)) ?_
 refine wv (.slice (some ⟨b, 0, none⟩) n cap) ?_
 refine wv (.int .i64 (n : Int)) ?_
 refine wv (.bool (decide ((i : Int) < (n : Int)))) ?_
 refine wpList_nil (then_normal ?_)
 refine wsplit (decide ((i : Int) < (n : Int))) (fun h1 => ?_) (fun h1 => ?_)
 · skip
   have h1d := dT h1
   refine wp_skip ?_
   refine then_normal ?_
   refine wp_seq ?_
   refine wp_block ?_
   refine wp_seq ?_
   refine wsr ?_
   refine wv (.slice (some ⟨b, 0, none⟩) n cap) ?_
   refine wv (.int .i64 (i : Int)) ?_
   refine wsix1 b 0 n cap i .i64 slit_impl_Beat ?_
   refine wld b (0 + i) scal_int16 (hb.get (SlI.get hS (by omega))) ?_
   refine wv (.int .i64 kk) ?_
   refine wv (.int .i16 (IntKind.i16.wrap kk)) ?_
   refine wv (.bool ((atI xs i) != (IntKind.i16.wrap kk))) ?_
   refine wpList_nil (then_normal ?_)
   refine wsplit ((atI xs i) != (IntKind.i16.wrap kk)) (fun h2 => ?_) (fun h2 => ?_)
   · skip
     have h2d := nT h2
     refine wsr ?_
     refine wv (.int .i64 (-1)) ?_
     refine wpList_nil (then_normal ?_)
     refine wp_ret ?_
     refine then_ret (block_ret (then_ret (then_ret (block_ret (then_ret ?_)))))
     refine ret1 (.int .i64 (k + (n : Int))) rfl ?_ rfl ?_
     · refine (resT (v := .int .i64 (-1)) (by kernel_rfl)).trans ?_
       refine congrArg (Value.int _) ?_
       first | omega | (exfalso; have hm_ := hm i (by omega); rw [← hkk] at hm_; omega)
     exact ⟨rfl, HL1⟩
   · skip
     have h2d := nF h2
     refine wp_skip ?_
     refine then_normal ?_
     refine wp_region_lit ?_
     refine wv (.int .i64 kk) ?_
     refine wi64 (kk + 1) ?_
     refine wv (.int .i64 (kk + 1)) ?_
     refine wpList_nil (block_normal (then_normal ?_))
     refine wp_region_lit ?_
     refine wv (.int .i64 (i : Int)) ?_
     refine wi64 ((i : Int) + 1) ?_
     refine wv (.int .i64 ((i : Int) + 1)) ?_
     refine wpList_nil (then_normal ?_)
     refine ⟨_, ?_, i + 1, kk + 1, rfl, ?_, ?_, HL1, hb, exJ (by kernel_rfl)⟩
     · omega
     · omega
     · omega
 · skip
   have h1d := dF h1
   refine wp_exit ?_
   refine then_exit ?_
   refine then_exit ?_
   refine block_exit ?_
   refine then_normal ?_
   refine wsr ?_
   refine wv (.int .i64 kk) ?_
   refine wv (.int .i64 kk) ?_
   refine wpList_nil (then_normal ?_)
   refine wp_ret ?_
   refine ret1 (.int .i64 (k + (n : Int))) rfl ?_ rfl ?_
   · refine (resT (v := .int .i64 kk) (by kernel_rfl)).trans ?_
     refine congrArg (Value.int _) ?_
     first | omega | (exfalso; have hm_ := hm i (by omega); rw [← hkk] at hm_; omega)
   exact ⟨rfl, HL1⟩


--# eqBeat_nil
theorem eqBeat_nil (b cap : Nat) (w : World) :
 Calls Try.prog 9 #[.slice none 0 0, .slice (some ⟨b, 0, none⟩) 0 cap] w fun e w' => e = .returned (.bool true) ∧ Ext w w' := by
 refine calls_of_wp Try.func9 rfl ?_
 refine wp_frame (a' := ⟨#[.slice none 0 0, .slice (some ⟨b, 0, none⟩) 0 cap, undef, undef, undef, undef, undef, undef, undef, undef, undef, undef, undef, undef, undef, undef, undef, undef, undef, undef, undef, undef, undef, undef, undef, undef], []⟩) (by kernel_rfl) ?_
 refine wsr ?_
 refine wv (.bool false) ?_
 refine wpList_nil (then_normal ?_)
 refine wp_seq ?_
 refine wsr ?_
 refine wv (.slice none 0 0) ?_
 refine wv (.int .i64 0) ?_
 refine wv (.slice (some ⟨b, 0, none⟩) 0 cap) ?_
 refine wv (.int .i64 0) ?_
 refine wvv (.bool (0 != 0)) (.bool false) (by simp) ?_
 refine wpList_nil (then_normal ?_)
 refine wcf ?_
 refine wp_skip ?_
 refine then_normal ?_
 refine wp_seq ?_
 refine wsr ?_
 refine wv (.int .i64 0) ?_
 refine wpList_nil (then_normal ?_)
 refine wp_block ?_
 refine wp_loop_rounds 1 ?_
 refine rounds_s ?_
 refine wp_seq ?_
 refine wsr ?_
 refine wv (.int .i64 0) ?_
 refine wv (.slice none 0 0) ?_
 refine wv (.int .i64 0) ?_
 refine wv (.bool false) ?_
 refine wpList_nil (then_normal ?_)
 refine wcf ?_
 refine wp_exit ?_
 refine then_exit ?_
 refine then_exit ?_
 refine block_exit ?_
 refine then_normal ?_
 refine wsr ?_
 refine wv (.bool true) ?_
 refine wpList_nil (then_normal ?_)
 refine wp_ret ?_
 refine ret1 (.bool true) rfl ?_ rfl ?_
 · exact resT (by kernel_rfl)
 exact ⟨rfl, (Ext.refl w)⟩


--# markBeat_nil
theorem markBeat_nil (k : Int) (w : World) :
 Calls Try.prog 10 #[.slice none 0 0, .int .i64 k] w fun e w' => e = .returned (.int .i64 k) ∧ Ext w w' := by
 refine calls_of_wp Try.func10 rfl ?_
 refine wp_frame (a' := ⟨#[.slice none 0 0, .int .i64 k, undef, undef, undef, undef, undef, undef, undef, undef, undef, undef, undef, undef, undef, undef, undef, undef, undef, undef], []⟩) (by kernel_rfl) ?_
 refine wsr ?_
 refine wv (.int .i64 0) ?_
 refine wpList_nil (then_normal ?_)
 refine wp_seq ?_
 refine wsr ?_
 refine wv (.int .i64 0) ?_
 refine wpList_nil (then_normal ?_)
 refine wp_block ?_
 refine wp_loop_rounds 1 ?_
 refine rounds_s ?_
 refine wp_seq ?_
 refine wsr ?_
 refine wv (.int .i64 0) ?_
 refine wv (.slice none 0 0) ?_
 refine wv (.int .i64 0) ?_
 refine wv (.bool false) ?_
 refine wpList_nil (then_normal ?_)
 refine wcf ?_
 refine wp_exit ?_
 refine then_exit ?_
 refine then_exit ?_
 refine block_exit ?_
 refine then_normal ?_
 refine wsr ?_
 refine wv (.int .i64 k) ?_
 refine wv (.int .i64 k) ?_
 refine wpList_nil (then_normal ?_)
 refine wp_ret ?_
 refine ret1 (.int .i64 k) rfl ?_ rfl ?_
 · exact resT (by kernel_rfl)
 exact ⟨rfl, (Ext.refl w)⟩


--# heldBeat_nil
theorem heldBeat_nil (k : Int) (w : World) :
 Calls Try.prog 11 #[.slice none 0 0, .int .i64 k] w fun e w' => e = .returned (.int .i64 k) ∧ Ext w w' := by
 refine calls_of_wp Try.func11 rfl ?_
 refine wp_frame (a' := ⟨#[.slice none 0 0, .int .i64 k, undef, undef, undef, undef, undef, undef, undef, undef, undef, undef, undef, undef, undef, undef, undef, undef, undef, undef, undef, undef], []⟩) (by kernel_rfl) ?_
 refine wsr ?_
 refine wv (.int .i64 0) ?_
 refine wpList_nil (then_normal ?_)
 refine wp_seq ?_
 refine wsr ?_
 refine wv (.int .i64 0) ?_
 refine wpList_nil (then_normal ?_)
 refine wp_block ?_
 refine wp_loop_rounds 1 ?_
 refine rounds_s ?_
 refine wp_seq ?_
 refine wsr ?_
 refine wv (.int .i64 0) ?_
 refine wv (.slice none 0 0) ?_
 refine wv (.int .i64 0) ?_
 refine wv (.bool false) ?_
 refine wpList_nil (then_normal ?_)
 refine wcf ?_
 refine wp_exit ?_
 refine then_exit ?_
 refine then_exit ?_
 refine block_exit ?_
 refine then_normal ?_
 refine wsr ?_
 refine wv (.int .i64 k) ?_
 refine wv (.int .i64 k) ?_
 refine wpList_nil (then_normal ?_)
 refine wp_ret ?_
 refine ret1 (.int .i64 k) rfl ?_ rfl ?_
 · exact resT (by kernel_rfl)
 exact ⟨rfl, (Ext.refl w)⟩

end Go.Proofs.Ytldlaohefgianaa
