/-
 Contracts: what the law of the places asks for. No conditions.
-/
import Derived.Test.YtgglcebaanomhaaTy
import Derived.Test.YtgglcebaanomhaaSl
import Derived.Test.YtgglcebaanomhaaMth
import Derived.Test.YtgglcebaanomhaaFn18
import Derived.Test.YtgglcebaanomhaaFn25
import Derived.Test.YtgglcebaanomhaaFn26
import Derived.Test.YtgglcebaanomhaaPl
namespace Go.Proofs.Ytgglcebaanomhaa
open Go.RowKit
set_option linter.unusedSimpArgs false
set_option linter.unusedVariables false
set_option maxHeartbeats 4000000
set_option maxRecDepth 100000
attribute [local irreducible] wpList Code.wp
theorem iCheckPlaces_adr (F : Fld) (hF : F.wf) (w0 : Int) (l : Int) (x y : Int) (xs : List Int) (ad : Addr) (cap : Nat) (hn : xs.length ≤ 1048576) (hwx : wrd x) (hwy : wrd y) (w : World) (hA : SlA w ad .i64 xs) :
 Calls Try.prog 18 #[.agg F.cells, .int .i64 w0, .int .i64 l, .agg #[.int .u64 x, .int .u64 y], .slice (some ad) xs.length cap] w fun e w' => e = .returned (.tuple #[.bool (ckB F w0 l x y xs), .int .i64 (code F (inB w0 1 1000 && inB l 1 1000))]) ∧ Ext w w' := by
 refine calls_of_wp Try.func18 rfl ?_
 refine wp_frame (a' := ⟨#[.agg F.cells, .int .i64 w0, .int .i64 l, .agg #[.int .u64 x, .int .u64 y], .slice (some ad) xs.length cap, undef, undef, undef, undef, undef, undef, undef, undef, undef, undef, undef, undef, undef, undef, undef, undef, undef, undef, undef, undef, undef, undef, undef, undef, undef, undef, undef, undef, undef, undef, undef, undef, undef, undef, undef, undef, undef], []⟩) (by kernel_rfl) ?_
 refine wsr ?_
 refine wbox F.cells ?_
 intro g1 w1 B1 E1 hg_
 have lo_g1 := Nat.le_trans ((Ext.refl w)).size hg_
 have H1 := (Ext.refl w).trans E1
 refine wboxv (.int .i64 w0) ?_
 intro g2 w2 B2 E2 hg_
 have q_g1_g2 := Nat.ne_of_lt (Nat.lt_of_lt_of_le B1.lt hg_)
 have lo_g2 := Nat.le_trans (H1).size hg_
 have H2 := H1.trans E2
 replace B1 := B1.ext E2
 refine wboxv (.int .i64 l) ?_
 intro g3 w3 B3 E3 hg_
 have q_g1_g3 := Nat.ne_of_lt (Nat.lt_of_lt_of_le B1.lt hg_)
 have q_g2_g3 := Nat.ne_of_lt (Nat.lt_of_lt_of_le B2.lt hg_)
 have lo_g3 := Nat.le_trans (H2).size hg_
 have H3 := H2.trans E3
 replace B1 := B1.ext E3
 replace B2 := B2.ext E3
 refine wbox #[.int .u64 x, .int .u64 y] ?_
 intro g4 w4 B4 E4 hg_
 have q_g1_g4 := Nat.ne_of_lt (Nat.lt_of_lt_of_le B1.lt hg_)
 have q_g2_g4 := Nat.ne_of_lt (Nat.lt_of_lt_of_le B2.lt hg_)
 have q_g3_g4 := Nat.ne_of_lt (Nat.lt_of_lt_of_le B3.lt hg_)
 have lo_g4 := Nat.le_trans (H3).size hg_
 refine wv (.bool false) ?_
 refine wv (.int .i64 0) ?_
 refine wpList_nil (then_normal ?_)
 refine wp_seq ?_
 refine wsr ?_
 refine wv (.func (.func 62) #[] #[.pointer (some ⟨g2, 0, none⟩), .pointer (some ⟨g3, 0, none⟩)]) ?_
 replace B1 := B1.ext E4
 replace B2 := B2.ext E4
 replace B3 := B3.ext E4
 refine wcl (fieldCode_any F hF g1 _ (.func (.func 62) #[] #[.pointer (some ⟨g2, 0, none⟩), .pointer (some ⟨g3, 0, none⟩)]) 62 #[.pointer (some ⟨g2, 0, none⟩), .pointer (some ⟨g3, 0, none⟩)] (fun _ => by kernel_rfl) (inB w0 1 1000 && inB l 1 1000) _ B1 (fun _ E_ => CheckPlaces1_any w0 g2 _ l g3 _ _ (B2.ext E_) (B3.ext E_))) ?_
 intro w5 E5
 refine wv (.int .i64 (code F (inB w0 1 1000 && inB l 1 1000))) ?_
 refine wpList_nil (then_normal ?_)
 refine wsr ?_
 refine wv (.int .i64 (code F (inB w0 1 1000 && inB l 1 1000))) ?_
 refine wv (.bool ((code F (inB w0 1 1000 && inB l 1 1000)) != 0)) ?_
 refine wpList_nil (then_normal ?_)
 have H4 := (H3.trans E4).trans E5
 refine wsplit ((code F (inB w0 1 1000 && inB l 1 1000)) != 0) (fun h1 => ?_) (fun h1 => ?_)
 ·skip
  have h1d := nT h1
  refine wsr ?_
  refine wv (.int .i64 (code F (inB w0 1 1000 && inB l 1 1000))) ?_
  refine wv (.bool false) ?_
  refine wv (.int .i64 (code F (inB w0 1 1000 && inB l 1 1000))) ?_
  refine wpList_nil (then_normal ?_)
  refine wp_ret ?_
  refine then_ret ?_
  refine ret2 (.bool (ckB F w0 l x y xs)) (.int .i64 (code F (inB w0 1 1000 && inB l 1 1000))) rfl ?_ ?_ rfl ?_
  ·refine (resT (v := .bool false) (by kernel_rfl)).trans ?_
   refine congrArg Value.bool ?_
   first | exact (ckB_n (by assumption)).symm | exact (ckB_p (by assumption) i (by omega) (by assumption)).symm | (rw [ckB_y (by assumption)]; exact lf_end (n := xs.length) rfl (by rw [show xs.length = i by omega]; exact hI) (fun j hj => hall j (by omega)))
  ·exact resT (by kernel_rfl)
  exact ⟨rfl, H4⟩
 ·skip
  have h1d := nF h1
  have h1o := (code_zero h1d).1
  have h1z := (code_zero h1d).2
  obtain ⟨h1za, h1zb⟩ := andT h1z
  have h1zad := inT h1za
  have h1zbd := inT h1zb
  refine wp_skip ?_
  refine then_normal ?_
  refine wsr ?_
  replace B4 := B4.ext E5
  refine wrow row_impl_Cells B4 (by rfl) ?_
  replace B1 := B1.ext E5
  refine wcl (soilOf_any F hF g1 _ x y (by first | assumption | exact okP.w2 (setC_ok 100 (Nat.le_refl _)) | exact okP.w2 hI.1 | exact okP.w2 hU.1) _ B1) ?_
  intro w6 E6
  have H5 := H4.trans E6
  replace B1 := B1.ext E6
  replace B2 := (B2.ext E5).ext E6
  replace B3 := (B3.ext E5).ext E6
  replace B4 := B4.ext E6
  refine wnew #[.int .u64 0, .int .u64 0] Try.zeroValue33 rfl ?_
  intro g5 w7 B5 E7 hg_
  have q_g1_g5 := Nat.ne_of_lt (Nat.lt_of_lt_of_le B1.lt hg_)
  have q_g2_g5 := Nat.ne_of_lt (Nat.lt_of_lt_of_le B2.lt hg_)
  have q_g3_g5 := Nat.ne_of_lt (Nat.lt_of_lt_of_le B3.lt hg_)
  have q_g4_g5 := Nat.ne_of_lt (Nat.lt_of_lt_of_le B4.lt hg_)
  have lo_g5 := Nat.le_trans (H5).size hg_
  refine wput #[.int .u64 (bo0 x (setC F (fun c_ => F.k c_.toNat == 0) 100).1), .int .u64 (bo1 y (setC F (fun c_ => F.k c_.toNat == 0) 100).2)] row_impl_Cells B5 (by rfl) (by rfl) (by kernel_rfl) ?_
  intro w8 B5_ X1
  clear B5; have B5 := B5_; clear B5_
  refine wpList_nil (then_normal ?_)
  refine wp_seq ?_
  refine wsr ?_
  refine wv (.slice (some ad) xs.length cap) ?_
  refine wv (.int .i64 (xs.length : Int)) ?_
  refine wv (.int .i64 0) ?_
  refine wpList_nil (then_normal ?_)
  refine wp_block ?_
  replace B1 := X1.blk (B1.ext E7) q_g1_g5
  replace B2 := X1.blk (B2.ext E7) q_g2_g5
  replace B3 := X1.blk (B3.ext E7) q_g3_g5
  replace B4 := X1.blk (B4.ext E7) q_g4_g5
  have H6 := X1.ext w lo_g5 (H5.trans E7)
  refine wp_loop_k (fun m1 a wl1 => ∃ (i : Nat) (s_ : Int × Int), m1 = xs.length - i ∧ i ≤ xs.length ∧ lfI F w0 l x y xs i s_ ∧ (∀ j, j < i → plB F (atI xs j) = true) ∧ Ext w wl1 ∧ Blk wl1 g1 29 F.cells ∧ Blk wl1 g2 2 #[.int .i64 w0] ∧ Blk wl1 g3 2 #[.int .i64 l] ∧ Blk wl1 g4 33 #[.int .u64 x, .int .u64 y] ∧ Blk wl1 g5 33 #[.int .u64 s_.1, .int .u64 s_.2] ∧ (∃ J1 : Nat → Value, a = ⟨#[.agg F.cells, .int .i64 w0, .int .i64 l, .agg #[.int .u64 x, .int .u64 y], .slice (some ad) xs.length cap, .pointer (some ⟨g1, 0, none⟩), .pointer (some ⟨g2, 0, none⟩), .pointer (some ⟨g3, 0, none⟩), .pointer (some ⟨g4, 0, none⟩), undef, J1 10, J1 11, .int .i64 (code F (inB w0 1 1000 && inB l 1 1000)), .pointer (some ⟨g5, 0, none⟩), undef, J1 15, .func (.func 62) #[] #[.pointer (some ⟨g2, 0, none⟩), .pointer (some ⟨g3, 0, none⟩)], .int .i64 (code F (inB w0 1 1000 && inB l 1 1000)), .int .i64 (code F (inB w0 1 1000 && inB l 1 1000)), .bool ((code F (inB w0 1 1000 && inB l 1 1000)) != 0), undef, .agg #[.int .u64 x, .int .u64 y], .agg #[.int .u64 (bo0 x (setC F (fun c_ => F.k c_.toNat == 0) 100).1), .int .u64 (bo1 y (setC F (fun c_ => F.k c_.toNat == 0) 100).2)], .slice (some ad) xs.length cap, .int .i64 (xs.length : Int), .int .i64 (i : Int), J1 26, J1 27, J1 28, J1 29, J1 30, J1 31, J1 32, J1 33, J1 34, J1 35, J1 36, J1 37, J1 38, undef, undef, undef], []⟩)) (xs.length) ?_ ?_
  ·refine ⟨0, (bo0 x (setC F (fun c_ => F.k c_.toNat == 0) 100).1, bo1 y (setC F (fun c_ => F.k c_.toNat == 0) 100).2), rfl, ?_, ?_, ?_, H6, B1, B2, B3, B4, B5, exJ (by kernel_rfl)⟩
   ·omega
   ·exact lf_0 hwx hwy
   ·intro j hj; omega
  intro m1 a wl1 hI
  obtain ⟨i, s_, rfl, hi_, hI, hall, HL1, B1, B2, B3, B4, B5, J1, rfl⟩ := hI
  refine wsr ?_
  refine wv (.bool (decide ((i : Int) < (xs.length : Int)))) ?_
  refine wpList_nil (then_normal ?_)
  refine wp_seq ?_
  refine wsplit (decide ((i : Int) < (xs.length : Int))) (fun h2 => ?_) (fun h2 => ?_)
  ·skip
   have h2d := dT h2
   refine wp_skip ?_
   refine then_normal ?_
   refine wp_seq ?_
   refine wp_block ?_
   refine wsr ?_
   refine wsixA ad xs.length cap i .i64 slit__int64 ?_
   refine wldA (v := .int .i64 (atI xs i)) (ad.add (i * 1)) scal_int64 ((SlA.ext hA HL1).get (by omega)) ?_
   refine wv (.int .i64 (atI xs i)) ?_
   refine wpList_nil (then_normal ?_)
   refine wp_seq ?_
   refine wsr ?_
   refine wv (.int .i64 (atI xs i)) ?_
   refine wcl (isPlace_any F hF g1 _ (atI xs i) _ B1) ?_
   intro w9 E8
   refine wv (.bool (!(isB F (atI xs i) && (F.k (atI xs i).toNat != 3)))) ?_
   refine wpList_nil (then_normal ?_)
   have H7 := HL1.trans E8
   refine wsplit (!(isB F (atI xs i) && (F.k (atI xs i).toNat != 3))) (fun h3 => ?_) (fun h3 => ?_)
   ·skip
    replace h3 := nbT h3
    refine wsr ?_
    refine wv (.bool false) ?_
    refine wv (.int .i64 0) ?_
    refine wpList_nil (then_normal ?_)
    refine wp_ret ?_
    refine then_ret (block_ret (then_ret (then_ret (block_ret (then_ret ?_)))))
    refine ret2 (.bool (ckB F w0 l x y xs)) (.int .i64 (code F (inB w0 1 1000 && inB l 1 1000))) rfl ?_ ?_ rfl ?_
    ·refine (resT (v := .bool false) (by kernel_rfl)).trans ?_
     refine congrArg Value.bool ?_
     first | exact (ckB_n (by assumption)).symm | exact (ckB_p (by assumption) i (by omega) (by assumption)).symm | (rw [ckB_y (by assumption)]; exact lf_end (n := xs.length) rfl (by rw [show xs.length = i by omega]; exact hI) (fun j hj => hall j (by omega)))
    ·refine (resT (v := .int .i64 0) (by kernel_rfl)).trans ?_
     refine congrArg (Value.int _) ?_
     first | (rw [if_pos (by assumption)]; done) | (rw [if_neg (by assumption)]; done) | rfl | assumption | (symm; assumption)
    exact ⟨rfl, H7⟩
   ·skip
    replace h3 := nbF h3
    obtain ⟨h3a, h3b⟩ := andT h3
    have h3ad := isB_true.1 h3a
    have h3bd := nT h3b
    refine wp_skip ?_
    refine then_normal ?_
    refine wp_frame (a' := ⟨#[.agg F.cells, .int .i64 w0, .int .i64 l, .agg #[.int .u64 x, .int .u64 y], .slice (some ad) xs.length cap, .pointer (some ⟨g1, 0, none⟩), .pointer (some ⟨g2, 0, none⟩), .pointer (some ⟨g3, 0, none⟩), .pointer (some ⟨g4, 0, none⟩), undef, J1 10, J1 11, .int .i64 (code F (inB w0 1 1000 && inB l 1 1000)), .pointer (some ⟨g5, 0, none⟩), undef, .int .i64 (atI xs i), .func (.func 62) #[] #[.pointer (some ⟨g2, 0, none⟩), .pointer (some ⟨g3, 0, none⟩)], .int .i64 (code F (inB w0 1 1000 && inB l 1 1000)), .int .i64 (code F (inB w0 1 1000 && inB l 1 1000)), .bool ((code F (inB w0 1 1000 && inB l 1 1000)) != 0), undef, .agg #[.int .u64 x, .int .u64 y], .agg #[.int .u64 (bo0 x (setC F (fun c_ => F.k c_.toNat == 0) 100).1), .int .u64 (bo1 y (setC F (fun c_ => F.k c_.toNat == 0) 100).2)], .slice (some ad) xs.length cap, .int .i64 (xs.length : Int), .int .i64 (i : Int), .bool (decide ((i : Int) < (xs.length : Int))), .pointer (some (ad.add (i * 1))), .int .i64 (atI xs i), .int .i64 (atI xs i), .bool (isB F (atI xs i) && (F.k (atI xs i).toNat != 3)), .bool (!(isB F (atI xs i) && (F.k (atI xs i).toNat != 3))), J1 32, J1 33, J1 34, J1 35, J1 36, J1 37, J1 38, undef, undef, undef], []⟩) (by kernel_rfl) ?_
    replace B5 := B5.ext E8
    replace B2 := B2.ext E8
    replace B3 := B3.ext E8
    replace B1 := B1.ext E8
    refine region_go 6 [32, 33, 34, 35, 36, 37] [[], [], [], [], [1, 2, 3], [0, 4]]
     (fun i_ => ([.val (.agg #[.int .u64 s_.1, .int .u64 s_.2]), .val (.int .i64 (atI xs i)), .val (.int .i64 w0), .val (.int .i64 l), .val (.agg #[.int .u64 ((setC F (fun c_ => cvU F (atI xs i) c_ w0 l) 100).1), .int .u64 ((setC F (fun c_ => cvU F (atI xs i) c_ w0 l) 100).2)]), .val (.agg #[.int .u64 (wo0 s_.1 ((setC F (fun c_ => cvU F (atI xs i) c_ w0 l) 100).1)), .int .u64 (wo1 s_.2 ((setC F (fun c_ => cvU F (atI xs i) c_ w0 l) 100).2))])] : List Fct).getD i_ .any)
     (by kernel_rfl) (by kernel_rfl) (by decide) (by simp) rfl (all_succ (all_succ (all_succ (all_succ (all_succ (all_succ all_zero ?_) ?_) ?_) ?_) ?_) ?_) ?_
    ·refine step0 rfl rfl rfl (fun wr hw => ?_)
     with_reducible refine OpRun.row (x := (.tmp 13)) row_impl_Cells (B5.ext hw) ?_ ?_ ?_ ?_
     ·rfl
     ·rfl
     ·kernel_rfl
     ·exact ⟨Ext.refl _, rfl⟩
    ·refine step0 rfl rfl rfl (fun wr hw => ?_)
     exact OpRun.val (.int .i64 (atI xs i)) (.int .i64 (atI xs i)) (by kernel_rfl) rfl ⟨Ext.refl _, rfl⟩
    ·refine step0 rfl rfl rfl (fun wr hw => ?_)
     exact OpRun.cell (g := g2) (off := 0) (v := .int .i64 w0) scal_int64 rfl (by kernel_rfl) ((B2.ext hw).get (rfl)) ⟨Ext.refl _, rfl⟩
    ·refine step0 rfl rfl rfl (fun wr hw => ?_)
     exact OpRun.cell (g := g3) (off := 0) (v := .int .i64 l) scal_int64 rfl (by kernel_rfl) ((B3.ext hw).get (rfl)) ⟨Ext.refl _, rfl⟩
    ·refine step3 rfl rfl rfl rfl rfl rfl (fun u0 u1 u2 wr hw h0 h1 h2 => ?_)
     cases h0
     cases h1
     cases h2
     exact OpRun.call 64 #[.pointer (some ⟨g1, 0, none⟩), .int .i64 (atI xs i), .int .i64 w0, .int .i64 l] (by kernel_rfl) ((cover_any F hF g1 _ (atI xs i) w0 l (by omega) (by omega) _ (B1.ext hw)).mono fun e w1 ⟨he, hb⟩ => ⟨_, he, hb, rfl⟩)
    ·refine step2 rfl rfl rfl rfl rfl (fun u0 u1 wr hw h0 h1 => ?_)
     cases h0
     cases h1
     exact OpRun.call 37 #[.agg #[.int .u64 s_.1, .int .u64 s_.2], .agg #[.int .u64 ((setC F (fun c_ => cvU F (atI xs i) c_ w0 l) 100).1), .int .u64 ((setC F (fun c_ => cvU F (atI xs i) c_ w0 l) 100).2)]] (by kernel_rfl) ((iWithout_any s_.1 s_.2 ((setC F (fun c_ => cvU F (atI xs i) c_ w0 l) 100).1) ((setC F (fun c_ => cvU F (atI xs i) c_ w0 l) 100).2) (by first | assumption | exact okP.w2 (setC_ok 100 (Nat.le_refl _)) | exact okP.w2 hI.1 | exact okP.w2 hU.1) (by first | assumption | exact okP.w2 (setC_ok 100 (Nat.le_refl _)) | exact okP.w2 hI.1 | exact okP.w2 hU.1) _).mono fun e w1 ⟨he, hb⟩ => ⟨_, he, hb, rfl⟩)
    refine end6 (fun u0 u1 u2 u3 u4 u5 w10 E9 f0 f1 f2 f3 f4 f5 => ?_)
    cases f0
    cases f1
    cases f2
    cases f3
    cases f4
    cases f5
    replace B5 := B5.ext E9
    refine wput #[.int .u64 (wo0 s_.1 ((setC F (fun c_ => cvU F (atI xs i) c_ w0 l) 100).1)), .int .u64 (wo1 s_.2 ((setC F (fun c_ => cvU F (atI xs i) c_ w0 l) 100).2))] row_impl_Cells B5 (by rfl) (by rfl) (by kernel_rfl) ?_
    intro w11 B5_ X2
    clear B5; have B5 := B5_; clear B5_
    refine wpList_nil (block_normal (then_normal ?_))
    refine wp_region_lit ?_
    refine wi64 ((i : Int) + 1) ?_
    refine wv (.int .i64 ((i : Int) + 1)) ?_
    refine wpList_nil (then_normal ?_)
    replace B1 := X2.blk (B1.ext E9) q_g1_g5
    replace B2 := X2.blk (B2.ext E9) q_g2_g5
    replace B3 := X2.blk (B3.ext E9) q_g3_g5
    replace B4 := X2.blk ((B4.ext E8).ext E9) q_g4_g5
    have H8 := X2.ext w lo_g5 (H7.trans E9)
    refine ⟨_, ?_, i + 1, (wo0 s_.1 ((setC F (fun c_ => cvU F (atI xs i) c_ w0 l) 100).1), wo1 s_.2 ((setC F (fun c_ => cvU F (atI xs i) c_ w0 l) 100).2)), rfl, ?_, ?_, ?_, H8, B1, B2, B3, B4, B5, exJ (by kernel_rfl)⟩
    ·omega
    ·omega
    ·exact lf_s hI
    ·intro j hj
     rcases (by omega : j < i ∨ j = i) with h_ | h_
     ·exact hall j h_
     ·subst h_; first | assumption | exact plB_t (by assumption) (by assumption)
  ·skip
   have h2d := dF h2
   refine wp_exit ?_
   refine then_exit ?_
   refine then_exit ?_
   refine block_exit ?_
   refine then_normal ?_
   refine wsr ?_
   refine wrow row_impl_Cells B5 (by rfl) ?_
   refine wv (.agg #[.int .u64 0, .int .u64 0]) ?_
   refine weqA duot_impl_Cells.eg (equalIn_duo duot_impl_Cells 9998 s_.1 s_.2 0 0) ?_
   refine wv (.bool (eq2 s_.1 s_.2 0 0)) ?_
   refine wv (.int .i64 0) ?_
   refine wpList_nil (then_normal ?_)
   refine wp_ret ?_
   refine ret2 (.bool (ckB F w0 l x y xs)) (.int .i64 (code F (inB w0 1 1000 && inB l 1 1000))) rfl ?_ ?_ rfl ?_
   ·refine (resT (v := .bool (eq2 s_.1 s_.2 0 0)) (by kernel_rfl)).trans ?_
    refine congrArg Value.bool ?_
    first | exact (ckB_n (by assumption)).symm | exact (ckB_p (by assumption) i (by omega) (by assumption)).symm | (rw [ckB_y (by assumption)]; exact lf_end (n := xs.length) rfl (by rw [show xs.length = i by omega]; exact hI) (fun j hj => hall j (by omega)))
   ·refine (resT (v := .int .i64 0) (by kernel_rfl)).trans ?_
    refine congrArg (Value.int _) ?_
    first | (rw [if_pos (by assumption)]; done) | (rw [if_neg (by assumption)]; done) | rfl | assumption | (symm; assumption)
   exact ⟨rfl, HL1⟩
-- 18
theorem iCheckPlaces_tl (F : Fld) (hF : F.wf) (w0 l x y : Int) (h : PlOk F w0 l x y) (xs : List Int) (n g cap lo : Nat) (cs : Array Value) (hS : SlI cs n cap .i64 xs) (hn : n ≤ 1048576) (bv : Bool) (hb : ckB F w0 l x y (xs.drop lo) = bv) (w : World) (hg : Blk w g 2 cs) :
 Calls Try.prog 18 #[.agg F.cells, .int .i64 w0, .int .i64 l, .agg #[.int .u64 x, .int .u64 y], .slice (some (tlA g cap lo)) (n - lo) (cap - lo)] w fun e w' => e = .returned (.tuple #[.bool bv, .int .i64 0]) ∧ Ext w w' := by
 have hl := hS.len
 have h2 := iCheckPlaces_adr F hF w0 l x y (xs.drop lo) (tlA g cap lo) (cap - lo) (by rw [List.length_drop]; omega) h.hx h.hy w (SlA.tl hg hS)
 rw [List.length_drop, ← hl, hb, h.code] at h2
 exact h2
theorem iCheckPlaces_is (F : Fld) (hF : F.wf) (w0 l x y : Int) (h : PlOk F w0 l x y) (xs : List Int) (n bx cap : Nat) (cs : Array Value) (hS : SlI cs n cap .i64 xs) (hn : n ≤ 1048576) (bv : Bool) (hb : ckB F w0 l x y xs = bv) (w : World) (hbx : Blk w bx 2 cs) :
 Calls Try.prog 18 #[.agg F.cells, .int .i64 w0, .int .i64 l, .agg #[.int .u64 x, .int .u64 y], .slice (some ⟨bx, 0, none⟩) n cap] w fun e w' => e = .returned (.tuple #[.bool bv, .int .i64 0]) ∧ Ext w w' := by
 have h2 := iCheckPlaces_any F hF w0 l x y xs n bx cap cs hS hn h.hx h.hy w hbx
 rw [hb, h.code] at h2
 exact h2
theorem iCheckApart_is (F : Fld) (hF : F.wf) (w0 l x y : Int) (h : PlOk F w0 l x y) (n bx cap : Nat) (cs : Array Value) (hS : SlI cs n cap .i64 (apX F w0 l x y)) (hn : n ≤ 1048576) (w : World) (hbx : Blk w bx 2 cs) :
 Calls Try.prog 14 #[.agg F.cells, .int .i64 w0, .int .i64 l, .slice (some ⟨bx, 0, none⟩) n cap] w fun e w' => e = .returned (.tuple #[.bool true, .int .i64 0]) ∧ Ext w w' := by
 have h2 := iCheckApart_any F hF w0 l (apX F w0 l x y) n bx cap cs hS hn w hbx
 rw [apX_ok h.code, h.code] at h2
 exact h2
def grY (F : Fld) (w l tx ty : Int) : List Int := if grK F w l tx ty = 0 then grX F w l tx ty else []
def fwY (F : Fld) (w l tx ty : Int) : List Int := if fwK F w l 3000 tx ty = 0 then fwX F w l 3000 tx ty else []
def fwM (F : Fld) (w l tx ty : Int) : Int := if fwK F w l 3000 tx ty = 0 then fwL F w l 3000 tx ty else 0
section
variable {F : Fld} {w l tx ty : Int}
theorem grY_t (h : grK F w l tx ty = 0) : grY F w l tx ty = grX F w l tx ty := if_pos h
theorem grY_f (h : grK F w l tx ty ≠ 0) : grY F w l tx ty = [] := if_neg h
theorem fwY_t (h : fwK F w l 3000 tx ty = 0) : fwY F w l tx ty = fwX F w l 3000 tx ty := if_pos h
theorem fwY_f (h : fwK F w l 3000 tx ty ≠ 0) : fwY F w l tx ty = [] := if_neg h
theorem fwM_t (h : fwK F w l 3000 tx ty = 0) : fwM F w l tx ty = fwL F w l 3000 tx ty := if_pos h
theorem fwM_f (h : fwK F w l 3000 tx ty ≠ 0) : fwM F w l tx ty = 0 := if_neg h
theorem grY_length : (grY F w l tx ty).length ≤ 20 := by unfold grY; split <;> first | exact grX_length | simp
theorem fwY_length : (fwY F w l tx ty).length ≤ 20 := by unfold fwY; split <;> first | exact fwX_length | simp
theorem apX_length : (apX F w l tx ty).length ≤ 100 := Nat.le_trans (apL_length F w l _ _) (tgL_length F tx ty 100)
theorem PlOk.y1 (h : PlOk F w l tx ty) (hg : grK F w l tx ty = 0) : ckB F w l tx ty (grY F w l tx ty) = true := by rw [grY_t hg]; exact h.gr1 hg
theorem PlOk.y2 (h : PlOk F w l tx ty) (hg : grK F w l tx ty = 0) : (apX F w l tx ty).length ≤ (grY F w l tx ty).length := by rw [grY_t hg]; exact h.gr2 hg
theorem PlOk.y3 (h : PlOk F w l tx ty) (hg : grK F w l tx ty = 0) (h0 : fwK F w l 3000 tx ty = 0) : ckB F w l tx ty (fwY F w l tx ty) = true ∧ (fwY F w l tx ty).length ≤ (grY F w l tx ty).length ∧ (apX F w l tx ty).length ≤ (fwY F w l tx ty).length ∧
 ((fwY F w l tx ty).length = 0 ↔ (tgL F tx ty 100).length = 0) ∧ ((fwY F w l tx ty).length ≠ 0 → ckB F w l tx ty ((fwY F w l tx ty).drop 1) = false) := by rw [grY_t hg, fwY_t h0]; exact h.fwx hg h0
end
-- 8
theorem iGreedy_lv (F : Fld) (hF : F.wf) (w0 l x y : Int) (hwx : wrd x) (hwy : wrd y) (w : World) : Calls Try.prog 8 #[.agg F.cells, .int .i64 w0, .int .i64 l, .agg #[.int .u64 x, .int .u64 y]] w (LsvR w 2 (grY F w0 l x y) (fun v => .tuple #[v, .int .i64 (grK F w0 l x y)])) := by
 refine (iGreedyPlaces_any F hF w0 l x y hwx hwy w).mono fun e w' h => ?_
 rcases h with ⟨hz, h⟩ | ⟨hz, h⟩
 ·rw [grY_t hz, hz]; exact LsvR.of h
 ·rw [grY_f hz]; exact ⟨_, h.1, .inl ⟨rfl, rfl⟩, h.2⟩
-- 10
theorem iFewest_lv (F : Fld) (hF : F.wf) (w0 l x y : Int) (hwx : wrd x) (hwy : wrd y) (w : World) : Calls Try.prog 10 #[.agg F.cells, .int .i64 w0, .int .i64 l, .agg #[.int .u64 x, .int .u64 y], .int .i64 3000] w (LsvR w 2 (fwY F w0 l x y) (fun v => .tuple #[v, .int .i64 (fwM F w0 l x y), .int .i64 (fwK F w0 l 3000 x y)])) := by
 refine (iFewestPlaces_any F hF w0 l x y 3000 hwx hwy w).mono fun e w' h => ?_
 rcases h with ⟨hz, h⟩ | ⟨hz, h⟩
 ·rw [fwY_t hz, fwM_t hz, hz]; exact LsvR.of h
 ·rw [fwY_f hz, fwM_f hz]; exact ⟨_, h.1, .inl ⟨rfl, rfl⟩, h.2⟩
-- 12
theorem iApart_lv (F : Fld) (hF : F.wf) (w0 l x y : Int) (h : PlOk F w0 l x y) (w : World) : Calls Try.prog 12 #[.agg F.cells, .int .i64 w0, .int .i64 l, .agg #[.int .u64 x, .int .u64 y]] w (LsvR w 2 (apX F w0 l x y) (fun v => .tuple #[v, .int .i64 0])) := (iApartCells_t F hF w0 l x y h.hx h.hy w h.code).mono fun _ _ h => LsvR.of h
-- 22
theorem iCoverersOf_ok (F : Fld) (hF : F.wf) (w0 l x y : Int) (h : PlOk F w0 l x y) (c : Int) (hb : isB F c = true) (w : World) : Calls Try.prog 22 #[.agg F.cells, .int .i64 c, .int .i64 w0, .int .i64 l] w fun e w' => e = .returned (.tuple #[.agg #[.int .u64 ((cvrS F c w0 l).1), .int .u64 ((cvrS F c w0 l).2)], .int .i64 0]) ∧ Ext w w' := by
 have h2 := iCoverersOf_any F hF c w0 l w
 rw [h.cvc hb] at h2
 exact h2
-- 20
theorem iCoverOf_0 (F : Fld) (hF : F.wf) (w0 l x y : Int) (h : PlOk F w0 l x y) (c : Int) (hb : isB F c = true) (h3 : (F.k c.toNat == 3) = false) (w : World) : Calls Try.prog 20 #[.agg F.cells, .int .i64 c, .int .i64 w0, .int .i64 l] w fun e w' => e = .returned (.tuple #[.agg #[.int .u64 ((cvoS F c w0 l).1), .int .u64 ((cvoS F c w0 l).2)], .int .i64 0]) ∧ Ext w w' := by
 have h2 := iCoverOf_any F hF c w0 l w
 rw [cvoC_3 (h.cvc hb) h3] at h2
 exact h2
-- 20
theorem iCoverOf_4 (F : Fld) (hF : F.wf) (w0 l x y : Int) (h : PlOk F w0 l x y) (c : Int) (hb : isB F c = true) (h3 : (F.k c.toNat == 3) = true) (w : World) : Calls Try.prog 20 #[.agg F.cells, .int .i64 c, .int .i64 w0, .int .i64 l] w fun e w' => e = .returned (.tuple #[.agg #[.int .u64 ((cvoS F c w0 l).1), .int .u64 ((cvoS F c w0 l).2)], .int .i64 4]) ∧ Ext w w' := by
 have h2 := iCoverOf_any F hF c w0 l w
 rw [cvoC_2 (h.cvc hb) h3] at h2
 exact h2
-- 9
theorem sGreedy_lv (F : Fld) (hF : F.wf) (w0 l x y : Int) (hwx : wrd x) (hwy : wrd y) (w : World) : Calls Try.prog 9 #[.agg F.cells, .int .i64 w0, .int .i64 l, .agg #[.int .u64 x, .int .u64 y]] w (RetI w 2 .i64 (grY F w0 l x y) (fun v => .tuple #[v, .int .i64 (grK F w0 l x y)])) := by
 refine (sGreedyPlaces_any F hF w0 l x y hwx hwy w).mono fun e w' h => ?_
 rcases h with ⟨hz, h⟩ | ⟨hz, h⟩
 ·rw [grY_t hz, hz]; exact h
 ·rw [grY_f hz]; exact h
-- 11
theorem sFewest_lv (F : Fld) (hF : F.wf) (w0 l x y : Int) (hwx : wrd x) (hwy : wrd y) (w : World) : Calls Try.prog 11 #[.agg F.cells, .int .i64 w0, .int .i64 l, .agg #[.int .u64 x, .int .u64 y], .int .i64 3000] w (RetI w 2 .i64 (fwY F w0 l x y) (fun v => .tuple #[v, .int .i64 (fwM F w0 l x y), .int .i64 (fwK F w0 l 3000 x y)])) := by
 refine (sFewestPlaces_any F hF w0 l x y 3000 hwx hwy w).mono fun e w' h => ?_
 rcases h with ⟨hz, h⟩ | ⟨hz, h⟩
 ·rw [fwY_t hz, fwM_t hz, hz]; exact h
 ·rw [fwY_f hz, fwM_f hz]; exact h
-- 13
theorem sApart_lv (F : Fld) (hF : F.wf) (w0 l x y : Int) (h : PlOk F w0 l x y) (w : World) : Calls Try.prog 13 #[.agg F.cells, .int .i64 w0, .int .i64 l, .agg #[.int .u64 x, .int .u64 y]] w (RetI w 2 .i64 (apX F w0 l x y) (fun v => .tuple #[v, .int .i64 0])) := sApartCells_t F hF w0 l x y h.hx h.hy w h.code
-- 23
theorem sCoverersOf_ok (F : Fld) (hF : F.wf) (w0 l x y : Int) (h : PlOk F w0 l x y) (c : Int) (hb : isB F c = true) (w : World) : Calls Try.prog 23 #[.agg F.cells, .int .i64 c, .int .i64 w0, .int .i64 l] w fun e w' => e = .returned (.tuple #[.agg #[.int .u64 ((cvrS F c w0 l).1), .int .u64 ((cvrS F c w0 l).2)], .int .i64 0]) ∧ Ext w w' := by
 have h2 := sCoverersOf_any F hF c w0 l w
 rw [h.cvc hb] at h2
 exact h2
-- 21
theorem sCoverOf_0 (F : Fld) (hF : F.wf) (w0 l x y : Int) (h : PlOk F w0 l x y) (c : Int) (hb : isB F c = true) (h3 : (F.k c.toNat == 3) = false) (w : World) : Calls Try.prog 21 #[.agg F.cells, .int .i64 c, .int .i64 w0, .int .i64 l] w fun e w' => e = .returned (.tuple #[.agg #[.int .u64 ((cvoS F c w0 l).1), .int .u64 ((cvoS F c w0 l).2)], .int .i64 0]) ∧ Ext w w' := by
 have h2 := sCoverOf_any F hF c w0 l w
 rw [cvoC_3 (h.cvc hb) h3] at h2
 exact h2
-- 21
theorem sCoverOf_4 (F : Fld) (hF : F.wf) (w0 l x y : Int) (h : PlOk F w0 l x y) (c : Int) (hb : isB F c = true) (h3 : (F.k c.toNat == 3) = true) (w : World) : Calls Try.prog 21 #[.agg F.cells, .int .i64 c, .int .i64 w0, .int .i64 l] w fun e w' => e = .returned (.tuple #[.agg #[.int .u64 ((cvoS F c w0 l).1), .int .u64 ((cvoS F c w0 l).2)], .int .i64 4]) ∧ Ext w w' := by
 have h2 := sCoverOf_any F hF c w0 l w
 rw [cvoC_2 (h.cvc hb) h3] at h2
 exact h2
-- 16
theorem HasCell_sym {F : Fld} {w0 l x y c : Int} {d : Nat} (h : PlOk F w0 l x y) (hb : isB F c = true) (hd : d < 100) (hp : isB F (d : Int) = true) (hn : (F.k d == 3) = false) (w : World) :
 Calls Try.prog 16 #[.agg #[.int .u64 ((cvoS F (d : Int) w0 l).1), .int .u64 ((cvoS F (d : Int) w0 l).2)], .int .i64 c] w fun e w' => e = .returned (.bool (hasB (cvrS F c w0 l).1 (cvrS F c w0 l).2 (d : Int))) ∧ Ext w w' := by
 have h2 := sHasCell_any (cvoS F (d : Int) w0 l).1 (cvoS F (d : Int) w0 l).2 c w
 rw [h.cvs hb hd hp hn] at h2
 exact h2
theorem l00Same_nil (xs : List Int) (b cap : Nat) (cs : Array Value) (hS : SlI cs xs.length cap .i64 xs) (h0 : xs.length = 0) (w : World) (hb : Blk w b 2 cs) :
 Calls Try.prog 59 #[.slice none 0 0, .slice (some ⟨b, 0, none⟩) xs.length cap] w fun e w' => e = .returned (.bool true) ∧ Ext w w' := by
 refine calls_of_wp Try.func59 rfl ?_
 refine wp_frame (a' := ⟨#[.slice none 0 0, .slice (some ⟨b, 0, none⟩) xs.length cap, undef, undef, undef, undef, undef, undef, undef, undef, undef, undef, undef, undef, undef, undef, undef, undef, undef, undef, undef, undef, undef, undef, undef, undef], []⟩) (by kernel_rfl) ?_
 refine wsr ?_
 refine wv (.bool false) ?_
 refine wpList_nil (then_normal ?_)
 refine wp_seq ?_
 refine wsr ?_
 refine wv (.slice none 0 0) ?_
 refine wv (.int .i64 0) ?_
 refine wv (.slice (some ⟨b, 0, none⟩) xs.length cap) ?_
 refine wv (.int .i64 (xs.length : Int)) ?_
 refine wv (.bool (0 != (xs.length : Int))) ?_
 refine wpList_nil (then_normal ?_)
 refine wsplit (0 != (xs.length : Int)) (fun h1 => ?_) (fun h1 => ?_)
 ·skip
  have h1d := nT h1
  refine wsr ?_
  refine wv (.bool false) ?_
  refine wpList_nil (then_normal ?_)
  refine wp_ret ?_
  refine then_ret ?_
  refine ret1 (.bool true) rfl ?_ rfl ?_
  ·refine (resT (v := .bool false) (by kernel_rfl)).trans ?_
   refine congrArg Value.bool ?_
   exfalso; omega
  exact ⟨rfl, (Ext.refl w)⟩
 ·skip
  have h1d := nF h1
  refine wp_skip ?_
  refine then_normal ?_
  refine wp_seq ?_
  refine wsr ?_
  refine wv (.int .i64 0) ?_
  refine wpList_nil (then_normal ?_)
  refine wp_block ?_
  refine wp_loop_k (fun m1 a wl1 => ∃ (i : Nat), m1 = 0 - i ∧ i ≤ 0 ∧ Ext w wl1 ∧ Blk wl1 b 2 cs ∧ (∃ J1 : Nat → Value, a = ⟨#[.slice none 0 0, .slice (some ⟨b, 0, none⟩) xs.length cap, undef, undef, J1 4, .int .i64 (i : Int), .slice none 0 0, .int .i64 0, .slice (some ⟨b, 0, none⟩) xs.length cap, .int .i64 (xs.length : Int), .bool (0 != (xs.length : Int)), J1 11, J1 12, J1 13, J1 14, J1 15, J1 16, J1 17, J1 18, J1 19, J1 20, J1 21, J1 22, J1 23, J1 24, J1 25], []⟩)) (0) ?_ ?_
  ·refine ⟨0, rfl, ?_, (Ext.refl w), hb, exJ (by kernel_rfl)⟩
   ·omega
  intro m1 a wl1 hI
  obtain ⟨i, rfl, hi_, HL1, hb, J1, rfl⟩ := hI
  refine wp_seq ?_
  refine wsr ?_
  refine wv (.int .i64 (i : Int)) ?_
  refine wv (.slice none 0 0) ?_
  refine wv (.int .i64 0) ?_
  refine wv (.bool (decide ((i : Int) < 0))) ?_
  refine wpList_nil (then_normal ?_)
  refine wsplit (decide ((i : Int) < 0)) (fun h2 => ?_) (fun h2 => ?_)
  ·skip
   have h2d := dT h2
   exfalso; omega
  ·skip
   have h2d := dF h2
   refine wp_exit ?_
   refine then_exit ?_
   refine then_exit ?_
   refine block_exit ?_
   refine then_normal ?_
   refine wsr ?_
   refine wv (.bool true) ?_
   refine wpList_nil (then_normal ?_)
   refine wp_ret ?_
   refine ret1 (.bool true) rfl ?_ rfl ?_
   ·exact resT (by kernel_rfl)
   exact ⟨rfl, HL1⟩
theorem SameNumbers_nil (xs : List Int) (b cap : Nat) (cs : Array Value) (hS : SlI cs xs.length cap .i64 xs) (h0 : xs.length = 0) (w : World) (hb : Blk w b 2 cs) :
 Calls Try.prog 15 #[.slice none 0 0, .slice (some ⟨b, 0, none⟩) xs.length cap] w fun e w' => e = .returned (.bool true) ∧ Ext w w' := by
 refine calls_of_wp Try.func15 rfl ?_
 refine wp_frame (a' := ⟨#[.slice none 0 0, .slice (some ⟨b, 0, none⟩) xs.length cap, undef, undef, undef, undef, undef, undef], []⟩) (by kernel_rfl) ?_
 refine wsr ?_
 refine wv (.bool false) ?_
 refine wpList_nil (then_normal ?_)
 refine wsr ?_
 refine wv (.slice none 0 0) ?_
 refine wv (.slice (some ⟨b, 0, none⟩) xs.length cap) ?_
 refine wcl (l00Same_nil xs b cap cs hS h0 _ hb) ?_
 intro w1 E1
 refine wv (.bool true) ?_
 refine wpList_nil (then_normal ?_)
 refine wp_ret ?_
 have H1 := (Ext.refl w).trans E1
 refine ret1 (.bool true) rfl ?_ rfl ?_
 ·exact resT (by kernel_rfl)
 exact ⟨rfl, H1⟩
-- 15
theorem SameNumbers_lv (xs : List Int) (u : Value) (n b cap : Nat) (cs : Array Value) (hS : SlI cs n cap .i64 xs) (hn : n ≤ 1048576) (w : World) (hu : LstV w 2 u xs) (hb : Blk w b 2 cs) :
 Calls Try.prog 15 #[u, .slice (some ⟨b, 0, none⟩) n cap] w fun e w' => e = .returned (.bool true) ∧ Ext w w' := by
 have hl := hS.len
 subst hl
 rcases hu with ⟨rfl, rfl⟩ | ⟨g, m, cap2, cs2, rfl, hg, hS2⟩
 ·exact SameNumbers_nil [] b cap cs hS rfl w hb
 ·have hl2 := hS2.len
  subst hl2
  exact SameNumbers_same xs g cap2 cs2 hS2 b cap cs hS hn w hg hb
theorem IsSoil_any (F : Fld) (hF : F.wf) (c : Int) (w : World) :
 Calls Try.prog 17 #[.agg F.cells, .int .i64 c] w fun e w' => e = .returned (.bool (isB F c && (F.k c.toNat == 0))) ∧ Ext w w' := by
 refine calls_of_wp Try.func17 rfl ?_
 refine wp_frame (a' := ⟨#[.agg F.cells, .int .i64 c, undef, undef, undef, undef, undef], []⟩) (by kernel_rfl) ?_
 refine wsr ?_
 refine wbox F.cells ?_
 intro g1 w1 B1 E1 _
 refine wv (.bool false) ?_
 refine wpList_nil (then_normal ?_)
 refine wsr ?_
 refine wv (.int .i64 c) ?_
 refine wcl (l03Soil_any F hF g1 _ c _ B1) ?_
 intro w2 E2
 refine wv (.bool (isB F c && (F.k c.toNat == 0))) ?_
 refine wpList_nil (then_normal ?_)
 refine wp_ret ?_
 have H1 := ((Ext.refl w).trans E1).trans E2
 refine ret1 (.bool (isB F c && (F.k c.toNat == 0))) rfl ?_ rfl ?_
 ·exact resT (by kernel_rfl)
 exact ⟨rfl, H1⟩
-- 7
theorem P6Pick_r (xs : List Int) (v : Value) (n : Int) (hx : xs.length ≤ 4096) (hn : 2 ≤ n ∧ n ≤ 200) (hxb : ∀ i, i < xs.length → 0 ≤ atI xs i ∧ atI xs i ≤ 255) (w : World) (h : SlIn w v .u8 xs) : Calls Try.prog 7 #[v, .int .i64 n] w (NumR w n) :=
 (P6Pick_any xs v n hx hn hxb w h).mono fun e w' h => ⟨_, h.1, ⟨by omega, drM_in hn.1⟩, h.2⟩
end Go.Proofs.Ytgglcebaanomhaa
