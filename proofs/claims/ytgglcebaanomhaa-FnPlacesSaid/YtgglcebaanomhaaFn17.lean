/-
 Contracts: cells that are apart. No conditions.
-/
import Derived.Test.YtgglcebaanomhaaTy
import Derived.Test.YtgglcebaanomhaaSl
import Derived.Test.YtgglcebaanomhaaMth
import Derived.Test.YtgglcebaanomhaaFn16
import Derived.Test.YtgglcebaanomhaaAp
namespace Go.Proofs.Ytgglcebaanomhaa
open Go.RowKit
set_option linter.unusedSimpArgs false
set_option linter.unusedVariables false
set_option maxHeartbeats 4000000
set_option maxRecDepth 100000
attribute [local irreducible] wpList Code.wp
theorem l03Apart_any (F : Fld) (hF : F.wf) (b : Nat) (t : TypeId) (x : Int) (y : Int) (w0 : Int) (l : Int) (hpc : (0 ≤ x ∧ x ≤ 99) ∧ (0 ≤ y ∧ y ≤ 99)) (hw0 : 0 ≤ w0 ∧ w0 ≤ 1000) (w : World) (hb : Blk w b t F.cells) :
 Calls Try.prog 54 #[.pointer (some ⟨b, 0, none⟩), .int .i64 x, .int .i64 y, .int .i64 w0, .int .i64 l] w fun e w' => e = .returned (.bool (apB F w0 l x y)) ∧ Ext w w' := by
 refine calls_of_wp Try.func54 rfl ?_
 refine wp_frame (a' := ⟨#[.pointer (some ⟨b, 0, none⟩), .int .i64 x, .int .i64 y, .int .i64 w0, .int .i64 l, undef, undef, undef, undef, undef, undef, undef, undef, undef, undef, undef, undef, undef, undef, undef, undef, undef, undef, undef, undef, undef, undef, undef, undef, undef], []⟩) (by kernel_rfl) ?_
 refine wsr ?_
 refine wv (.bool false) ?_
 refine wpList_nil (then_normal ?_)
 refine wp_seq ?_
 refine wsr ?_
 refine wv (.int .i64 0) ?_
 refine wpList_nil (then_normal ?_)
 refine wp_block ?_
 refine wp_loop_k (fun m1 a wl1 => ∃ (i : Nat), m1 = 100 - i ∧ i ≤ 100 ∧ (∀ k : Nat, k < i → (!(cvB F w0 l (k : Int) x && cvB F w0 l (k : Int) y)) = true) ∧ Ext w wl1 ∧ Blk wl1 b t F.cells ∧ (∃ J1 : Nat → Value, a = ⟨#[.pointer (some ⟨b, 0, none⟩), .int .i64 x, .int .i64 y, .int .i64 w0, .int .i64 l, undef, undef, undef, undef, undef, J1 10, .int .i64 (i : Int), J1 12, J1 13, J1 14, J1 15, J1 16, J1 17, J1 18, J1 19, J1 20, J1 21, J1 22, J1 23, J1 24, J1 25, J1 26, J1 27, J1 28, J1 29], []⟩)) (100) ?_ ?_
 ·refine ⟨0, rfl, ?_, ?_, (Ext.refl w), hb, exJ (by kernel_rfl)⟩
  ·omega
  ·intro k hk; omega
 intro m1 a wl1 hI
 obtain ⟨i, rfl, hi_, hI, HL1, hb, J1, rfl⟩ := hI
 refine wp_seq ?_
 refine wsr ?_
 refine wv (.int .i64 (i : Int)) ?_
 refine wv (.bool (decide ((i : Int) < 100))) ?_
 refine wpList_nil (then_normal ?_)
 refine wsplit (decide ((i : Int) < 100)) (fun h1 => ?_) (fun h1 => ?_)
 ·skip
  have h1d := dT h1
  refine wp_skip ?_
  refine then_normal ?_
  refine wp_seq ?_
  refine wp_block ?_
  refine wsr ?_
  refine wv (.pointer (some ⟨b, 0, none⟩)) ?_
  refine wv (.int .i64 (i : Int)) ?_
  refine wv (.int .i64 x) ?_
  refine wv (.int .i64 w0) ?_
  refine wv (.int .i64 l) ?_
  refine wcl (l03Covers_any F hF b _ (i : Int) x w0 l (by omega) (by omega) _ hb) ?_
  intro w1 E1
  refine wv (.bool (isB F (i : Int) && cvR F (i : Int) x w0 l)) ?_
  refine split_bool (isB F (i : Int) && cvR F (i : Int) x w0 l) (fun h2 => ?_) (fun h2 => ?_)
  ·skip
   refine wbl 22 true h2 ?_
   obtain ⟨h2a, h2b⟩ := andT h2
   have h2ad := isB_true.1 h2a
   refine wv (.pointer (some ⟨b, 0, none⟩)) ?_
   refine wv (.int .i64 (i : Int)) ?_
   refine wv (.int .i64 y) ?_
   refine wv (.int .i64 w0) ?_
   refine wv (.int .i64 l) ?_
   replace hb := hb.ext E1
   refine wcl (l03Covers_any F hF b _ (i : Int) y w0 l (by omega) (by omega) _ hb) ?_
   intro w2 E2
   refine wv (.bool (isB F (i : Int) && cvR F (i : Int) y w0 l)) ?_
   refine wpList_nil (then_normal ?_)
   have H1 := (HL1.trans E1).trans E2
   refine wsplit (isB F (i : Int) && cvR F (i : Int) y w0 l) (fun h3 => ?_) (fun h3 => ?_)
   ·skip
    obtain ⟨h3a, h3b⟩ := andT h3
    have h3ad := isB_true.1 h3a
    refine wsr ?_
    refine wv (.bool false) ?_
    refine wpList_nil (then_normal ?_)
    refine wp_ret ?_
    refine block_ret (then_ret (then_ret (block_ret (then_ret ?_))))
    refine ret1 (.bool (apB F w0 l x y)) rfl ?_ rfl ?_
    ·refine (resT (v := .bool false) (by kernel_rfl)).trans ?_
     refine congrArg Value.bool ?_
     first | exact (apB_f i (by omega) (by assumption) (by assumption)).symm | exact (apB_t (fun k hk => hI k (by omega))).symm
    exact ⟨rfl, H1⟩
   ·skip
    refine wp_skip ?_
    refine block_normal (then_normal ?_)
    refine wp_region_lit ?_
    refine wv (.int .i64 (i : Int)) ?_
    refine wi64 ((i : Int) + 1) ?_
    refine wv (.int .i64 ((i : Int) + 1)) ?_
    refine wpList_nil (then_normal ?_)
    replace hb := hb.ext E2
    refine ⟨_, ?_, i + 1, rfl, ?_, ?_, H1, hb, exJ (by kernel_rfl)⟩
    ·omega
    ·omega
    ·intro k hk
     rcases (by omega : k < i ∨ k = i) with h_ | h_
     ·exact hI k h_
     ·subst h_; first | exact apB_n k (.inl (by assumption)) | exact apB_n k (.inr (by assumption))
  ·skip
   refine wbl 22 false h2 ?_
   refine wsk ?_
   refine wsk ?_
   refine wsk ?_
   refine wsk ?_
   refine wsk ?_
   refine wsk ?_
   refine wv (.bool false) ?_
   refine wpList_nil (then_normal ?_)
   refine wcf ?_
   refine wp_skip ?_
   refine block_normal (then_normal ?_)
   refine wp_region_lit ?_
   refine wv (.int .i64 (i : Int)) ?_
   refine wi64 ((i : Int) + 1) ?_
   refine wv (.int .i64 ((i : Int) + 1)) ?_
   refine wpList_nil (then_normal ?_)
   replace hb := hb.ext E1
   have H2 := HL1.trans E1
   refine ⟨_, ?_, i + 1, rfl, ?_, ?_, H2, hb, exJ (by kernel_rfl)⟩
   ·omega
   ·omega
   ·intro k hk
    rcases (by omega : k < i ∨ k = i) with h_ | h_
    ·exact hI k h_
    ·subst h_; first | exact apB_n k (.inl (by assumption)) | exact apB_n k (.inr (by assumption))
 ·skip
  have h1d := dF h1
  refine wp_exit ?_
  refine then_exit ?_
  refine then_exit ?_
  refine block_exit ?_
  refine then_normal ?_
  refine wsr ?_
  refine wv (.bool true) ?_
  refine wpList_nil (then_normal ?_)
  refine wp_ret ?_
  refine ret1 (.bool (apB F w0 l x y)) rfl ?_ rfl ?_
  ·refine (resT (v := .bool true) (by kernel_rfl)).trans ?_
   refine congrArg Value.bool ?_
   first | exact (apB_f i (by omega) (by assumption) (by assumption)).symm | exact (apB_t (fun k hk => hI k (by omega))).symm
  exact ⟨rfl, HL1⟩
theorem CheckApart1_any (w0 : Int) (b0 : Nat) (t0 : TypeId) (l : Int) (b1 : Nat) (t1 : TypeId) (w : World) (hb0 : Blk w b0 t0 #[.int .i64 w0]) (hb1 : Blk w b1 t1 #[.int .i64 l]) :
 Calls Try.prog 55 #[.pointer (some ⟨b0, 0, none⟩), .pointer (some ⟨b1, 0, none⟩)] w fun e w' => e = .returned (.bool (inB w0 1 1000 && inB l 1 1000)) ∧ Ext w w' := by
 refine calls_of_wp Try.func55 rfl ?_
 refine wp_frame (a' := ⟨#[.pointer (some ⟨b0, 0, none⟩), .pointer (some ⟨b1, 0, none⟩), undef, undef, undef, undef], []⟩) (by kernel_rfl) ?_
 refine wsr ?_
 refine wv (.bool false) ?_
 refine wpList_nil (then_normal ?_)
 refine wsr ?_
 refine wld (v := .int .i64 w0) b0 (0) scal_int64 (hb0.get (rfl)) ?_
 refine wld (v := .int .i64 l) b1 (0) scal_int64 (hb1.get (rfl)) ?_
 refine wcl (arePowers_any w0 l _) ?_
 intro w1 E1
 refine wv (.bool (inB w0 1 1000 && inB l 1 1000)) ?_
 refine wpList_nil (then_normal ?_)
 refine wp_ret ?_
 have H1 := (Ext.refl w).trans E1
 refine ret1 (.bool (inB w0 1 1000 && inB l 1 1000)) rfl ?_ rfl ?_
 ·exact resT (by kernel_rfl)
 exact ⟨rfl, H1⟩
theorem ApartCells1_any (w0 : Int) (b0 : Nat) (t0 : TypeId) (l : Int) (b1 : Nat) (t1 : TypeId) (w : World) (hb0 : Blk w b0 t0 #[.int .i64 w0]) (hb1 : Blk w b1 t1 #[.int .i64 l]) :
 Calls Try.prog 50 #[.pointer (some ⟨b0, 0, none⟩), .pointer (some ⟨b1, 0, none⟩)] w fun e w' => e = .returned (.bool (inB w0 1 1000 && inB l 1 1000)) ∧ Ext w w' := by
 refine calls_of_wp Try.func50 rfl ?_
 refine wp_frame (a' := ⟨#[.pointer (some ⟨b0, 0, none⟩), .pointer (some ⟨b1, 0, none⟩), undef, undef, undef, undef], []⟩) (by kernel_rfl) ?_
 refine wsr ?_
 refine wv (.bool false) ?_
 refine wpList_nil (then_normal ?_)
 refine wsr ?_
 refine wld (v := .int .i64 w0) b0 (0) scal_int64 (hb0.get (rfl)) ?_
 refine wld (v := .int .i64 l) b1 (0) scal_int64 (hb1.get (rfl)) ?_
 refine wcl (arePowers_any w0 l _) ?_
 intro w1 E1
 refine wv (.bool (inB w0 1 1000 && inB l 1 1000)) ?_
 refine wpList_nil (then_normal ?_)
 refine wp_ret ?_
 have H1 := (Ext.refl w).trans E1
 refine ret1 (.bool (inB w0 1 1000 && inB l 1 1000)) rfl ?_ rfl ?_
 ·exact resT (by kernel_rfl)
 exact ⟨rfl, H1⟩
theorem iCheckApart_any (F : Fld) (hF : F.wf) (w0 : Int) (l : Int) (xs : List Int) (n bx cap : Nat) (cs : Array Value) (hS : SlI cs n cap .i64 xs) (hn : n ≤ 1048576) (w : World) (hbx : Blk w bx 2 cs) :
 Calls Try.prog 14 #[.agg F.cells, .int .i64 w0, .int .i64 l, .slice (some ⟨bx, 0, none⟩) n cap] w fun e w' => e = .returned (.tuple #[.bool (caB F w0 l xs), .int .i64 (code F (inB w0 1 1000 && inB l 1 1000))]) ∧ Ext w w' := by
 have hn_ := hS.len
 refine calls_of_wp Try.func14 rfl ?_
 refine wp_frame (a' := ⟨#[.agg F.cells, .int .i64 w0, .int .i64 l, .slice (some ⟨bx, 0, none⟩) n cap, undef, undef, undef, undef, undef, undef, undef, undef, undef, undef, undef, undef, undef, undef, undef, undef, undef, undef, undef, undef, undef, undef, undef, undef, undef, undef, undef, undef, undef, undef, undef, undef, undef, undef, undef, undef, undef, undef, undef, undef, undef, undef, undef, undef, undef, undef, undef, undef, undef, undef, undef, undef, undef, undef, undef], []⟩) (by kernel_rfl) ?_
 refine wsr ?_
 refine wbox F.cells ?_
 intro g1 w1 B1 E1 hg_
 have q_bx_g1 := Nat.ne_of_lt (Nat.lt_of_lt_of_le hbx.lt hg_)
 have lo_g1 := Nat.le_trans ((Ext.refl w)).size hg_
 have H1 := (Ext.refl w).trans E1
 replace hbx := hbx.ext E1
 refine wboxv (.int .i64 w0) ?_
 intro g2 w2 B2 E2 hg_
 have q_bx_g2 := Nat.ne_of_lt (Nat.lt_of_lt_of_le hbx.lt hg_)
 have q_g1_g2 := Nat.ne_of_lt (Nat.lt_of_lt_of_le B1.lt hg_)
 have lo_g2 := Nat.le_trans (H1).size hg_
 have H2 := H1.trans E2
 replace hbx := hbx.ext E2
 replace B1 := B1.ext E2
 refine wboxv (.int .i64 l) ?_
 intro g3 w3 B3 E3 hg_
 have q_bx_g3 := Nat.ne_of_lt (Nat.lt_of_lt_of_le hbx.lt hg_)
 have q_g1_g3 := Nat.ne_of_lt (Nat.lt_of_lt_of_le B1.lt hg_)
 have q_g2_g3 := Nat.ne_of_lt (Nat.lt_of_lt_of_le B2.lt hg_)
 have lo_g3 := Nat.le_trans (H2).size hg_
 refine wv (.bool false) ?_
 refine wv (.int .i64 0) ?_
 refine wpList_nil (then_normal ?_)
 refine wp_seq ?_
 refine wsr ?_
 refine wv (.func (.func 55) #[] #[.pointer (some ⟨g2, 0, none⟩), .pointer (some ⟨g3, 0, none⟩)]) ?_
 replace B1 := B1.ext E3
 replace B2 := B2.ext E3
 refine wcl (fieldCode_any F hF g1 _ (.func (.func 55) #[] #[.pointer (some ⟨g2, 0, none⟩), .pointer (some ⟨g3, 0, none⟩)]) 55 #[.pointer (some ⟨g2, 0, none⟩), .pointer (some ⟨g3, 0, none⟩)] (fun _ => by kernel_rfl) (inB w0 1 1000 && inB l 1 1000) _ B1 (fun _ E_ => CheckApart1_any w0 g2 _ l g3 _ _ (B2.ext E_) (B3.ext E_))) ?_
 intro w4 E4
 refine wv (.int .i64 (code F (inB w0 1 1000 && inB l 1 1000))) ?_
 refine wpList_nil (then_normal ?_)
 refine wsr ?_
 refine wv (.int .i64 (code F (inB w0 1 1000 && inB l 1 1000))) ?_
 refine wv (.bool ((code F (inB w0 1 1000 && inB l 1 1000)) != 0)) ?_
 refine wpList_nil (then_normal ?_)
 have H3 := (H2.trans E3).trans E4
 refine wsplit ((code F (inB w0 1 1000 && inB l 1 1000)) != 0) (fun h1 => ?_) (fun h1 => ?_)
 ·skip
  have h1d := nT h1
  refine wsr ?_
  refine wv (.int .i64 (code F (inB w0 1 1000 && inB l 1 1000))) ?_
  refine wv (.bool false) ?_
  refine wv (.int .i64 (code F (inB w0 1 1000 && inB l 1 1000))) ?_
  refine wpList_nil (then_normal ?_)
  refine wp_ret ?_
  refine then_ret ?_
  refine ret2 (.bool (caB F w0 l xs)) (.int .i64 (code F (inB w0 1 1000 && inB l 1 1000))) rfl ?_ ?_ rfl ?_
  ·refine (resT (v := .bool false) (by kernel_rfl)).trans ?_
   refine congrArg Value.bool ?_
   first | exact (caB_n (by assumption)).symm | exact (caB_1 (i := i) (by omega) (by assumption)).symm | exact (caB_2 (i := i) (by omega) (by assumption)).symm | exact (caB_2 (i := i) (by omega) (beqT (by assumption))).symm | exact (caB_3 (i := i) (by omega) hM (by assumption) (by assumption)).symm | exact (caB_4 (i := i) (by omega) hU (by assumption)).symm | exact (caB_t (by assumption) (fun j hj => hall j (by omega))).symm
  ·exact resT (by kernel_rfl)
  exact ⟨rfl, H3⟩
 ·skip
  have h1d := nF h1
  have h1o := (code_zero h1d).1
  have h1z := (code_zero h1d).2
  obtain ⟨h1za, h1zb⟩ := andT h1z
  have h1zad := inT h1za
  have h1zbd := inT h1zb
  refine wp_skip ?_
  refine then_normal ?_
  refine wsr ?_
  refine wv (.agg #[.int .u64 0, .int .u64 0]) ?_
  refine wv (.agg #[.int .u64 0, .int .u64 0]) ?_
  replace hbx := (hbx.ext E3).ext E4
  replace B1 := B1.ext E4
  replace B2 := B2.ext E4
  replace B3 := B3.ext E4
  refine wnew #[.int .u64 0, .int .u64 0] Try.zeroValue33 rfl ?_
  intro g4 w5 B4 E5 hg_
  have q_bx_g4 := Nat.ne_of_lt (Nat.lt_of_lt_of_le hbx.lt hg_)
  have q_g1_g4 := Nat.ne_of_lt (Nat.lt_of_lt_of_le B1.lt hg_)
  have q_g2_g4 := Nat.ne_of_lt (Nat.lt_of_lt_of_le B2.lt hg_)
  have q_g3_g4 := Nat.ne_of_lt (Nat.lt_of_lt_of_le B3.lt hg_)
  have lo_g4 := Nat.le_trans (H3).size hg_
  have H4 := H3.trans E5
  replace hbx := hbx.ext E5
  replace B1 := B1.ext E5
  replace B2 := B2.ext E5
  replace B3 := B3.ext E5
  refine wnew #[.int .u64 0, .int .u64 0] Try.zeroValue33 rfl ?_
  intro g5 w6 B5 E6 hg_
  have q_bx_g5 := Nat.ne_of_lt (Nat.lt_of_lt_of_le hbx.lt hg_)
  have q_g1_g5 := Nat.ne_of_lt (Nat.lt_of_lt_of_le B1.lt hg_)
  have q_g2_g5 := Nat.ne_of_lt (Nat.lt_of_lt_of_le B2.lt hg_)
  have q_g3_g5 := Nat.ne_of_lt (Nat.lt_of_lt_of_le B3.lt hg_)
  have q_g4_g5 := Nat.ne_of_lt (Nat.lt_of_lt_of_le B4.lt hg_)
  have lo_g5 := Nat.le_trans (H4).size hg_
  replace B4 := B4.ext E6
  refine wput #[.int .u64 0, .int .u64 0] row_impl_Cells B4 (by rfl) (by rfl) (by kernel_rfl) ?_
  intro w7 B4_ X1
  clear B4; have B4 := B4_; clear B4_
  replace B5 := X1.blk B5 (Ne.symm q_g4_g5)
  refine wput #[.int .u64 0, .int .u64 0] row_impl_Cells B5 (by rfl) (by rfl) (by kernel_rfl) ?_
  intro w8 B5_ X2
  clear B5; have B5 := B5_; clear B5_
  refine wpList_nil (then_normal ?_)
  refine wp_seq ?_
  refine wsr ?_
  refine wv (.slice (some ⟨bx, 0, none⟩) n cap) ?_
  refine wv (.int .i64 (n : Int)) ?_
  refine wv (.int .i64 0) ?_
  refine wpList_nil (then_normal ?_)
  refine wp_block ?_
  replace hbx := X2.blk (X1.blk (hbx.ext E6) q_bx_g4) q_bx_g5
  replace B1 := X2.blk (X1.blk (B1.ext E6) q_g1_g4) q_g1_g5
  replace B2 := X2.blk (X1.blk (B2.ext E6) q_g2_g4) q_g2_g5
  replace B3 := X2.blk (X1.blk (B3.ext E6) q_g3_g4) q_g3_g5
  replace B4 := X2.blk B4 q_g4_g5
  have H5 := X2.ext w lo_g5 (X1.ext w lo_g4 (H4.trans E6))
  refine wp_loop_k (fun m1 a wl1 => ∃ (i : Nat) (u_ : Int × Int) (m_ : Int × Int), m1 = n - i ∧ i ≤ n ∧ usI F w0 l xs i u_ ∧ mtI xs i m_ ∧ (∀ j, j < i → okN F w0 l xs j = true) ∧ Ext w wl1 ∧ Blk wl1 bx 2 cs ∧ Blk wl1 g1 29 F.cells ∧ Blk wl1 g2 2 #[.int .i64 w0] ∧ Blk wl1 g3 2 #[.int .i64 l] ∧ Blk wl1 g4 33 #[.int .u64 u_.1, .int .u64 u_.2] ∧ Blk wl1 g5 33 #[.int .u64 m_.1, .int .u64 m_.2] ∧ (∃ J1 : Nat → Value, a = ⟨#[.agg F.cells, .int .i64 w0, .int .i64 l, .slice (some ⟨bx, 0, none⟩) n cap, .pointer (some ⟨g1, 0, none⟩), .pointer (some ⟨g2, 0, none⟩), .pointer (some ⟨g3, 0, none⟩), undef, J1 8, J1 9, .int .i64 (code F (inB w0 1 1000 && inB l 1 1000)), .pointer (some ⟨g4, 0, none⟩), .pointer (some ⟨g5, 0, none⟩), undef, J1 14, J1 15, .func (.func 55) #[] #[.pointer (some ⟨g2, 0, none⟩), .pointer (some ⟨g3, 0, none⟩)], .int .i64 (code F (inB w0 1 1000 && inB l 1 1000)), .int .i64 (code F (inB w0 1 1000 && inB l 1 1000)), .bool ((code F (inB w0 1 1000 && inB l 1 1000)) != 0), undef, .agg #[.int .u64 0, .int .u64 0], .agg #[.int .u64 0, .int .u64 0], .slice (some ⟨bx, 0, none⟩) n cap, .int .i64 (n : Int), .int .i64 (i : Int), J1 26, J1 27, J1 28, J1 29, J1 30, J1 31, J1 32, J1 33, J1 34, J1 35, J1 36, J1 37, J1 38, J1 39, J1 40, J1 41, J1 42, J1 43, J1 44, J1 45, J1 46, J1 47, J1 48, J1 49, J1 50, J1 51, J1 52, J1 53, J1 54, J1 55, J1 56, J1 57, J1 58], []⟩)) (n) ?_ ?_
  ·refine ⟨0, (0, 0), (0, 0), rfl, ?_, ?_, ?_, ?_, H5, hbx, B1, B2, B3, B4, B5, exJ (by kernel_rfl)⟩
   ·omega
   ·exact us_0
   ·exact mt_0
   ·intro j hj; omega
  intro m1 a wl1 hI
  obtain ⟨i, u_, m_, rfl, hi_, hU, hM, hall, HL1, hbx, B1, B2, B3, B4, B5, J1, rfl⟩ := hI
  refine wsr ?_
  refine wv (.bool (decide ((i : Int) < (n : Int)))) ?_
  refine wpList_nil (then_normal ?_)
  refine wp_seq ?_
  refine wsplit (decide ((i : Int) < (n : Int))) (fun h2 => ?_) (fun h2 => ?_)
  ·skip
   have h2d := dT h2
   refine wp_skip ?_
   refine then_normal ?_
   refine wp_seq ?_
   refine wp_block ?_
   refine wsr ?_
   refine wsix1 bx 0 n cap i .i64 slit__int64 ?_
   refine wld bx (0 + i) scal_int64 (hbx.get (SlI.get hS (by omega))) ?_
   refine wv (.int .i64 (atI xs i)) ?_
   refine wpList_nil (then_normal ?_)
   refine wp_seq ?_
   refine wsr ?_
   refine wv (.int .i64 (atI xs i)) ?_
   refine wcl (has_any F hF g1 _ (atI xs i) _ B1) ?_
   intro w9 E7
   refine wv (.bool (!(isB F (atI xs i)))) ?_
   refine wv (.bool (!(isB F (atI xs i)))) ?_
   have H6 := HL1.trans E7
   refine split_bool (isB F (atI xs i)) (fun h3 => ?_) (fun h3 => ?_)
   ·skip
    refine wbl 32 false (bnT h3) ?_
    have h3d := isB_true.1 h3
    refine wv (.int .i64 (atI xs i)) ?_
    refine wv (.pointer (some ⟨g1, 2, none⟩)) ?_
    refine wix g1 2 (atI xs i) .i64 arrt__100_uint8 ?_
    replace B1 := B1.ext E7
    have ce1 := hF.k1 ((atI xs i).toNat) (by omega)
    have ce2 := ok_cell h1o ((atI xs i).toNat) (by omega)
    refine wld g1 (2 + (atI xs i).toNat) scal_uint8 (B1.get (Fld.getk _ _ (by omega))) ?_
    refine wv (.bool ((F.k ((atI xs i).toNat)) != 0)) ?_
    refine wv (.bool ((F.k ((atI xs i).toNat)) != 0)) ?_
    refine wv (.bool ((F.k ((atI xs i).toNat)) != 0)) ?_
    refine split_bool ((F.k ((atI xs i).toNat)) != 0) (fun h4 => ?_) (fun h4 => ?_)
    ·skip
     refine wbl 39 true h4 ?_
     have h4d := nT h4
     refine wsk ?_
     refine wsk ?_
     refine wsk ?_
     refine wv (.bool true) ?_
     refine wpList_nil (then_normal ?_)
     refine wct ?_
     refine wsr ?_
     refine wv (.bool false) ?_
     refine wv (.int .i64 0) ?_
     refine wpList_nil (then_normal ?_)
     refine wp_ret ?_
     refine then_ret (block_ret (then_ret (then_ret (block_ret (then_ret ?_)))))
     refine ret2 (.bool (caB F w0 l xs)) (.int .i64 (code F (inB w0 1 1000 && inB l 1 1000))) rfl ?_ ?_ rfl ?_
     ·refine (resT (v := .bool false) (by kernel_rfl)).trans ?_
      refine congrArg Value.bool ?_
      first | exact (caB_n (by assumption)).symm | exact (caB_1 (i := i) (by omega) (by assumption)).symm | exact (caB_2 (i := i) (by omega) (by assumption)).symm | exact (caB_2 (i := i) (by omega) (beqT (by assumption))).symm | exact (caB_3 (i := i) (by omega) hM (by assumption) (by assumption)).symm | exact (caB_4 (i := i) (by omega) hU (by assumption)).symm | exact (caB_t (by assumption) (fun j hj => hall j (by omega))).symm
     ·refine (resT (v := .int .i64 0) (by kernel_rfl)).trans ?_
      refine congrArg (Value.int _) ?_
      first | (rw [if_pos (by assumption)]; done) | (rw [if_neg (by assumption)]; done) | rfl | assumption | (symm; assumption)
     exact ⟨rfl, H6⟩
    ·skip
     refine wbl 39 false h4 ?_
     have h4d := nF h4
     replace B5 := B5.ext E7
     refine wrow row_impl_Cells B5 (by rfl) ?_
     refine wv (.int .i64 (atI xs i)) ?_
     refine wcl (iHasCell_any m_.1 m_.2 (atI xs i) _) ?_
     intro w10 E8
     refine wv (.bool (hasB m_.1 m_.2 (atI xs i))) ?_
     refine wpList_nil (then_normal ?_)
     have H7 := H6.trans E8
     refine wsplit (hasB m_.1 m_.2 (atI xs i)) (fun h5 => ?_) (fun h5 => ?_)
     ·skip
      refine wsr ?_
      refine wv (.bool false) ?_
      refine wv (.int .i64 0) ?_
      refine wpList_nil (then_normal ?_)
      refine wp_ret ?_
      refine then_ret (block_ret (then_ret (then_ret (block_ret (then_ret ?_)))))
      refine ret2 (.bool (caB F w0 l xs)) (.int .i64 (code F (inB w0 1 1000 && inB l 1 1000))) rfl ?_ ?_ rfl ?_
      ·refine (resT (v := .bool false) (by kernel_rfl)).trans ?_
       refine congrArg Value.bool ?_
       first | exact (caB_n (by assumption)).symm | exact (caB_1 (i := i) (by omega) (by assumption)).symm | exact (caB_2 (i := i) (by omega) (by assumption)).symm | exact (caB_2 (i := i) (by omega) (beqT (by assumption))).symm | exact (caB_3 (i := i) (by omega) hM (by assumption) (by assumption)).symm | exact (caB_4 (i := i) (by omega) hU (by assumption)).symm | exact (caB_t (by assumption) (fun j hj => hall j (by omega))).symm
      ·refine (resT (v := .int .i64 0) (by kernel_rfl)).trans ?_
       refine congrArg (Value.int _) ?_
       first | (rw [if_pos (by assumption)]; done) | (rw [if_neg (by assumption)]; done) | rfl | assumption | (symm; assumption)
      exact ⟨rfl, H7⟩
     ·skip
      refine wp_skip ?_
      refine then_normal ?_
      refine wsr ?_
      refine wv (.int .i64 (atI xs i)) ?_
      replace B2 := (B2.ext E7).ext E8
      refine wld (v := .int .i64 w0) g2 (0) scal_int64 (B2.get (rfl)) ?_
      replace B3 := (B3.ext E7).ext E8
      refine wld (v := .int .i64 l) g3 (0) scal_int64 (B3.get (rfl)) ?_
      replace B1 := B1.ext E8
      refine wcl (coverers_any F hF g1 _ (atI xs i) w0 l (by omega) (by assumption) _ B1) ?_
      intro w11 E9
      have H8 := H7.trans E9
      replace hbx := ((hbx.ext E7).ext E8).ext E9
      replace B1 := B1.ext E9
      replace B2 := B2.ext E9
      replace B3 := B3.ext E9
      replace B4 := ((B4.ext E7).ext E8).ext E9
      replace B5 := (B5.ext E8).ext E9
      refine wnew #[.int .u64 0, .int .u64 0] Try.zeroValue33 rfl ?_
      intro g6 w12 B6 E10 hg_
      have q_bx_g6 := Nat.ne_of_lt (Nat.lt_of_lt_of_le hbx.lt hg_)
      have q_g1_g6 := Nat.ne_of_lt (Nat.lt_of_lt_of_le B1.lt hg_)
      have q_g2_g6 := Nat.ne_of_lt (Nat.lt_of_lt_of_le B2.lt hg_)
      have q_g3_g6 := Nat.ne_of_lt (Nat.lt_of_lt_of_le B3.lt hg_)
      have q_g4_g6 := Nat.ne_of_lt (Nat.lt_of_lt_of_le B4.lt hg_)
      have q_g5_g6 := Nat.ne_of_lt (Nat.lt_of_lt_of_le B5.lt hg_)
      have lo_g6 := Nat.le_trans (H8).size hg_
      refine wput #[.int .u64 ((setC F (fun c_ => cvR F c_ (atI xs i) w0 l) 100).1), .int .u64 ((setC F (fun c_ => cvR F c_ (atI xs i) w0 l) 100).2)] row_impl_Cells B6 (by rfl) (by rfl) (by kernel_rfl) ?_
      intro w13 B6_ X3
      clear B6; have B6 := B6_; clear B6_
      refine wpList_nil (then_normal ?_)
      refine wp_seq ?_
      refine wsr ?_
      refine wrow row_impl_Cells B6 (by rfl) ?_
      replace B4 := X3.blk (B4.ext E10) q_g4_g6
      refine wrow row_impl_Cells B4 (by rfl) ?_
      refine wcl (iBoth_any ((setC F (fun c_ => cvR F c_ (atI xs i) w0 l) 100).1) ((setC F (fun c_ => cvR F c_ (atI xs i) w0 l) 100).2) u_.1 u_.2 (by first | assumption | exact okP.w2 (setC_ok 100 (Nat.le_refl _)) | exact okP.w2 hI.1 | exact okP.w2 hU.1) (by first | assumption | exact okP.w2 (setC_ok 100 (Nat.le_refl _)) | exact okP.w2 hI.1 | exact okP.w2 hU.1) _) ?_
      intro w14 E11
      refine wv (.agg #[.int .u64 0, .int .u64 0]) ?_
      refine wneA duot_impl_Cells.eg (equalIn_duo duot_impl_Cells 9998 (bo0 ((setC F (fun c_ => cvR F c_ (atI xs i) w0 l) 100).1) u_.1) (bo1 ((setC F (fun c_ => cvR F c_ (atI xs i) w0 l) 100).2) u_.2) 0 0) ?_
      refine wpList_nil (then_normal ?_)
      refine wp_frame (a' := ⟨#[.agg F.cells, .int .i64 w0, .int .i64 l, .slice (some ⟨bx, 0, none⟩) n cap, .pointer (some ⟨g1, 0, none⟩), .pointer (some ⟨g2, 0, none⟩), .pointer (some ⟨g3, 0, none⟩), undef, J1 8, J1 9, .int .i64 (code F (inB w0 1 1000 && inB l 1 1000)), .pointer (some ⟨g4, 0, none⟩), .pointer (some ⟨g5, 0, none⟩), undef, .int .i64 (atI xs i), .pointer (some ⟨g6, 0, none⟩), .func (.func 55) #[] #[.pointer (some ⟨g2, 0, none⟩), .pointer (some ⟨g3, 0, none⟩)], .int .i64 (code F (inB w0 1 1000 && inB l 1 1000)), .int .i64 (code F (inB w0 1 1000 && inB l 1 1000)), .bool ((code F (inB w0 1 1000 && inB l 1 1000)) != 0), undef, .agg #[.int .u64 0, .int .u64 0], .agg #[.int .u64 0, .int .u64 0], .slice (some ⟨bx, 0, none⟩) n cap, .int .i64 (n : Int), .int .i64 (i : Int), .bool (decide ((i : Int) < (n : Int))), .pointer (some ⟨bx, 0 + i, none⟩), .int .i64 (atI xs i), .int .i64 (atI xs i), .bool (isB F (atI xs i)), .bool (!(isB F (atI xs i))), .bool false, .int .i64 (atI xs i), .pointer (some ⟨g1, 2, none⟩), .pointer (some ⟨g1, 2 + (atI xs i).toNat, none⟩), .int .u8 (F.k ((atI xs i).toNat)), .bool ((F.k ((atI xs i).toNat)) != 0), .bool ((F.k ((atI xs i).toNat)) != 0), .bool false, .agg #[.int .u64 m_.1, .int .u64 m_.2], .int .i64 (atI xs i), .bool (hasB m_.1 m_.2 (atI xs i)), .bool (hasB m_.1 m_.2 (atI xs i)), .int .i64 (atI xs i), .int .i64 w0, .int .i64 l, .agg #[.int .u64 ((setC F (fun c_ => cvR F c_ (atI xs i) w0 l) 100).1), .int .u64 ((setC F (fun c_ => cvR F c_ (atI xs i) w0 l) 100).2)], .agg #[.int .u64 ((setC F (fun c_ => cvR F c_ (atI xs i) w0 l) 100).1), .int .u64 ((setC F (fun c_ => cvR F c_ (atI xs i) w0 l) 100).2)], .agg #[.int .u64 u_.1, .int .u64 u_.2], .agg #[.int .u64 (bo0 ((setC F (fun c_ => cvR F c_ (atI xs i) w0 l) 100).1) u_.1), .int .u64 (bo1 ((setC F (fun c_ => cvR F c_ (atI xs i) w0 l) 100).2) u_.2)], .agg #[.int .u64 0, .int .u64 0], .bool (!(eq2 (bo0 ((setC F (fun c_ => cvR F c_ (atI xs i) w0 l) 100).1) u_.1) (bo1 ((setC F (fun c_ => cvR F c_ (atI xs i) w0 l) 100).2) u_.2) 0 0)), J1 53, J1 54, J1 55, J1 56, J1 57, J1 58], []⟩) (by kernel_rfl) ?_
      have H9 := (X3.ext w lo_g6 (H8.trans E10)).trans E11
      refine wsplit (!(eq2 (bo0 ((setC F (fun c_ => cvR F c_ (atI xs i) w0 l) 100).1) u_.1) (bo1 ((setC F (fun c_ => cvR F c_ (atI xs i) w0 l) 100).2) u_.2) 0 0)) (fun h6 => ?_) (fun h6 => ?_)
      ·skip
       replace h6 := nbT h6
       refine wsr ?_
       refine wv (.bool false) ?_
       refine wv (.int .i64 0) ?_
       refine wpList_nil (then_normal ?_)
       refine wp_ret ?_
       refine then_ret (block_ret (then_ret (then_ret (block_ret (then_ret ?_)))))
       refine ret2 (.bool (caB F w0 l xs)) (.int .i64 (code F (inB w0 1 1000 && inB l 1 1000))) rfl ?_ ?_ rfl ?_
       ·refine (resT (v := .bool false) (by kernel_rfl)).trans ?_
        refine congrArg Value.bool ?_
        first | exact (caB_n (by assumption)).symm | exact (caB_1 (i := i) (by omega) (by assumption)).symm | exact (caB_2 (i := i) (by omega) (by assumption)).symm | exact (caB_2 (i := i) (by omega) (beqT (by assumption))).symm | exact (caB_3 (i := i) (by omega) hM (by assumption) (by assumption)).symm | exact (caB_4 (i := i) (by omega) hU (by assumption)).symm | exact (caB_t (by assumption) (fun j hj => hall j (by omega))).symm
       ·refine (resT (v := .int .i64 0) (by kernel_rfl)).trans ?_
        refine congrArg (Value.int _) ?_
        first | (rw [if_pos (by assumption)]; done) | (rw [if_neg (by assumption)]; done) | rfl | assumption | (symm; assumption)
       exact ⟨rfl, H9⟩
      ·skip
       replace h6 := nbF h6
       refine wp_skip ?_
       refine then_normal ?_
       refine wsr ?_
       refine wv (.int .i64 (atI xs i)) ?_
       replace B5 := (X3.blk (B5.ext E10) q_g5_g6).ext E11
       refine wcl (put_any m_.1 m_.2 g5 _ (atI xs i) (by omega) _ B5) ?_
       rintro w15 ⟨B5_, X4⟩
       clear B5; have B5 := B5_; clear B5_
       refine wpList_nil (then_normal ?_)
       refine wp_region_lit ?_
       replace B4 := X4.blk (B4.ext E11) q_g4_g5
       refine wrow row_impl_Cells B4 (by rfl) ?_
       replace B6 := X4.blk (B6.ext E11) (Ne.symm q_g5_g6)
       refine wrow row_impl_Cells B6 (by rfl) ?_
       refine wcl (iUnion_any u_.1 u_.2 ((setC F (fun c_ => cvR F c_ (atI xs i) w0 l) 100).1) ((setC F (fun c_ => cvR F c_ (atI xs i) w0 l) 100).2) (by first | assumption | exact okP.w2 (setC_ok 100 (Nat.le_refl _)) | exact okP.w2 hI.1 | exact okP.w2 hU.1) (by first | assumption | exact okP.w2 (setC_ok 100 (Nat.le_refl _)) | exact okP.w2 hI.1 | exact okP.w2 hU.1) _) ?_
       intro w16 E12
       replace B4 := B4.ext E12
       refine wput #[.int .u64 (un0 u_.1 ((setC F (fun c_ => cvR F c_ (atI xs i) w0 l) 100).1)), .int .u64 (un1 u_.2 ((setC F (fun c_ => cvR F c_ (atI xs i) w0 l) 100).2))] row_impl_Cells B4 (by rfl) (by rfl) (by kernel_rfl) ?_
       intro w17 B4_ X5
       clear B4; have B4 := B4_; clear B4_
       refine wpList_nil (block_normal (then_normal ?_))
       refine wp_region_lit ?_
       refine wi64 ((i : Int) + 1) ?_
       refine wv (.int .i64 ((i : Int) + 1)) ?_
       refine wpList_nil (then_normal ?_)
       replace hbx := X5.blk ((X4.blk ((X3.blk (hbx.ext E10) q_bx_g6).ext E11) q_bx_g5).ext E12) q_bx_g4
       replace B1 := X5.blk ((X4.blk ((X3.blk (B1.ext E10) q_g1_g6).ext E11) q_g1_g5).ext E12) q_g1_g4
       replace B2 := X5.blk ((X4.blk ((X3.blk (B2.ext E10) q_g2_g6).ext E11) q_g2_g5).ext E12) q_g2_g4
       replace B3 := X5.blk ((X4.blk ((X3.blk (B3.ext E10) q_g3_g6).ext E11) q_g3_g5).ext E12) q_g3_g4
       replace B5 := X5.blk (B5.ext E12) (Ne.symm q_g4_g5)
       have H10 := X5.ext w lo_g4 ((X4.ext w lo_g5 H9).trans E12)
       refine ⟨_, ?_, i + 1, (un0 u_.1 ((setC F (fun c_ => cvR F c_ (atI xs i) w0 l) 100).1), un1 u_.2 ((setC F (fun c_ => cvR F c_ (atI xs i) w0 l) 100).2)), ((putS (m_.1, m_.2) (atI xs i)).1, (putS (m_.1, m_.2) (atI xs i)).2), rfl, ?_, ?_, ?_, ?_, H10, hbx, B1, B2, B3, B4, B5, exJ (by kernel_rfl)⟩
       ·omega
       ·omega
       ·exact us_s hU
       ·exact mt_s hM (by assumption)
       ·intro j hj
        rcases (by omega : j < i ∨ j = i) with h_ | h_
        ·exact hall j h_
        ·subst h_; exact okN_t hM hU (by assumption) (by first | assumption | exact beqF (by assumption)) (by assumption) (by assumption)
   ·skip
    refine wbl 32 true (bnF h3) ?_
    refine wsk ?_
    refine wsk ?_
    refine wsk ?_
    refine wsk ?_
    refine wsk ?_
    refine wv (.bool true) ?_
    refine wv (.bool true) ?_
    refine wsk ?_
    refine wsk ?_
    refine wsk ?_
    refine wv (.bool true) ?_
    refine wpList_nil (then_normal ?_)
    refine wct ?_
    refine wsr ?_
    refine wv (.bool false) ?_
    refine wv (.int .i64 0) ?_
    refine wpList_nil (then_normal ?_)
    refine wp_ret ?_
    refine then_ret (block_ret (then_ret (then_ret (block_ret (then_ret ?_)))))
    refine ret2 (.bool (caB F w0 l xs)) (.int .i64 (code F (inB w0 1 1000 && inB l 1 1000))) rfl ?_ ?_ rfl ?_
    ·refine (resT (v := .bool false) (by kernel_rfl)).trans ?_
     refine congrArg Value.bool ?_
     first | exact (caB_n (by assumption)).symm | exact (caB_1 (i := i) (by omega) (by assumption)).symm | exact (caB_2 (i := i) (by omega) (by assumption)).symm | exact (caB_2 (i := i) (by omega) (beqT (by assumption))).symm | exact (caB_3 (i := i) (by omega) hM (by assumption) (by assumption)).symm | exact (caB_4 (i := i) (by omega) hU (by assumption)).symm | exact (caB_t (by assumption) (fun j hj => hall j (by omega))).symm
    ·refine (resT (v := .int .i64 0) (by kernel_rfl)).trans ?_
     refine congrArg (Value.int _) ?_
     first | (rw [if_pos (by assumption)]; done) | (rw [if_neg (by assumption)]; done) | rfl | assumption | (symm; assumption)
    exact ⟨rfl, H6⟩
  ·skip
   have h2d := dF h2
   refine wp_exit ?_
   refine then_exit ?_
   refine then_exit ?_
   refine block_exit ?_
   refine then_normal ?_
   refine wsr ?_
   refine wv (.bool true) ?_
   refine wv (.int .i64 0) ?_
   refine wpList_nil (then_normal ?_)
   refine wp_ret ?_
   refine ret2 (.bool (caB F w0 l xs)) (.int .i64 (code F (inB w0 1 1000 && inB l 1 1000))) rfl ?_ ?_ rfl ?_
   ·refine (resT (v := .bool true) (by kernel_rfl)).trans ?_
    refine congrArg Value.bool ?_
    first | exact (caB_n (by assumption)).symm | exact (caB_1 (i := i) (by omega) (by assumption)).symm | exact (caB_2 (i := i) (by omega) (by assumption)).symm | exact (caB_2 (i := i) (by omega) (beqT (by assumption))).symm | exact (caB_3 (i := i) (by omega) hM (by assumption) (by assumption)).symm | exact (caB_4 (i := i) (by omega) hU (by assumption)).symm | exact (caB_t (by assumption) (fun j hj => hall j (by omega))).symm
   ·refine (resT (v := .int .i64 0) (by kernel_rfl)).trans ?_
    refine congrArg (Value.int _) ?_
    first | (rw [if_pos (by assumption)]; done) | (rw [if_neg (by assumption)]; done) | rfl | assumption | (symm; assumption)
   exact ⟨rfl, HL1⟩
