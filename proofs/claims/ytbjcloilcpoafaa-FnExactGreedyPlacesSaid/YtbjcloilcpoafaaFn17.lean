/-
  Contracts: cells that are apart. No conditions.
-/
import Derived.Test.YtbjcloilcpoafaaTy
import Derived.Test.YtbjcloilcpoafaaSl
import Derived.Test.YtbjcloilcpoafaaMth
import Derived.Test.YtbjcloilcpoafaaFn16
import Derived.Test.YtbjcloilcpoafaaAp
namespace Go.Proofs.Ytbjcloilcpoafaa
open Go.RowKit
set_option linter.unusedSimpArgs false
set_option linter.unusedVariables false
set_option maxHeartbeats 4000000
set_option maxRecDepth 100000
attribute [local irreducible] wpList Code.wp
--# l00Has_any
theorem l00Has_any (xs : List Int) (n b cap : Nat) (cs : Array Value) (hS : SlI cs n cap .i64 xs) (c : Int) (hn : n ≤ 1048576) (w : World) (hb : Blk w b 2 cs) :
 Calls Try.prog 77 #[.slice (some ⟨b, 0, none⟩) n cap, .int .i64 c] w fun e w' => e = .returned (.bool (hasN xs c n)) ∧ Ext w w' := by
 have hn_ := hS.len
 refine calls_of_wp Try.func77 rfl ?_
 refine wp_frame (a' := ⟨#[.slice (some ⟨b, 0, none⟩) n cap, .int .i64 c, undef, undef, undef, undef, undef, undef, undef, undef, undef, undef, undef, undef, undef, undef, undef, undef], []⟩) (by kernel_rfl) ?_
 refine wsr ?_
 refine wv (.bool false) ?_
 refine wpList_nil (then_normal ?_)
 refine wp_seq ?_
 refine wsr ?_
 refine wv (.int .i64 0) ?_
 refine wpList_nil (then_normal ?_)
 refine wp_block ?_
 refine wp_loop_k (fun m1 a wl1 => ∃ (i : Nat), m1 = n - i ∧ i ≤ n ∧ hasN xs c i = false ∧ Ext w wl1 ∧ Blk wl1 b 2 cs ∧ (∃ J1 : Nat → Value, a = ⟨#[.slice (some ⟨b, 0, none⟩) n cap, .int .i64 c, undef, undef, J1 4, .int .i64 (i : Int), J1 6, J1 7, J1 8, J1 9, J1 10, J1 11, J1 12, J1 13, J1 14, J1 15, J1 16, J1 17], []⟩)) (n) ?_ ?_
 · refine ⟨0, rfl, ?_, ?_, (Ext.refl w), hb, exJ (by kernel_rfl)⟩
   · omega
   · rfl
 intro m1 a wl1 hI
 obtain ⟨i, rfl, hi_, hI, HL1, hb, J1, rfl⟩ := hI
 refine wp_seq ?_
 refine wsr ?_
 refine wv (.int .i64 (i : Int)) ?_
 refine wv (.slice (some ⟨b, 0, none⟩) n cap) ?_
 refine wv (.int .i64 (n : Int)) ?_
 refine wv (.bool (decide ((i : Int) < (n : Int)))) ?_
 refine wpList_nil (then_normal ?_)
 refine wsplit (decide ((i : Int) < (n : Int))) (fun h1 => ?_) (fun h1 => ?_)
 · skip
   have h1d := dT h1
   refine wp_skip ?_
   refine then_normal ?_
   refine wp_seq ?_
   refine wp_block ?_
   refine wsr ?_
   refine wv (.slice (some ⟨b, 0, none⟩) n cap) ?_
   refine wv (.int .i64 (i : Int)) ?_
   refine wsix1 b 0 n cap i .i64 slit__int64 ?_
   refine wld b (0 + i) scal_int64 (hb.get (SlI.get hS (by omega))) ?_
   refine wv (.int .i64 c) ?_
   refine wv (.bool ((atI xs i) == c)) ?_
   refine wpList_nil (then_normal ?_)
   refine wsplit ((atI xs i) == c) (fun h2 => ?_) (fun h2 => ?_)
   · skip
     have h2d := eT h2
     refine wsr ?_
     refine wv (.bool true) ?_
     refine wpList_nil (then_normal ?_)
     refine wp_ret ?_
     refine block_ret (then_ret (then_ret (block_ret (then_ret ?_))))
     refine ret1 (.bool (hasN xs c n)) rfl ?_ rfl ?_
     · refine (resT (v := .bool true) (by kernel_rfl)).trans ?_
       refine congrArg Value.bool ?_
       first | exact (hasN_t (i := i) (by omega) (by assumption)).symm | (rw [show n = i by omega]; exact hI.symm)
     exact ⟨rfl, HL1⟩
   · skip
     have h2d := eF h2
     refine wp_skip ?_
     refine block_normal (then_normal ?_)
     refine wp_region_lit ?_
     refine wv (.int .i64 (i : Int)) ?_
     refine wi64 ((i : Int) + 1) ?_
     refine wv (.int .i64 ((i : Int) + 1)) ?_
     refine wpList_nil (then_normal ?_)
     refine ⟨_, ?_, i + 1, rfl, ?_, ?_, HL1, hb, exJ (by kernel_rfl)⟩
     · omega
     · omega
     · exact hasN_s hI (by assumption)
 · skip
   have h1d := dF h1
   refine wp_exit ?_
   refine then_exit ?_
   refine then_exit ?_
   refine block_exit ?_
   refine then_normal ?_
   refine wsr ?_
   refine wv (.bool false) ?_
   refine wpList_nil (then_normal ?_)
   refine wp_ret ?_
   refine ret1 (.bool (hasN xs c n)) rfl ?_ rfl ?_
   · refine (resT (v := .bool false) (by kernel_rfl)).trans ?_
     refine congrArg Value.bool ?_
     first | exact (hasN_t (i := i) (by omega) (by assumption)).symm | (rw [show n = i by omega]; exact hI.symm)
   exact ⟨rfl, HL1⟩


--# l03Apart_any
theorem l03Apart_any (F : Fld) (hF : F.wf) (b : Nat) (t : TypeId) (x : Int) (y : Int) (w0 : Int) (l : Int) (hpc : (0 ≤ x ∧ x ≤ 99) ∧ (0 ≤ y ∧ y ≤ 99)) (hw0 : 0 ≤ w0 ∧ w0 ≤ 1000) (w : World) (hb : Blk w b t F.cells) :
 Calls Try.prog 78 #[.pointer (some ⟨b, 0, none⟩), .int .i64 x, .int .i64 y, .int .i64 w0, .int .i64 l] w fun e w' => e = .returned (.bool (apB F w0 l x y)) ∧ Ext w w' := by
 refine calls_of_wp Try.func78 rfl ?_
 refine wp_frame (a' := ⟨#[.pointer (some ⟨b, 0, none⟩), .int .i64 x, .int .i64 y, .int .i64 w0, .int .i64 l, undef, undef, undef, undef, undef, undef, undef, undef, undef, undef, undef, undef, undef, undef, undef, undef, undef, undef, undef, undef, undef, undef, undef, undef, undef], []⟩) (by kernel_rfl) ?_
 refine wsr ?_
 refine wv (.bool false) ?_
 refine wpList_nil (then_normal ?_)
 refine wp_seq ?_
 refine wsr ?_
 refine wv (.int .i64 0) ?_
 refine wpList_nil (then_normal ?_)
 refine wp_block ?_
 refine wp_loop_k (fun m1 a wl1 => ∃ (i : Nat), m1 = 100 - i ∧ i ≤ 100 ∧ (∀ k : Nat, k < i → (!(cvB F w0 l (k : Int) x && cvB F w0 l (k : Int) y)) = true) ∧ Ext w wl1 ∧ Blk wl1 b t F.cells ∧ (∃ J1 : Nat → Value, a = ⟨#[.pointer (some ⟨b, 0, none⟩), .int .i64 x, .int .i64 y, .int .i64 w0, .int .i64 l, undef, undef, undef, undef, undef, J1 10, .int .i64 (i : Int), J1 12, J1 13, J1 14, J1 15, J1 16, J1 17, J1 18, J1 19, J1 20, J1 21, J1 22, J1 23, J1 24, J1 25, J1 26, J1 27, J1 28, J1 29], []⟩)) (100) ?_ ?_
 · refine ⟨0, rfl, ?_, ?_, (Ext.refl w), hb, exJ (by kernel_rfl)⟩
   · omega
   · intro k hk; omega
 intro m1 a wl1 hI
 obtain ⟨i, rfl, hi_, hI, HL1, hb, J1, rfl⟩ := hI
 refine wp_seq ?_
 refine wsr ?_
 refine wv (.int .i64 (i : Int)) ?_
 refine wv (.bool (decide ((i : Int) < 100))) ?_
 refine wpList_nil (then_normal ?_)
 refine wsplit (decide ((i : Int) < 100)) (fun h1 => ?_) (fun h1 => ?_)
 · skip
   have h1d := dT h1
   refine wp_skip ?_
   refine then_normal ?_
   refine wp_seq ?_
   refine wp_block ?_
   refine wsr ?_
   refine wv (.pointer (some ⟨b, 0, none⟩)) ?_
   refine wv (.int .i64 (i : Int)) ?_
   refine wv (.int .i64 x) ?_
   refine wv (.int .i64 w0) ?_
   refine wv (.int .i64 l) ?_
   refine wcl (l03Covers_any F hF b _ (i : Int) x w0 l (by omega) (by omega) _ hb) ?_
   intro w1 E1
   refine wv (.bool (isB F (i : Int) && cvR F (i : Int) x w0 l)) ?_
   refine split_bool (isB F (i : Int) && cvR F (i : Int) x w0 l) (fun h2 => ?_) (fun h2 => ?_)
   · skip
     refine wbl 22 true h2 ?_
     obtain ⟨h2a, h2b⟩ := andT h2
     have h2ad := isB_true.1 h2a
     refine wv (.pointer (some ⟨b, 0, none⟩)) ?_
     refine wv (.int .i64 (i : Int)) ?_
     refine wv (.int .i64 y) ?_
     refine wv (.int .i64 w0) ?_
     refine wv (.int .i64 l) ?_
     replace hb := hb.ext E1
     refine wcl (l03Covers_any F hF b _ (i : Int) y w0 l (by omega) (by omega) _ hb) ?_
     intro w2 E2
     refine wv (.bool (isB F (i : Int) && cvR F (i : Int) y w0 l)) ?_
     refine wpList_nil (then_normal ?_)
     have H1 := (HL1.trans E1).trans E2
     refine wsplit (isB F (i : Int) && cvR F (i : Int) y w0 l) (fun h3 => ?_) (fun h3 => ?_)
     · skip
       obtain ⟨h3a, h3b⟩ := andT h3
       have h3ad := isB_true.1 h3a
       refine wsr ?_
       refine wv (.bool false) ?_
       refine wpList_nil (then_normal ?_)
       refine wp_ret ?_
       refine block_ret (then_ret (then_ret (block_ret (then_ret ?_))))
       refine ret1 (.bool (apB F w0 l x y)) rfl ?_ rfl ?_
       · refine (resT (v := .bool false) (by kernel_rfl)).trans ?_
         refine congrArg Value.bool ?_
         first | exact (apB_f i (by omega) (by assumption) (by assumption)).symm | exact (apB_t (fun k hk => hI k (by omega))).symm
       exact ⟨rfl, H1⟩
     · skip
       refine wp_skip ?_
       refine block_normal (then_normal ?_)
       refine wp_region_lit ?_
       refine wv (.int .i64 (i : Int)) ?_
       refine wi64 ((i : Int) + 1) ?_
       refine wv (.int .i64 ((i : Int) + 1)) ?_
       refine wpList_nil (then_normal ?_)
       replace hb := hb.ext E2
       refine ⟨_, ?_, i + 1, rfl, ?_, ?_, H1, hb, exJ (by kernel_rfl)⟩
       · omega
       · omega
       · intro k hk
         rcases (by omega : k < i ∨ k = i) with h_ | h_
         · exact hI k h_
         · subst h_; first | exact apB_n k (.inl (by assumption)) | exact apB_n k (.inr (by assumption))
   · skip
     refine wbl 22 false h2 ?_
     refine wsk ?_
     refine wsk ?_
     refine wsk ?_
     refine wsk ?_
     refine wsk ?_
     refine wsk ?_
     refine wv (.bool false) ?_
     refine wpList_nil (then_normal ?_)
     refine wcf ?_
     refine wp_skip ?_
     refine block_normal (then_normal ?_)
     refine wp_region_lit ?_
     refine wv (.int .i64 (i : Int)) ?_
     refine wi64 ((i : Int) + 1) ?_
     refine wv (.int .i64 ((i : Int) + 1)) ?_
     refine wpList_nil (then_normal ?_)
     replace hb := hb.ext E1
     have H2 := HL1.trans E1
     refine ⟨_, ?_, i + 1, rfl, ?_, ?_, H2, hb, exJ (by kernel_rfl)⟩
     · omega
     · omega
     · intro k hk
       rcases (by omega : k < i ∨ k = i) with h_ | h_
       · exact hI k h_
       · subst h_; first | exact apB_n k (.inl (by assumption)) | exact apB_n k (.inr (by assumption))
 · skip
   have h1d := dF h1
   refine wp_exit ?_
   refine then_exit ?_
   refine then_exit ?_
   refine block_exit ?_
   refine then_normal ?_
   refine wsr ?_
   refine wv (.bool true) ?_
   refine wpList_nil (then_normal ?_)
   refine wp_ret ?_
   refine ret1 (.bool (apB F w0 l x y)) rfl ?_ rfl ?_
   · refine (resT (v := .bool true) (by kernel_rfl)).trans ?_
     refine congrArg Value.bool ?_
     first | exact (apB_f i (by omega) (by assumption) (by assumption)).symm | exact (apB_t (fun k hk => hI k (by omega))).symm
   exact ⟨rfl, HL1⟩


--# CheckApart1_any
theorem CheckApart1_any (w0 : Int) (b0 : Nat) (t0 : TypeId) (l : Int) (b1 : Nat) (t1 : TypeId) (w : World) (hb0 : Blk w b0 t0 #[.int .i64 w0]) (hb1 : Blk w b1 t1 #[.int .i64 l]) :
 Calls Try.prog 79 #[.pointer (some ⟨b0, 0, none⟩), .pointer (some ⟨b1, 0, none⟩)] w fun e w' => e = .returned (.bool (inB w0 1 1000 && inB l 1 1000)) ∧ Ext w w' := by
 refine calls_of_wp Try.func79 rfl ?_
 refine wp_frame (a' := ⟨#[.pointer (some ⟨b0, 0, none⟩), .pointer (some ⟨b1, 0, none⟩), undef, undef, undef, undef], []⟩) (by kernel_rfl) ?_
 refine wsr ?_
 refine wv (.bool false) ?_
 refine wpList_nil (then_normal ?_)
 refine wsr ?_
 refine wld (v := .int .i64 w0) b0 (0) scal_int64 (hb0.get (rfl)) ?_
 refine wld (v := .int .i64 l) b1 (0) scal_int64 (hb1.get (rfl)) ?_
 refine wcl (arePowers_any w0 l _) ?_
 intro w1 E1
 refine wv (.bool (inB w0 1 1000 && inB l 1 1000)) ?_
 refine wpList_nil (then_normal ?_)
 refine wp_ret ?_
 have H1 := (Ext.refl w).trans E1
 refine ret1 (.bool (inB w0 1 1000 && inB l 1 1000)) rfl ?_ rfl ?_
 · exact resT (by kernel_rfl)
 exact ⟨rfl, H1⟩


--# ApartCells1_any
theorem ApartCells1_any (w0 : Int) (b0 : Nat) (t0 : TypeId) (l : Int) (b1 : Nat) (t1 : TypeId) (w : World) (hb0 : Blk w b0 t0 #[.int .i64 w0]) (hb1 : Blk w b1 t1 #[.int .i64 l]) :
 Calls Try.prog 91 #[.pointer (some ⟨b0, 0, none⟩), .pointer (some ⟨b1, 0, none⟩)] w fun e w' => e = .returned (.bool (inB w0 1 1000 && inB l 1 1000)) ∧ Ext w w' := by
 refine calls_of_wp Try.func91 rfl ?_
 refine wp_frame (a' := ⟨#[.pointer (some ⟨b0, 0, none⟩), .pointer (some ⟨b1, 0, none⟩), undef, undef, undef, undef], []⟩) (by kernel_rfl) ?_
 refine wsr ?_
 refine wv (.bool false) ?_
 refine wpList_nil (then_normal ?_)
 refine wsr ?_
 refine wld (v := .int .i64 w0) b0 (0) scal_int64 (hb0.get (rfl)) ?_
 refine wld (v := .int .i64 l) b1 (0) scal_int64 (hb1.get (rfl)) ?_
 refine wcl (arePowers_any w0 l _) ?_
 intro w1 E1
 refine wv (.bool (inB w0 1 1000 && inB l 1 1000)) ?_
 refine wpList_nil (then_normal ?_)
 refine wp_ret ?_
 have H1 := (Ext.refl w).trans E1
 refine ret1 (.bool (inB w0 1 1000 && inB l 1 1000)) rfl ?_ rfl ?_
 · exact resT (by kernel_rfl)
 exact ⟨rfl, H1⟩


--# iCheckApart_any
theorem iCheckApart_any (F : Fld) (hF : F.wf) (w0 : Int) (l : Int) (xs : List Int) (n bx cap : Nat) (cs : Array Value) (hS : SlI cs n cap .i64 xs) (hn : n ≤ 1048576) (w : World) (hbx : Blk w bx 2 cs) :
 Calls Try.prog 36 #[.agg F.cells, .int .i64 w0, .int .i64 l, .slice (some ⟨bx, 0, none⟩) n cap] w fun e w' => e = .returned (.tuple #[.bool (caB F w0 l xs), .int .i64 (code F (inB w0 1 1000 && inB l 1 1000))]) ∧ Ext w w' := by
 have hn_ := hS.len
 refine calls_of_wp Try.func36 rfl ?_
 refine wp_frame (a' := ⟨#[.agg F.cells, .int .i64 w0, .int .i64 l, .slice (some ⟨bx, 0, none⟩) n cap, undef, undef, undef, undef, undef, undef, undef, undef, undef, undef, undef, undef, undef, undef, undef, undef, undef, undef, undef, undef, undef, undef, undef, undef, undef, undef, undef, undef, undef, undef, undef, undef, undef, undef, undef, undef, undef, undef, undef, undef, undef, undef, undef, undef, undef, undef, undef, undef, undef, undef, undef, undef, undef, undef, undef], []⟩) (by kernel_rfl) ?_
 refine wsr ?_
 refine wbox F.cells ?_
 intro g1 w1 B1 E1 hg_
 have q_bx_g1 := Nat.ne_of_lt (Nat.lt_of_lt_of_le hbx.lt hg_)
 have lo_g1 := Nat.le_trans ((Ext.refl w)).size hg_
 have H1 := (Ext.refl w).trans E1
 replace hbx := hbx.ext E1
 refine wboxv (.int .i64 w0) ?_
 intro g2 w2 B2 E2 hg_
 have q_bx_g2 := Nat.ne_of_lt (Nat.lt_of_lt_of_le hbx.lt hg_)
 have q_g1_g2 := Nat.ne_of_lt (Nat.lt_of_lt_of_le B1.lt hg_)
 have lo_g2 := Nat.le_trans (H1).size hg_
 have H2 := H1.trans E2
 replace hbx := hbx.ext E2
 replace B1 := B1.ext E2
 refine wboxv (.int .i64 l) ?_
 intro g3 w3 B3 E3 hg_
 have q_bx_g3 := Nat.ne_of_lt (Nat.lt_of_lt_of_le hbx.lt hg_)
 have q_g1_g3 := Nat.ne_of_lt (Nat.lt_of_lt_of_le B1.lt hg_)
 have q_g2_g3 := Nat.ne_of_lt (Nat.lt_of_lt_of_le B2.lt hg_)
 have lo_g3 := Nat.le_trans (H2).size hg_
 refine wv (.bool false) ?_
 refine wv (.int .i64 0) ?_
 refine wpList_nil (then_normal ?_)
 refine wp_seq ?_
 refine wsr ?_
 refine wv (.func (.func 79) #[] #[.pointer (some ⟨g2, 0, none⟩), .pointer (some ⟨g3, 0, none⟩)]) ?_
 replace B1 := B1.ext E3
 replace B2 := B2.ext E3
 refine wcl (fieldCode_any F hF g1 _ (.func (.func 79) #[] #[.pointer (some ⟨g2, 0, none⟩), .pointer (some ⟨g3, 0, none⟩)]) 79 #[.pointer (some ⟨g2, 0, none⟩), .pointer (some ⟨g3, 0, none⟩)] (fun _ => by kernel_rfl) (inB w0 1 1000 && inB l 1 1000) _ B1 (fun _ E_ => CheckApart1_any w0 g2 _ l g3 _ _ (B2.ext E_) (B3.ext E_))) ?_
 intro w4 E4
 refine wv (.int .i64 (code F (inB w0 1 1000 && inB l 1 1000))) ?_
 refine wpList_nil (then_normal ?_)
 refine wsr ?_
 refine wv (.int .i64 (code F (inB w0 1 1000 && inB l 1 1000))) ?_
 refine wv (.bool ((code F (inB w0 1 1000 && inB l 1 1000)) != 0)) ?_
 refine wpList_nil (then_normal ?_)
 have H3 := (H2.trans E3).trans E4
 refine wsplit ((code F (inB w0 1 1000 && inB l 1 1000)) != 0) (fun h1 => ?_) (fun h1 => ?_)
 · skip
   have h1d := nT h1
   refine wsr ?_
   refine wv (.int .i64 (code F (inB w0 1 1000 && inB l 1 1000))) ?_
   refine wv (.bool false) ?_
   refine wv (.int .i64 (code F (inB w0 1 1000 && inB l 1 1000))) ?_
   refine wpList_nil (then_normal ?_)
   refine wp_ret ?_
   refine then_ret ?_
   refine ret2 (.bool (caB F w0 l xs)) (.int .i64 (code F (inB w0 1 1000 && inB l 1 1000))) rfl ?_ ?_ rfl ?_
   · refine (resT (v := .bool false) (by kernel_rfl)).trans ?_
     refine congrArg Value.bool ?_
     first | exact (caB_n (by assumption)).symm | exact (caB_1 (i := i) (by omega) (by assumption)).symm | exact (caB_2 (i := i) (by omega) (by assumption)).symm | exact (caB_2 (i := i) (by omega) (beqT (by assumption))).symm | exact (caB_3 (i := i) (by omega) hM (by assumption) (by assumption)).symm | exact (caB_4 (i := i) (by omega) hU (by assumption)).symm | exact (caB_t (by assumption) (fun j hj => hall j (by omega))).symm
   · exact resT (by kernel_rfl)
   exact ⟨rfl, H3⟩
 · skip
   have h1d := nF h1
   have h1o := (code_zero h1d).1
   have h1z := (code_zero h1d).2
   obtain ⟨h1za, h1zb⟩ := andT h1z
   have h1zad := inT h1za
   have h1zbd := inT h1zb
   refine wp_skip ?_
   refine then_normal ?_
   refine wsr ?_
   refine wv (.agg #[.int .u64 0, .int .u64 0]) ?_
   refine wv (.agg #[.int .u64 0, .int .u64 0]) ?_
   replace hbx := (hbx.ext E3).ext E4
   replace B1 := B1.ext E4
   replace B2 := B2.ext E4
   replace B3 := B3.ext E4
   refine wnew #[.int .u64 0, .int .u64 0] Try.zeroValue47 rfl ?_
   intro g4 w5 B4 E5 hg_
   have q_bx_g4 := Nat.ne_of_lt (Nat.lt_of_lt_of_le hbx.lt hg_)
   have q_g1_g4 := Nat.ne_of_lt (Nat.lt_of_lt_of_le B1.lt hg_)
   have q_g2_g4 := Nat.ne_of_lt (Nat.lt_of_lt_of_le B2.lt hg_)
   have q_g3_g4 := Nat.ne_of_lt (Nat.lt_of_lt_of_le B3.lt hg_)
   have lo_g4 := Nat.le_trans (H3).size hg_
   have H4 := H3.trans E5
   replace hbx := hbx.ext E5
   replace B1 := B1.ext E5
   replace B2 := B2.ext E5
   replace B3 := B3.ext E5
   refine wnew #[.int .u64 0, .int .u64 0] Try.zeroValue47 rfl ?_
   intro g5 w6 B5 E6 hg_
   have q_bx_g5 := Nat.ne_of_lt (Nat.lt_of_lt_of_le hbx.lt hg_)
   have q_g1_g5 := Nat.ne_of_lt (Nat.lt_of_lt_of_le B1.lt hg_)
   have q_g2_g5 := Nat.ne_of_lt (Nat.lt_of_lt_of_le B2.lt hg_)
   have q_g3_g5 := Nat.ne_of_lt (Nat.lt_of_lt_of_le B3.lt hg_)
   have q_g4_g5 := Nat.ne_of_lt (Nat.lt_of_lt_of_le B4.lt hg_)
   have lo_g5 := Nat.le_trans (H4).size hg_
   replace B4 := B4.ext E6
   refine wput #[.int .u64 0, .int .u64 0] row_impl_Cells B4 (by rfl) (by rfl) (by kernel_rfl) ?_
   intro w7 B4_ X1
   clear B4; have B4 := B4_; clear B4_
   replace B5 := X1.blk B5 (Ne.symm q_g4_g5)
   refine wput #[.int .u64 0, .int .u64 0] row_impl_Cells B5 (by rfl) (by rfl) (by kernel_rfl) ?_
   intro w8 B5_ X2
   clear B5; have B5 := B5_; clear B5_
   refine wpList_nil (then_normal ?_)
   refine wp_seq ?_
   refine wsr ?_
   refine wv (.slice (some ⟨bx, 0, none⟩) n cap) ?_
   refine wv (.int .i64 (n : Int)) ?_
   refine wv (.int .i64 0) ?_
   refine wpList_nil (then_normal ?_)
   refine wp_block ?_
   replace hbx := X2.blk (X1.blk (hbx.ext E6) q_bx_g4) q_bx_g5
   replace B1 := X2.blk (X1.blk (B1.ext E6) q_g1_g4) q_g1_g5
   replace B2 := X2.blk (X1.blk (B2.ext E6) q_g2_g4) q_g2_g5
   replace B3 := X2.blk (X1.blk (B3.ext E6) q_g3_g4) q_g3_g5
   replace B4 := X2.blk B4 q_g4_g5
   have H5 := X2.ext w lo_g5 (X1.ext w lo_g4 (H4.trans E6))
   refine wp_loop_k (fun m1 a wl1 => ∃ (i : Nat) (u_ : Int × Int) (m_ : Int × Int), m1 = n - i ∧ i ≤ n ∧ usI F w0 l xs i u_ ∧ mtI xs i m_ ∧ (∀ j, j < i → okN F w0 l xs j = true) ∧ Ext w wl1 ∧ Blk wl1 bx 2 cs ∧ Blk wl1 g1 50 F.cells ∧ Blk wl1 g2 2 #[.int .i64 w0] ∧ Blk wl1 g3 2 #[.int .i64 l] ∧ Blk wl1 g4 47 #[.int .u64 u_.1, .int .u64 u_.2] ∧ Blk wl1 g5 47 #[.int .u64 m_.1, .int .u64 m_.2] ∧ (∃ J1 : Nat → Value, a = ⟨#[.agg F.cells, .int .i64 w0, .int .i64 l, .slice (some ⟨bx, 0, none⟩) n cap, .pointer (some ⟨g1, 0, none⟩), .pointer (some ⟨g2, 0, none⟩), .pointer (some ⟨g3, 0, none⟩), undef, J1 8, J1 9, .int .i64 (code F (inB w0 1 1000 && inB l 1 1000)), .pointer (some ⟨g4, 0, none⟩), .pointer (some ⟨g5, 0, none⟩), undef, J1 14, J1 15, .func (.func 79) #[] #[.pointer (some ⟨g2, 0, none⟩), .pointer (some ⟨g3, 0, none⟩)], .int .i64 (code F (inB w0 1 1000 && inB l 1 1000)), .int .i64 (code F (inB w0 1 1000 && inB l 1 1000)), .bool ((code F (inB w0 1 1000 && inB l 1 1000)) != 0), undef, .agg #[.int .u64 0, .int .u64 0], .agg #[.int .u64 0, .int .u64 0], .slice (some ⟨bx, 0, none⟩) n cap, .int .i64 (n : Int), .int .i64 (i : Int), J1 26, J1 27, J1 28, J1 29, J1 30, J1 31, J1 32, J1 33, J1 34, J1 35, J1 36, J1 37, J1 38, J1 39, J1 40, J1 41, J1 42, J1 43, J1 44, J1 45, J1 46, J1 47, J1 48, J1 49, J1 50, J1 51, J1 52, J1 53, J1 54, J1 55, J1 56, J1 57, J1 58], []⟩)) (n) ?_ ?_
   · refine ⟨0, (0, 0), (0, 0), rfl, ?_, ?_, ?_, ?_, H5, hbx, B1, B2, B3, B4, B5, exJ (by kernel_rfl)⟩
     · omega
     · exact us_0
     · exact mt_0
     · intro j hj; omega
   intro m1 a wl1 hI
   obtain ⟨i, u_, m_, rfl, hi_, hU, hM, hall, HL1, hbx, B1, B2, B3, B4, B5, J1, rfl⟩ := hI
   refine wsr ?_
   refine wv (.bool (decide ((i : Int) < (n : Int)))) ?_
   refine wpList_nil (then_normal ?_)
   refine wp_seq ?_
   refine wsplit (decide ((i : Int) < (n : Int))) (fun h2 => ?_) (fun h2 => ?_)
   · skip
     have h2d := dT h2
     refine wp_skip ?_
     refine then_normal ?_
     refine wp_seq ?_
     refine wp_block ?_
     refine wsr ?_
     refine wsix1 bx 0 n cap i .i64 slit__int64 ?_
     refine wld bx (0 + i) scal_int64 (hbx.get (SlI.get hS (by omega))) ?_
     refine wv (.int .i64 (atI xs i)) ?_
     refine wpList_nil (then_normal ?_)
     refine wp_seq ?_
     refine wsr ?_
     refine wv (.int .i64 (atI xs i)) ?_
     refine wcl (has_any F hF g1 _ (atI xs i) _ B1) ?_
     intro w9 E7
     refine wv (.bool (!(isB F (atI xs i)))) ?_
     refine wv (.bool (!(isB F (atI xs i)))) ?_
     have H6 := HL1.trans E7
     refine split_bool (isB F (atI xs i)) (fun h3 => ?_) (fun h3 => ?_)
     · skip
       refine wbl 32 false (bnT h3) ?_
       have h3d := isB_true.1 h3
       refine wv (.int .i64 (atI xs i)) ?_
       refine wv (.pointer (some ⟨g1, 2, none⟩)) ?_
       refine wix g1 2 (atI xs i) .i64 arrt__100_uint8 ?_
       replace B1 := B1.ext E7
       have ce1 := hF.k1 ((atI xs i).toNat) (by omega)
       have ce2 := ok_cell h1o ((atI xs i).toNat) (by omega)
       refine wld g1 (2 + (atI xs i).toNat) scal_uint8 (B1.get (Fld.getk _ _ (by omega))) ?_
       refine wv (.bool ((F.k ((atI xs i).toNat)) != 0)) ?_
       refine wv (.bool ((F.k ((atI xs i).toNat)) != 0)) ?_
       refine wv (.bool ((F.k ((atI xs i).toNat)) != 0)) ?_
       refine split_bool ((F.k ((atI xs i).toNat)) != 0) (fun h4 => ?_) (fun h4 => ?_)
       · skip
         refine wbl 39 true h4 ?_
         have h4d := nT h4
         refine wsk ?_
         refine wsk ?_
         refine wsk ?_
         refine wv (.bool true) ?_
         refine wpList_nil (then_normal ?_)
         refine wct ?_
         refine wsr ?_
         refine wv (.bool false) ?_
         refine wv (.int .i64 0) ?_
         refine wpList_nil (then_normal ?_)
         refine wp_ret ?_
         refine then_ret (block_ret (then_ret (then_ret (block_ret (then_ret ?_)))))
         refine ret2 (.bool (caB F w0 l xs)) (.int .i64 (code F (inB w0 1 1000 && inB l 1 1000))) rfl ?_ ?_ rfl ?_
         · refine (resT (v := .bool false) (by kernel_rfl)).trans ?_
           refine congrArg Value.bool ?_
           first | exact (caB_n (by assumption)).symm | exact (caB_1 (i := i) (by omega) (by assumption)).symm | exact (caB_2 (i := i) (by omega) (by assumption)).symm | exact (caB_2 (i := i) (by omega) (beqT (by assumption))).symm | exact (caB_3 (i := i) (by omega) hM (by assumption) (by assumption)).symm | exact (caB_4 (i := i) (by omega) hU (by assumption)).symm | exact (caB_t (by assumption) (fun j hj => hall j (by omega))).symm
         · refine (resT (v := .int .i64 0) (by kernel_rfl)).trans ?_
           refine congrArg (Value.int _) ?_
           first | (rw [if_pos (by assumption)]; done) | (rw [if_neg (by assumption)]; done) | rfl | assumption | (symm; assumption)
         exact ⟨rfl, H6⟩
       · skip
         refine wbl 39 false h4 ?_
         have h4d := nF h4
         replace B5 := B5.ext E7
         refine wrow row_impl_Cells B5 (by rfl) ?_
         refine wv (.int .i64 (atI xs i)) ?_
         refine wcl (iHasCell_any m_.1 m_.2 (atI xs i) _) ?_
         intro w10 E8
         refine wv (.bool (hasB m_.1 m_.2 (atI xs i))) ?_
         refine wpList_nil (then_normal ?_)
         have H7 := H6.trans E8
         refine wsplit (hasB m_.1 m_.2 (atI xs i)) (fun h5 => ?_) (fun h5 => ?_)
         · skip
           refine wsr ?_
           refine wv (.bool false) ?_
           refine wv (.int .i64 0) ?_
           refine wpList_nil (then_normal ?_)
           refine wp_ret ?_
           refine then_ret (block_ret (then_ret (then_ret (block_ret (then_ret ?_)))))
           refine ret2 (.bool (caB F w0 l xs)) (.int .i64 (code F (inB w0 1 1000 && inB l 1 1000))) rfl ?_ ?_ rfl ?_
           · refine (resT (v := .bool false) (by kernel_rfl)).trans ?_
             refine congrArg Value.bool ?_
             first | exact (caB_n (by assumption)).symm | exact (caB_1 (i := i) (by omega) (by assumption)).symm | exact (caB_2 (i := i) (by omega) (by assumption)).symm | exact (caB_2 (i := i) (by omega) (beqT (by assumption))).symm | exact (caB_3 (i := i) (by omega) hM (by assumption) (by assumption)).symm | exact (caB_4 (i := i) (by omega) hU (by assumption)).symm | exact (caB_t (by assumption) (fun j hj => hall j (by omega))).symm
           · refine (resT (v := .int .i64 0) (by kernel_rfl)).trans ?_
             refine congrArg (Value.int _) ?_
             first | (rw [if_pos (by assumption)]; done) | (rw [if_neg (by assumption)]; done) | rfl | assumption | (symm; assumption)
           exact ⟨rfl, H7⟩
         · skip
           refine wp_skip ?_
           refine then_normal ?_
           refine wsr ?_
           refine wv (.int .i64 (atI xs i)) ?_
           replace B2 := (B2.ext E7).ext E8
           refine wld (v := .int .i64 w0) g2 (0) scal_int64 (B2.get (rfl)) ?_
           replace B3 := (B3.ext E7).ext E8
           refine wld (v := .int .i64 l) g3 (0) scal_int64 (B3.get (rfl)) ?_
           replace B1 := B1.ext E8
           refine wcl (coverers_any F hF g1 _ (atI xs i) w0 l (by omega) (by assumption) _ B1) ?_
           intro w11 E9
           have H8 := H7.trans E9
           replace hbx := ((hbx.ext E7).ext E8).ext E9
           replace B1 := B1.ext E9
           replace B2 := B2.ext E9
           replace B3 := B3.ext E9
           replace B4 := ((B4.ext E7).ext E8).ext E9
           replace B5 := (B5.ext E8).ext E9
           refine wnew #[.int .u64 0, .int .u64 0] Try.zeroValue47 rfl ?_
           intro g6 w12 B6 E10 hg_
           have q_bx_g6 := Nat.ne_of_lt (Nat.lt_of_lt_of_le hbx.lt hg_)
           have q_g1_g6 := Nat.ne_of_lt (Nat.lt_of_lt_of_le B1.lt hg_)
           have q_g2_g6 := Nat.ne_of_lt (Nat.lt_of_lt_of_le B2.lt hg_)
           have q_g3_g6 := Nat.ne_of_lt (Nat.lt_of_lt_of_le B3.lt hg_)
           have q_g4_g6 := Nat.ne_of_lt (Nat.lt_of_lt_of_le B4.lt hg_)
           have q_g5_g6 := Nat.ne_of_lt (Nat.lt_of_lt_of_le B5.lt hg_)
           have lo_g6 := Nat.le_trans (H8).size hg_
           refine wput #[.int .u64 ((setC F (fun c_ => cvR F c_ (atI xs i) w0 l) 100).1), .int .u64 ((setC F (fun c_ => cvR F c_ (atI xs i) w0 l) 100).2)] row_impl_Cells B6 (by rfl) (by rfl) (by kernel_rfl) ?_
           intro w13 B6_ X3
           clear B6; have B6 := B6_; clear B6_
           refine wpList_nil (then_normal ?_)
           refine wp_seq ?_
           refine wsr ?_
           refine wrow row_impl_Cells B6 (by rfl) ?_
           replace B4 := X3.blk (B4.ext E10) q_g4_g6
           refine wrow row_impl_Cells B4 (by rfl) ?_
           refine wcl (iBoth_any ((setC F (fun c_ => cvR F c_ (atI xs i) w0 l) 100).1) ((setC F (fun c_ => cvR F c_ (atI xs i) w0 l) 100).2) u_.1 u_.2 (by first | assumption | exact okP.w2 (setC_ok 100 (Nat.le_refl _)) | exact okP.w2 hI.1 | exact okP.w2 hU.1) (by first | assumption | exact okP.w2 (setC_ok 100 (Nat.le_refl _)) | exact okP.w2 hI.1 | exact okP.w2 hU.1) _) ?_
           intro w14 E11
           refine wv (.agg #[.int .u64 0, .int .u64 0]) ?_
           refine wneA duot_impl_Cells.eg (equalIn_duo duot_impl_Cells 9998 (bo0 ((setC F (fun c_ => cvR F c_ (atI xs i) w0 l) 100).1) u_.1) (bo1 ((setC F (fun c_ => cvR F c_ (atI xs i) w0 l) 100).2) u_.2) 0 0) ?_
           refine wpList_nil (then_normal ?_)
           refine wp_frame (a' := ⟨#[.agg F.cells, .int .i64 w0, .int .i64 l, .slice (some ⟨bx, 0, none⟩) n cap, .pointer (some ⟨g1, 0, none⟩), .pointer (some ⟨g2, 0, none⟩), .pointer (some ⟨g3, 0, none⟩), undef, J1 8, J1 9, .int .i64 (code F (inB w0 1 1000 && inB l 1 1000)), .pointer (some ⟨g4, 0, none⟩), .pointer (some ⟨g5, 0, none⟩), undef, .int .i64 (atI xs i), .pointer (some ⟨g6, 0, none⟩), .func (.func 79) #[] #[.pointer (some ⟨g2, 0, none⟩), .pointer (some ⟨g3, 0, none⟩)], .int .i64 (code F (inB w0 1 1000 && inB l 1 1000)), .int .i64 (code F (inB w0 1 1000 && inB l 1 1000)), .bool ((code F (inB w0 1 1000 && inB l 1 1000)) != 0), undef, .agg #[.int .u64 0, .int .u64 0], .agg #[.int .u64 0, .int .u64 0], .slice (some ⟨bx, 0, none⟩) n cap, .int .i64 (n : Int), .int .i64 (i : Int), .bool (decide ((i : Int) < (n : Int))), .pointer (some ⟨bx, 0 + i, none⟩), .int .i64 (atI xs i), .int .i64 (atI xs i), .bool (isB F (atI xs i)), .bool (!(isB F (atI xs i))), .bool false, .int .i64 (atI xs i), .pointer (some ⟨g1, 2, none⟩), .pointer (some ⟨g1, 2 + (atI xs i).toNat, none⟩), .int .u8 (F.k ((atI xs i).toNat)), .bool ((F.k ((atI xs i).toNat)) != 0), .bool ((F.k ((atI xs i).toNat)) != 0), .bool false, .agg #[.int .u64 m_.1, .int .u64 m_.2], .int .i64 (atI xs i), .bool (hasB m_.1 m_.2 (atI xs i)), .bool (hasB m_.1 m_.2 (atI xs i)), .int .i64 (atI xs i), .int .i64 w0, .int .i64 l, .agg #[.int .u64 ((setC F (fun c_ => cvR F c_ (atI xs i) w0 l) 100).1), .int .u64 ((setC F (fun c_ => cvR F c_ (atI xs i) w0 l) 100).2)], .agg #[.int .u64 ((setC F (fun c_ => cvR F c_ (atI xs i) w0 l) 100).1), .int .u64 ((setC F (fun c_ => cvR F c_ (atI xs i) w0 l) 100).2)], .agg #[.int .u64 u_.1, .int .u64 u_.2], .agg #[.int .u64 (bo0 ((setC F (fun c_ => cvR F c_ (atI xs i) w0 l) 100).1) u_.1), .int .u64 (bo1 ((setC F (fun c_ => cvR F c_ (atI xs i) w0 l) 100).2) u_.2)], .agg #[.int .u64 0, .int .u64 0], .bool (!(eq2 (bo0 ((setC F (fun c_ => cvR F c_ (atI xs i) w0 l) 100).1) u_.1) (bo1 ((setC F (fun c_ => cvR F c_ (atI xs i) w0 l) 100).2) u_.2) 0 0)), J1 53, J1 54, J1 55, J1 56, J1 57, J1 58], []⟩) (by kernel_rfl) ?_
           have H9 := (X3.ext w lo_g6 (H8.trans E10)).trans E11
           refine wsplit (!(eq2 (bo0 ((setC F (fun c_ => cvR F c_ (atI xs i) w0 l) 100).1) u_.1) (bo1 ((setC F (fun c_ => cvR F c_ (atI xs i) w0 l) 100).2) u_.2) 0 0)) (fun h6 => ?_) (fun h6 => ?_)
           · skip
             replace h6 := nbT h6
             refine wsr ?_
             refine wv (.bool false) ?_
             refine wv (.int .i64 0) ?_
             refine wpList_nil (then_normal ?_)
             refine wp_ret ?_
             refine then_ret (block_ret (then_ret (then_ret (block_ret (then_ret ?_)))))
             refine ret2 (.bool (caB F w0 l xs)) (.int .i64 (code F (inB w0 1 1000 && inB l 1 1000))) rfl ?_ ?_ rfl ?_
             · refine (resT (v := .bool false) (by kernel_rfl)).trans ?_
               refine congrArg Value.bool ?_
               first | exact (caB_n (by assumption)).symm | exact (caB_1 (i := i) (by omega) (by assumption)).symm | exact (caB_2 (i := i) (by omega) (by assumption)).symm | exact (caB_2 (i := i) (by omega) (beqT (by assumption))).symm | exact (caB_3 (i := i) (by omega) hM (by assumption) (by assumption)).symm | exact (caB_4 (i := i) (by omega) hU (by assumption)).symm | exact (caB_t (by assumption) (fun j hj => hall j (by omega))).symm
             · refine (resT (v := .int .i64 0) (by kernel_rfl)).trans ?_
               refine congrArg (Value.int _) ?_
               first | (rw [if_pos (by assumption)]; done) | (rw [if_neg (by assumption)]; done) | rfl | assumption | (symm; assumption)
             exact ⟨rfl, H9⟩
           · skip
             replace h6 := nbF h6
             refine wp_skip ?_
             refine then_normal ?_
             refine wsr ?_
             refine wv (.int .i64 (atI xs i)) ?_
             replace B5 := (X3.blk (B5.ext E10) q_g5_g6).ext E11
             refine wcl (put_any m_.1 m_.2 g5 _ (atI xs i) (by omega) _ B5) ?_
             rintro w15 ⟨B5_, X4⟩
             clear B5; have B5 := B5_; clear B5_
             refine wpList_nil (then_normal ?_)
             refine wp_region_lit ?_
             replace B4 := X4.blk (B4.ext E11) q_g4_g5
             refine wrow row_impl_Cells B4 (by rfl) ?_
             replace B6 := X4.blk (B6.ext E11) (Ne.symm q_g5_g6)
             refine wrow row_impl_Cells B6 (by rfl) ?_
             refine wcl (iUnion_any u_.1 u_.2 ((setC F (fun c_ => cvR F c_ (atI xs i) w0 l) 100).1) ((setC F (fun c_ => cvR F c_ (atI xs i) w0 l) 100).2) (by first | assumption | exact okP.w2 (setC_ok 100 (Nat.le_refl _)) | exact okP.w2 hI.1 | exact okP.w2 hU.1) (by first | assumption | exact okP.w2 (setC_ok 100 (Nat.le_refl _)) | exact okP.w2 hI.1 | exact okP.w2 hU.1) _) ?_
             intro w16 E12
             replace B4 := B4.ext E12
             refine wput #[.int .u64 (un0 u_.1 ((setC F (fun c_ => cvR F c_ (atI xs i) w0 l) 100).1)), .int .u64 (un1 u_.2 ((setC F (fun c_ => cvR F c_ (atI xs i) w0 l) 100).2))] row_impl_Cells B4 (by rfl) (by rfl) (by kernel_rfl) ?_
             intro w17 B4_ X5
             clear B4; have B4 := B4_; clear B4_
             refine wpList_nil (block_normal (then_normal ?_))
             refine wp_region_lit ?_
             refine wi64 ((i : Int) + 1) ?_
             refine wv (.int .i64 ((i : Int) + 1)) ?_
             refine wpList_nil (then_normal ?_)
             replace hbx := X5.blk ((X4.blk ((X3.blk (hbx.ext E10) q_bx_g6).ext E11) q_bx_g5).ext E12) q_bx_g4
             replace B1 := X5.blk ((X4.blk ((X3.blk (B1.ext E10) q_g1_g6).ext E11) q_g1_g5).ext E12) q_g1_g4
             replace B2 := X5.blk ((X4.blk ((X3.blk (B2.ext E10) q_g2_g6).ext E11) q_g2_g5).ext E12) q_g2_g4
             replace B3 := X5.blk ((X4.blk ((X3.blk (B3.ext E10) q_g3_g6).ext E11) q_g3_g5).ext E12) q_g3_g4
             replace B5 := X5.blk (B5.ext E12) (Ne.symm q_g4_g5)
             have H10 := X5.ext w lo_g4 ((X4.ext w lo_g5 H9).trans E12)
             refine ⟨_, ?_, i + 1, (un0 u_.1 ((setC F (fun c_ => cvR F c_ (atI xs i) w0 l) 100).1), un1 u_.2 ((setC F (fun c_ => cvR F c_ (atI xs i) w0 l) 100).2)), ((putS (m_.1, m_.2) (atI xs i)).1, (putS (m_.1, m_.2) (atI xs i)).2), rfl, ?_, ?_, ?_, ?_, H10, hbx, B1, B2, B3, B4, B5, exJ (by kernel_rfl)⟩
             · omega
             · omega
             · exact us_s hU
             · exact mt_s hM (by assumption)
             · intro j hj
               rcases (by omega : j < i ∨ j = i) with h_ | h_
               · exact hall j h_
               · subst h_; exact okN_t hM hU (by assumption) (by first | assumption | exact beqF (by assumption)) (by assumption) (by assumption)
     · skip
       refine wbl 32 true (bnF h3) ?_
       refine wsk ?_
       refine wsk ?_
       refine wsk ?_
       refine wsk ?_
       refine wsk ?_
       refine wv (.bool true) ?_
       refine wv (.bool true) ?_
       refine wsk ?_
       refine wsk ?_
       refine wsk ?_
       refine wv (.bool true) ?_
       refine wpList_nil (then_normal ?_)
       refine wct ?_
       refine wsr ?_
       refine wv (.bool false) ?_
       refine wv (.int .i64 0) ?_
       refine wpList_nil (then_normal ?_)
       refine wp_ret ?_
       refine then_ret (block_ret (then_ret (then_ret (block_ret (then_ret ?_)))))
       refine ret2 (.bool (caB F w0 l xs)) (.int .i64 (code F (inB w0 1 1000 && inB l 1 1000))) rfl ?_ ?_ rfl ?_
       · refine (resT (v := .bool false) (by kernel_rfl)).trans ?_
         refine congrArg Value.bool ?_
         first | exact (caB_n (by assumption)).symm | exact (caB_1 (i := i) (by omega) (by assumption)).symm | exact (caB_2 (i := i) (by omega) (by assumption)).symm | exact (caB_2 (i := i) (by omega) (beqT (by assumption))).symm | exact (caB_3 (i := i) (by omega) hM (by assumption) (by assumption)).symm | exact (caB_4 (i := i) (by omega) hU (by assumption)).symm | exact (caB_t (by assumption) (fun j hj => hall j (by omega))).symm
       · refine (resT (v := .int .i64 0) (by kernel_rfl)).trans ?_
         refine congrArg (Value.int _) ?_
         first | (rw [if_pos (by assumption)]; done) | (rw [if_neg (by assumption)]; done) | rfl | assumption | (symm; assumption)
       exact ⟨rfl, H6⟩
   · skip
     have h2d := dF h2
     refine wp_exit ?_
     refine then_exit ?_
     refine then_exit ?_
     refine block_exit ?_
     refine then_normal ?_
     refine wsr ?_
     refine wv (.bool true) ?_
     refine wv (.int .i64 0) ?_
     refine wpList_nil (then_normal ?_)
     refine wp_ret ?_
     refine ret2 (.bool (caB F w0 l xs)) (.int .i64 (code F (inB w0 1 1000 && inB l 1 1000))) rfl ?_ ?_ rfl ?_
     · refine (resT (v := .bool true) (by kernel_rfl)).trans ?_
       refine congrArg Value.bool ?_
       first | exact (caB_n (by assumption)).symm | exact (caB_1 (i := i) (by omega) (by assumption)).symm | exact (caB_2 (i := i) (by omega) (by assumption)).symm | exact (caB_2 (i := i) (by omega) (beqT (by assumption))).symm | exact (caB_3 (i := i) (by omega) hM (by assumption) (by assumption)).symm | exact (caB_4 (i := i) (by omega) hU (by assumption)).symm | exact (caB_t (by assumption) (fun j hj => hall j (by omega))).symm
     · refine (resT (v := .int .i64 0) (by kernel_rfl)).trans ?_
       refine congrArg (Value.int _) ?_
       first | (rw [if_pos (by assumption)]; done) | (rw [if_neg (by assumption)]; done) | rfl | assumption | (symm; assumption)
     exact ⟨rfl, HL1⟩


--# sCheckApart_any
theorem sCheckApart_any (F : Fld) (hF : F.wf) (w0 : Int) (l : Int) (xs : List Int) (n bx cap : Nat) (cs : Array Value) (hS : SlI cs n cap .i64 xs) (hn : n ≤ 1048576) (w : World) (hbx : Blk w bx 2 cs) :
 Calls Try.prog 35 #[.agg F.cells, .int .i64 w0, .int .i64 l, .slice (some ⟨bx, 0, none⟩) n cap] w fun e w' => e = .returned (.tuple #[.bool (caB F w0 l xs), .int .i64 (code F (inB w0 1 1000 && inB l 1 1000))]) ∧ Ext w w' := by
 have hn_ := hS.len
 refine calls_of_wp Try.func35 rfl ?_
 refine wp_frame (a' := ⟨#[.agg F.cells, .int .i64 w0, .int .i64 l, .slice (some ⟨bx, 0, none⟩) n cap, undef, undef, undef, undef, undef, undef, undef, undef, undef, undef, undef, undef, undef, undef, undef, undef, undef, undef, undef, undef, undef, undef, undef, undef, undef, undef, undef, undef, undef, undef, undef, undef, undef, undef, undef, undef, undef, undef, undef, undef, undef, undef, undef, undef, undef, undef, undef, undef, undef, undef, undef, undef, undef, undef, undef, undef, undef, undef, undef, undef, undef], []⟩) (by kernel_rfl) ?_
 refine wsr ?_
 refine wbox F.cells ?_
 intro g1 w1 B1 E1 _
 refine wv (.bool false) ?_
 refine wv (.int .i64 0) ?_
 refine wpList_nil (then_normal ?_)
 refine wp_seq ?_
 refine wsr ?_
 refine wv (.int .i64 w0) ?_
 refine wv (.int .i64 l) ?_
 refine wcl (l03Game_any F hF g1 _ w0 l _ B1) ?_
 intro w2 E2
 refine wv (.int .i64 (code F (inB w0 1 1000 && inB l 1 1000))) ?_
 refine wpList_nil (then_normal ?_)
 refine wsr ?_
 refine wv (.int .i64 (code F (inB w0 1 1000 && inB l 1 1000))) ?_
 refine wv (.bool ((code F (inB w0 1 1000 && inB l 1 1000)) != 0)) ?_
 refine wpList_nil (then_normal ?_)
 have H1 := ((Ext.refl w).trans E1).trans E2
 refine wsplit ((code F (inB w0 1 1000 && inB l 1 1000)) != 0) (fun h1 => ?_) (fun h1 => ?_)
 · skip
   have h1d := nT h1
   refine wsr ?_
   refine wv (.int .i64 (code F (inB w0 1 1000 && inB l 1 1000))) ?_
   refine wv (.bool false) ?_
   refine wv (.int .i64 (code F (inB w0 1 1000 && inB l 1 1000))) ?_
   refine wpList_nil (then_normal ?_)
   refine wp_ret ?_
   refine then_ret ?_
   refine ret2 (.bool (caB F w0 l xs)) (.int .i64 (code F (inB w0 1 1000 && inB l 1 1000))) rfl ?_ ?_ rfl ?_
   · refine (resT (v := .bool false) (by kernel_rfl)).trans ?_
     refine congrArg Value.bool ?_
     first | exact (caB_n (by assumption)).symm | exact (caB_s (i := i) (by omega) (by assumption)).symm | exact (caB_d' (i := i) (by omega) (by assumption)).symm | exact (caB_5 (i := i2) (by omega) (k := k_) (by omega) (by assumption)).symm | exact (caB_t (by assumption) (fun j hj => okN_u (hA j (by omega)) (fun k hk => hB j (by omega) k hk))).symm
   · exact resT (by kernel_rfl)
   exact ⟨rfl, H1⟩
 · skip
   have h1d := nF h1
   have h1o := (code_zero h1d).1
   have h1z := (code_zero h1d).2
   obtain ⟨h1za, h1zb⟩ := andT h1z
   have h1zad := inT h1za
   have h1zbd := inT h1zb
   refine wp_skip ?_
   refine then_normal ?_
   refine wp_seq ?_
   refine wsr ?_
   refine wv (.int .i64 0) ?_
   refine wpList_nil (then_normal ?_)
   refine wp_block ?_
   replace hbx := (hbx.ext E1).ext E2
   replace B1 := B1.ext E2
   refine wp_loop_k (fun m1 a wl1 => ∃ (i : Nat), m1 = n - i ∧ i ≤ n ∧ (∀ j, j < i → slB F (atI xs j) = true ∧ hasN xs (atI xs j) j = false) ∧ Ext w wl1 ∧ Blk wl1 bx 2 cs ∧ Blk wl1 g1 50 F.cells ∧ (∃ J1 : Nat → Value, a = ⟨#[.agg F.cells, .int .i64 w0, .int .i64 l, .slice (some ⟨bx, 0, none⟩) n cap, .pointer (some ⟨g1, 0, none⟩), undef, undef, undef, J1 8, J1 9, .int .i64 (code F (inB w0 1 1000 && inB l 1 1000)), .int .i64 (i : Int), undef, undef, .int .i64 w0, .int .i64 l, .int .i64 (code F (inB w0 1 1000 && inB l 1 1000)), .int .i64 (code F (inB w0 1 1000 && inB l 1 1000)), .bool ((code F (inB w0 1 1000 && inB l 1 1000)) != 0), undef, J1 20, J1 21, J1 22, J1 23, J1 24, J1 25, J1 26, J1 27, J1 28, J1 29, J1 30, J1 31, J1 32, J1 33, J1 34, J1 35, J1 36, J1 37, J1 38, J1 39, J1 40, J1 41, undef, undef, undef, undef, undef, undef, undef, undef, undef, undef, undef, undef, undef, undef, undef, undef, undef, undef, undef, undef, undef, undef, undef], []⟩)) (n) ?_ ?_
   · refine ⟨0, rfl, ?_, ?_, H1, hbx, B1, exJ (by kernel_rfl)⟩
     · omega
     · intro j hj; omega
   intro m1 a wl1 hI
   obtain ⟨i, rfl, hi_, hA, HL1, hbx, B1, J1, rfl⟩ := hI
   refine wp_seq ?_
   refine wsr ?_
   refine wv (.int .i64 (i : Int)) ?_
   refine wv (.slice (some ⟨bx, 0, none⟩) n cap) ?_
   refine wv (.int .i64 (n : Int)) ?_
   refine wv (.bool (decide ((i : Int) < (n : Int)))) ?_
   refine wpList_nil (then_normal ?_)
   refine wsplit (decide ((i : Int) < (n : Int))) (fun h2 => ?_) (fun h2 => ?_)
   · skip
     have h2d := dT h2
     refine wp_skip ?_
     refine then_normal ?_
     refine wp_seq ?_
     refine wp_block ?_
     refine wp_seq ?_
     refine wp_frame (a' := ⟨#[.agg F.cells, .int .i64 w0, .int .i64 l, .slice (some ⟨bx, 0, none⟩) n cap, .pointer (some ⟨g1, 0, none⟩), undef, undef, undef, J1 8, J1 9, .int .i64 (code F (inB w0 1 1000 && inB l 1 1000)), .int .i64 (i : Int), undef, undef, .int .i64 w0, .int .i64 l, .int .i64 (code F (inB w0 1 1000 && inB l 1 1000)), .int .i64 (code F (inB w0 1 1000 && inB l 1 1000)), .bool ((code F (inB w0 1 1000 && inB l 1 1000)) != 0), undef, .int .i64 (i : Int), .slice (some ⟨bx, 0, none⟩) n cap, .int .i64 (n : Int), .bool (decide ((i : Int) < (n : Int))), J1 24, J1 25, J1 26, J1 27, J1 28, J1 29, J1 30, J1 31, J1 32, J1 33, J1 34, J1 35, J1 36, J1 37, J1 38, J1 39, J1 40, J1 41, undef, undef, undef, undef, undef, undef, undef, undef, undef, undef, undef, undef, undef, undef, undef, undef, undef, undef, undef, undef, undef, undef, undef], []⟩) (by kernel_rfl) ?_
     refine split_bool (isB F (atI xs i) && (F.k (atI xs i).toNat == 0)) (fun h3 => ?_) (fun h3 => ?_)
     · skip
       obtain ⟨h3a, h3b⟩ := andT h3
       have h3ad := isB_true.1 h3a
       have h3bd := eT h3b
       refine region_go 16 [26, 27, 28, 29, 30, 31, 32, 33, 34, 35, 36, 37, 38, 39, 40, 41] [[], [], [0, 1], [2], [3], [4], [5], [6], [6], [6, 7, 8], [6], [6], [6, 10, 11], [6, 12], [6, 9, 13], [6, 14]]
        (fun i_ => ([.val (.slice (some ⟨bx, 0, none⟩) n cap), .val (.int .i64 (i : Int)), .val (.pointer (some ⟨bx, 0 + i, none⟩)), .val (.int .i64 (atI xs i)), .val (.bool true), .val (.bool false), .val (.bool false), .val (.slice (some ⟨bx, 0, none⟩) n cap), .val (.int .i64 (i : Int)), .val (.slice (some ⟨bx, 0, none⟩) i cap), .val (.slice (some ⟨bx, 0, none⟩) n cap), .val (.int .i64 (i : Int)), .val (.pointer (some ⟨bx, 0 + i, none⟩)), .val (.int .i64 (atI xs i)), .val (.bool (hasN ((xs).take i) (atI xs i) i)), .val (.bool (hasN ((xs).take i) (atI xs i) i))] : List Fct).getD i_ .any)
        (by kernel_rfl) (by kernel_rfl) (by decide) (by simp) rfl (all_succ (all_succ (all_succ (all_succ (all_succ (all_succ (all_succ (all_succ (all_succ (all_succ (all_succ (all_succ (all_succ (all_succ (all_succ (all_succ all_zero ?_) ?_) ?_) ?_) ?_) ?_) ?_) ?_) ?_) ?_) ?_) ?_) ?_) ?_) ?_) ?_) ?_
       · refine step0 rfl rfl rfl (fun wr hw => ?_)
         exact OpRun.val (.slice (some ⟨bx, 0, none⟩) n cap) (.slice (some ⟨bx, 0, none⟩) n cap) (by kernel_rfl) rfl ⟨Ext.refl _, rfl⟩
       · refine step0 rfl rfl rfl (fun wr hw => ?_)
         exact OpRun.val (.int .i64 (i : Int)) (.int .i64 (i : Int)) (by kernel_rfl) rfl ⟨Ext.refl _, rfl⟩
       · refine step2 rfl rfl rfl rfl rfl (fun u0 u1 wr hw h0 h1 => ?_)
         cases h0
         cases h1
         exact OpRun.six1 (i := i) (k := .i64) (g := bx) (off := 0) (n := n) (cap := cap) slit__int64 rfl (by kernel_rfl) (by kernel_rfl) (by omega) ⟨Ext.refl _, rfl⟩
       · refine step1 rfl rfl rfl rfl (fun u0 wr hw h0 => ?_)
         cases h0
         exact OpRun.cell (g := bx) (off := 0 + i) (v := .int .i64 (atI xs i)) scal_int64 rfl (by kernel_rfl) ((hbx.ext hw).get (SlI.get hS (by omega))) ⟨Ext.refl _, rfl⟩
       · refine step1 rfl rfl rfl rfl (fun u0 wr hw h0 => ?_)
         cases h0
         exact OpRun.call 76 #[.pointer (some ⟨g1, 0, none⟩), .int .i64 (atI xs i)] (by kernel_rfl) ((l03Soil_any F hF g1 _ (atI xs i) _ (B1.ext hw)).mono fun e w1 ⟨he, hb⟩ => ⟨_, he, hb, congrArg Value.bool h3⟩)
       · refine step1 rfl rfl rfl rfl (fun u0 wr hw h0 => ?_)
         cases h0
         exact OpRun.val (.bool false) (.bool false) (by kernel_rfl) rfl ⟨Ext.refl _, rfl⟩
       · refine step1 rfl rfl rfl rfl (fun u0 wr hw h0 => ?_)
         cases h0
         exact OpRun.val (.bool false) (.bool false) (by kernel_rfl) rfl ⟨Ext.refl _, rfl⟩
       · refine gstep1 rfl rfl rfl rfl (fun u wr h => by cases h; rfl) (fun u0 wr hw h0 => ?_)
         cases h0
         exact OpRun.val (.slice (some ⟨bx, 0, none⟩) n cap) (.slice (some ⟨bx, 0, none⟩) n cap) (by kernel_rfl) rfl ⟨Ext.refl _, rfl⟩
       · refine gstep1 rfl rfl rfl rfl (fun u wr h => by cases h; rfl) (fun u0 wr hw h0 => ?_)
         cases h0
         exact OpRun.val (.int .i64 (i : Int)) (.int .i64 (i : Int)) (by kernel_rfl) rfl ⟨Ext.refl _, rfl⟩
       · refine gstep3 rfl rfl rfl rfl rfl rfl (fun u wr h => by cases h; rfl) (fun u0 u1 u2 wr hw h0 h1 h2 => ?_)
         cases h0
         cases h1
         cases h2
         exact OpRun.sliceH (g := bx) (n := n) (cap := cap) (m := i) (k := .i64) slit__int64 rfl (by kernel_rfl) (by kernel_rfl) (Nat.le_trans (show i ≤ n by omega) (SlO.nc hS)) ⟨Ext.refl _, rfl⟩
       · refine gstep1 rfl rfl rfl rfl (fun u wr h => by cases h; rfl) (fun u0 wr hw h0 => ?_)
         cases h0
         exact OpRun.val (.slice (some ⟨bx, 0, none⟩) n cap) (.slice (some ⟨bx, 0, none⟩) n cap) (by kernel_rfl) rfl ⟨Ext.refl _, rfl⟩
       · refine gstep1 rfl rfl rfl rfl (fun u wr h => by cases h; rfl) (fun u0 wr hw h0 => ?_)
         cases h0
         exact OpRun.val (.int .i64 (i : Int)) (.int .i64 (i : Int)) (by kernel_rfl) rfl ⟨Ext.refl _, rfl⟩
       · refine gstep3 rfl rfl rfl rfl rfl rfl (fun u wr h => by cases h; rfl) (fun u0 u1 u2 wr hw h0 h1 h2 => ?_)
         cases h0
         cases h1
         cases h2
         exact OpRun.six1 (i := i) (k := .i64) (g := bx) (off := 0) (n := n) (cap := cap) slit__int64 rfl (by kernel_rfl) (by kernel_rfl) (by omega) ⟨Ext.refl _, rfl⟩
       · refine gstep2 rfl rfl rfl rfl rfl (fun u wr h => by cases h; rfl) (fun u0 u1 wr hw h0 h1 => ?_)
         cases h0
         cases h1
         exact OpRun.cell (g := bx) (off := 0 + i) (v := .int .i64 (atI xs i)) scal_int64 rfl (by kernel_rfl) ((hbx.ext hw).get (SlI.get hS (by omega))) ⟨Ext.refl _, rfl⟩
       · refine gstep3 rfl rfl rfl rfl rfl rfl (fun u wr h => by cases h; rfl) (fun u0 u1 u2 wr hw h0 h1 h2 => ?_)
         cases h0
         cases h1
         cases h2
         exact OpRun.call 77 #[.slice (some ⟨bx, 0, none⟩) i cap, .int .i64 (atI xs i)] (by kernel_rfl) ((l00Has_any ((xs).take i) i bx cap cs (SlI.take hS (m := i) (by omega)) (atI xs i) (by omega) _ (hbx.ext hw)).mono fun e w1 ⟨he, hb⟩ => ⟨_, he, hb, rfl⟩)
       · refine step2 rfl rfl rfl rfl rfl (fun u0 u1 wr hw h0 h1 => ?_)
         cases h0
         cases h1
         exact OpRun.val (.bool (hasN ((xs).take i) (atI xs i) i)) (.bool (hasN ((xs).take i) (atI xs i) i)) (by kernel_rfl) rfl ⟨Ext.refl _, rfl⟩
       refine end16 (fun u0 u1 u2 u3 u4 u5 u6 u7 u8 u9 u10 u11 u12 u13 u14 u15 w3 E3 f0 f1 f2 f3 f4 f5 f6 f7 f8 f9 f10 f11 f12 f13 f14 f15 => ?_)
       cases f0
       cases f1
       cases f2
       cases f3
       cases f4
       cases f5
       cases f6
       cases f7
       cases f8
       cases f9
       cases f10
       cases f11
       cases f12
       cases f13
       cases f14
       cases f15
       refine wpList_nil (then_normal ?_)
       refine wsplit (hasN ((xs).take i) (atI xs i) i) (fun h4 => ?_) (fun h4 => ?_)
       · skip
         refine wsr ?_
         refine wv (.bool false) ?_
         refine wv (.int .i64 0) ?_
         refine wpList_nil (then_normal ?_)
         refine wp_ret ?_
         refine block_ret (then_ret (then_ret (block_ret (then_ret ?_))))
         have H2 := HL1.trans E3
         refine ret2 (.bool (caB F w0 l xs)) (.int .i64 (code F (inB w0 1 1000 && inB l 1 1000))) rfl ?_ ?_ rfl ?_
         · refine (resT (v := .bool false) (by kernel_rfl)).trans ?_
           refine congrArg Value.bool ?_
           first | exact (caB_n (by assumption)).symm | exact (caB_s (i := i) (by omega) (by assumption)).symm | exact (caB_d' (i := i) (by omega) (by assumption)).symm | exact (caB_5 (i := i2) (by omega) (k := k_) (by omega) (by assumption)).symm | exact (caB_t (by assumption) (fun j hj => okN_u (hA j (by omega)) (fun k hk => hB j (by omega) k hk))).symm
         · refine (resT (v := .int .i64 0) (by kernel_rfl)).trans ?_
           refine congrArg (Value.int _) ?_
           first | (rw [if_pos (by assumption)]; done) | (rw [if_neg (by assumption)]; done) | rfl | assumption | (symm; assumption)
         exact ⟨rfl, H2⟩
       · skip
         refine wp_skip ?_
         refine block_normal (then_normal ?_)
         refine wp_region_lit ?_
         refine wv (.int .i64 (i : Int)) ?_
         refine wi64 ((i : Int) + 1) ?_
         refine wv (.int .i64 ((i : Int) + 1)) ?_
         refine wpList_nil (then_normal ?_)
         replace hbx := hbx.ext E3
         replace B1 := B1.ext E3
         have H3 := HL1.trans E3
         refine ⟨_, ?_, i + 1, rfl, ?_, ?_, H3, hbx, B1, exJ (by kernel_rfl)⟩
         · omega
         · omega
         · intro j hj
           rcases (by omega : j < i ∨ j = i) with h_ | h_
           · exact hA j h_
           · subst h_; exact slB_h (by assumption) (by assumption)
     · skip
       refine region_go 16 [26, 27, 28, 29, 30, 31, 32, 33, 34, 35, 36, 37, 38, 39, 40, 41] [[], [], [0, 1], [2], [3], [4], [5], [6], [6], [6, 7, 8], [6], [6], [6, 10, 11], [6, 12], [6, 9, 13], [6, 14]]
        (fun i_ => ([.val (.slice (some ⟨bx, 0, none⟩) n cap), .val (.int .i64 (i : Int)), .val (.pointer (some ⟨bx, 0 + i, none⟩)), .val (.int .i64 (atI xs i)), .val (.bool false), .val (.bool true), .val (.bool true), .val undef, .val undef, .val undef, .val undef, .val undef, .val undef, .val undef, .val undef, .val (.bool true)] : List Fct).getD i_ .any)
        (by kernel_rfl) (by kernel_rfl) (by decide) (by simp) rfl (all_succ (all_succ (all_succ (all_succ (all_succ (all_succ (all_succ (all_succ (all_succ (all_succ (all_succ (all_succ (all_succ (all_succ (all_succ (all_succ all_zero ?_) ?_) ?_) ?_) ?_) ?_) ?_) ?_) ?_) ?_) ?_) ?_) ?_) ?_) ?_) ?_) ?_
       · refine step0 rfl rfl rfl (fun wr hw => ?_)
         exact OpRun.val (.slice (some ⟨bx, 0, none⟩) n cap) (.slice (some ⟨bx, 0, none⟩) n cap) (by kernel_rfl) rfl ⟨Ext.refl _, rfl⟩
       · refine step0 rfl rfl rfl (fun wr hw => ?_)
         exact OpRun.val (.int .i64 (i : Int)) (.int .i64 (i : Int)) (by kernel_rfl) rfl ⟨Ext.refl _, rfl⟩
       · refine step2 rfl rfl rfl rfl rfl (fun u0 u1 wr hw h0 h1 => ?_)
         cases h0
         cases h1
         exact OpRun.six1 (i := i) (k := .i64) (g := bx) (off := 0) (n := n) (cap := cap) slit__int64 rfl (by kernel_rfl) (by kernel_rfl) (by omega) ⟨Ext.refl _, rfl⟩
       · refine step1 rfl rfl rfl rfl (fun u0 wr hw h0 => ?_)
         cases h0
         exact OpRun.cell (g := bx) (off := 0 + i) (v := .int .i64 (atI xs i)) scal_int64 rfl (by kernel_rfl) ((hbx.ext hw).get (SlI.get hS (by omega))) ⟨Ext.refl _, rfl⟩
       · refine step1 rfl rfl rfl rfl (fun u0 wr hw h0 => ?_)
         cases h0
         exact OpRun.call 76 #[.pointer (some ⟨g1, 0, none⟩), .int .i64 (atI xs i)] (by kernel_rfl) ((l03Soil_any F hF g1 _ (atI xs i) _ (B1.ext hw)).mono fun e w1 ⟨he, hb⟩ => ⟨_, he, hb, congrArg Value.bool h3⟩)
       · refine step1 rfl rfl rfl rfl (fun u0 wr hw h0 => ?_)
         cases h0
         exact OpRun.val (.bool true) (.bool true) (by kernel_rfl) rfl ⟨Ext.refl _, rfl⟩
       · refine step1 rfl rfl rfl rfl (fun u0 wr hw h0 => ?_)
         cases h0
         exact OpRun.val (.bool true) (.bool true) (by kernel_rfl) rfl ⟨Ext.refl _, rfl⟩
       · refine skip_ rfl rfl rfl (fun u wr h => by cases h; rfl) (fun _ => rfl)
       · refine skip_ rfl rfl rfl (fun u wr h => by cases h; rfl) (fun _ => rfl)
       · refine skip_ rfl rfl rfl (fun u wr h => by cases h; rfl) (fun _ => rfl)
       · refine skip_ rfl rfl rfl (fun u wr h => by cases h; rfl) (fun _ => rfl)
       · refine skip_ rfl rfl rfl (fun u wr h => by cases h; rfl) (fun _ => rfl)
       · refine skip_ rfl rfl rfl (fun u wr h => by cases h; rfl) (fun _ => rfl)
       · refine skip_ rfl rfl rfl (fun u wr h => by cases h; rfl) (fun _ => rfl)
       · refine skip_ rfl rfl rfl (fun u wr h => by cases h; rfl) (fun _ => rfl)
       · refine step2 rfl rfl rfl rfl rfl (fun u0 u1 wr hw h0 h1 => ?_)
         cases h0
         cases h1
         exact OpRun.val (.bool true) (.bool true) (by kernel_rfl) rfl ⟨Ext.refl _, rfl⟩
       refine end16 (fun u0 u1 u2 u3 u4 u5 u6 u7 u8 u9 u10 u11 u12 u13 u14 u15 w4 E4 f0 f1 f2 f3 f4 f5 f6 f7 f8 f9 f10 f11 f12 f13 f14 f15 => ?_)
       cases f0
       cases f1
       cases f2
       cases f3
       cases f4
       cases f5
       cases f6
       cases f7
       cases f8
       cases f9
       cases f10
       cases f11
       cases f12
       cases f13
       cases f14
       cases f15
       refine wpList_nil (then_normal ?_)
       refine wct ?_
       refine wsr ?_
       refine wv (.bool false) ?_
       refine wv (.int .i64 0) ?_
       refine wpList_nil (then_normal ?_)
       refine wp_ret ?_
       refine block_ret (then_ret (then_ret (block_ret (then_ret ?_))))
       have H4 := HL1.trans E4
       refine ret2 (.bool (caB F w0 l xs)) (.int .i64 (code F (inB w0 1 1000 && inB l 1 1000))) rfl ?_ ?_ rfl ?_
       · refine (resT (v := .bool false) (by kernel_rfl)).trans ?_
         refine congrArg Value.bool ?_
         first | exact (caB_n (by assumption)).symm | exact (caB_s (i := i) (by omega) (by assumption)).symm | exact (caB_d' (i := i) (by omega) (by assumption)).symm | exact (caB_5 (i := i2) (by omega) (k := k_) (by omega) (by assumption)).symm | exact (caB_t (by assumption) (fun j hj => okN_u (hA j (by omega)) (fun k hk => hB j (by omega) k hk))).symm
       · refine (resT (v := .int .i64 0) (by kernel_rfl)).trans ?_
         refine congrArg (Value.int _) ?_
         first | (rw [if_pos (by assumption)]; done) | (rw [if_neg (by assumption)]; done) | rfl | assumption | (symm; assumption)
       exact ⟨rfl, H4⟩
   · skip
     have h2d := dF h2
     refine wp_exit ?_
     refine then_exit ?_
     refine then_exit ?_
     refine block_exit ?_
     refine then_normal ?_
     refine wp_seq ?_
     refine wsr ?_
     refine wv (.int .i64 0) ?_
     refine wpList_nil (then_normal ?_)
     refine wp_block ?_
     refine wp_loop_k (fun m2 a wl2 => ∃ (i2 : Nat), m2 = n - i2 ∧ i2 ≤ n ∧ (∀ j, j < i2 → ∀ k, k < j → apB F w0 l (atI xs k) (atI xs j) = true) ∧ Ext w wl2 ∧ Blk wl2 bx 2 cs ∧ Blk wl2 g1 50 F.cells ∧ (∃ J2 : Nat → Value, a = ⟨#[.agg F.cells, .int .i64 w0, .int .i64 l, .slice (some ⟨bx, 0, none⟩) n cap, .pointer (some ⟨g1, 0, none⟩), undef, undef, undef, J2 8, J2 9, .int .i64 (code F (inB w0 1 1000 && inB l 1 1000)), .int .i64 (i : Int), .int .i64 (i2 : Int), J2 13, .int .i64 w0, .int .i64 l, .int .i64 (code F (inB w0 1 1000 && inB l 1 1000)), .int .i64 (code F (inB w0 1 1000 && inB l 1 1000)), .bool ((code F (inB w0 1 1000 && inB l 1 1000)) != 0), undef, .int .i64 (i : Int), .slice (some ⟨bx, 0, none⟩) n cap, .int .i64 (n : Int), .bool (decide ((i : Int) < (n : Int))), J1 24, J1 25, J1 26, J1 27, J1 28, J1 29, J1 30, J1 31, J1 32, J1 33, J1 34, J1 35, J1 36, J1 37, J1 38, J1 39, J1 40, J1 41, J2 42, J2 43, J2 44, J2 45, J2 46, J2 47, J2 48, J2 49, J2 50, J2 51, J2 52, J2 53, J2 54, J2 55, J2 56, J2 57, J2 58, J2 59, J2 60, J2 61, J2 62, J2 63, J2 64], []⟩)) (n) ?_ ?_
     · refine ⟨0, rfl, ?_, ?_, HL1, hbx, B1, exJ (by kernel_rfl)⟩
       · omega
       · intro j hj; omega
     intro m2 a wl2 hI
     obtain ⟨i2, rfl, hi_, hB, HL2, hbx, B1, J2, rfl⟩ := hI
     refine wp_seq ?_
     refine wsr ?_
     refine wv (.int .i64 (i2 : Int)) ?_
     refine wv (.slice (some ⟨bx, 0, none⟩) n cap) ?_
     refine wv (.int .i64 (n : Int)) ?_
     refine wv (.bool (decide ((i2 : Int) < (n : Int)))) ?_
     refine wpList_nil (then_normal ?_)
     refine wsplit (decide ((i2 : Int) < (n : Int))) (fun h5 => ?_) (fun h5 => ?_)
     · skip
       have h5d := dT h5
       refine wp_skip ?_
       refine then_normal ?_
       refine wp_seq ?_
       refine wp_block ?_
       refine wsr ?_
       refine wv (.int .i64 0) ?_
       refine wpList_nil (then_normal ?_)
       refine wp_block ?_
       refine wp_loop_k (fun m3 a wl3 => ∃ (k_ : Nat), m3 = i2 - k_ ∧ k_ ≤ i2 ∧ (∀ j, j < k_ → apB F w0 l (atI xs j) (atI xs i2) = true) ∧ Ext w wl3 ∧ Blk wl3 bx 2 cs ∧ Blk wl3 g1 50 F.cells ∧ (∃ J3 : Nat → Value, a = ⟨#[.agg F.cells, .int .i64 w0, .int .i64 l, .slice (some ⟨bx, 0, none⟩) n cap, .pointer (some ⟨g1, 0, none⟩), undef, undef, undef, J3 8, J3 9, .int .i64 (code F (inB w0 1 1000 && inB l 1 1000)), .int .i64 (i : Int), .int .i64 (i2 : Int), .int .i64 (k_ : Int), .int .i64 w0, .int .i64 l, .int .i64 (code F (inB w0 1 1000 && inB l 1 1000)), .int .i64 (code F (inB w0 1 1000 && inB l 1 1000)), .bool ((code F (inB w0 1 1000 && inB l 1 1000)) != 0), undef, .int .i64 (i : Int), .slice (some ⟨bx, 0, none⟩) n cap, .int .i64 (n : Int), .bool (decide ((i : Int) < (n : Int))), J1 24, J1 25, J1 26, J1 27, J1 28, J1 29, J1 30, J1 31, J1 32, J1 33, J1 34, J1 35, J1 36, J1 37, J1 38, J1 39, J1 40, J1 41, .int .i64 (i2 : Int), .slice (some ⟨bx, 0, none⟩) n cap, .int .i64 (n : Int), .bool (decide ((i2 : Int) < (n : Int))), J2 46, J2 47, J3 48, J3 49, J3 50, J3 51, J3 52, J3 53, J3 54, J3 55, J3 56, J3 57, J3 58, J3 59, J3 60, J3 61, J3 62, J3 63, J3 64], []⟩)) (i2) ?_ ?_
       · refine ⟨0, rfl, ?_, ?_, HL2, hbx, B1, exJ (by kernel_rfl)⟩
         · omega
         · intro j hj; omega
       intro m3 a wl3 hI
       obtain ⟨k_, rfl, hi_, hC, HL3, hbx, B1, J3, rfl⟩ := hI
       refine wp_seq ?_
       refine wsr ?_
       refine wv (.int .i64 (k_ : Int)) ?_
       refine wv (.int .i64 (i2 : Int)) ?_
       refine wv (.bool (decide ((k_ : Int) < (i2 : Int)))) ?_
       refine wpList_nil (then_normal ?_)
       refine wsplit (decide ((k_ : Int) < (i2 : Int))) (fun h6 => ?_) (fun h6 => ?_)
       · skip
         have h6d := dT h6
         refine wp_skip ?_
         refine then_normal ?_
         refine wp_seq ?_
         refine wp_block ?_
         refine wp_seq ?_
         refine wp_frame (a' := ⟨#[.agg F.cells, .int .i64 w0, .int .i64 l, .slice (some ⟨bx, 0, none⟩) n cap, .pointer (some ⟨g1, 0, none⟩), undef, undef, undef, J3 8, J3 9, .int .i64 (code F (inB w0 1 1000 && inB l 1 1000)), .int .i64 (i : Int), .int .i64 (i2 : Int), .int .i64 (k_ : Int), .int .i64 w0, .int .i64 l, .int .i64 (code F (inB w0 1 1000 && inB l 1 1000)), .int .i64 (code F (inB w0 1 1000 && inB l 1 1000)), .bool ((code F (inB w0 1 1000 && inB l 1 1000)) != 0), undef, .int .i64 (i : Int), .slice (some ⟨bx, 0, none⟩) n cap, .int .i64 (n : Int), .bool (decide ((i : Int) < (n : Int))), J1 24, J1 25, J1 26, J1 27, J1 28, J1 29, J1 30, J1 31, J1 32, J1 33, J1 34, J1 35, J1 36, J1 37, J1 38, J1 39, J1 40, J1 41, .int .i64 (i2 : Int), .slice (some ⟨bx, 0, none⟩) n cap, .int .i64 (n : Int), .bool (decide ((i2 : Int) < (n : Int))), J2 46, J2 47, .int .i64 (k_ : Int), .int .i64 (i2 : Int), .bool (decide ((k_ : Int) < (i2 : Int))), J3 51, J3 52, J3 53, J3 54, J3 55, J3 56, J3 57, J3 58, J3 59, J3 60, J3 61, J3 62, J3 63, J3 64], []⟩) (by kernel_rfl) ?_
         refine region_go 12 [53, 54, 55, 56, 57, 58, 59, 60, 61, 62, 63, 64] [[], [], [0, 1], [2], [], [], [4, 5], [6], [], [], [3, 7, 8, 9], [10]]
          (fun i_ => ([.val (.slice (some ⟨bx, 0, none⟩) n cap), .val (.int .i64 (k_ : Int)), .val (.pointer (some ⟨bx, 0 + k_, none⟩)), .val (.int .i64 (atI xs k_)), .val (.slice (some ⟨bx, 0, none⟩) n cap), .val (.int .i64 (i2 : Int)), .val (.pointer (some ⟨bx, 0 + i2, none⟩)), .val (.int .i64 (atI xs i2)), .val (.int .i64 w0), .val (.int .i64 l), .val (.bool (apB F w0 l (atI xs k_) (atI xs i2))), .val (.bool (!(apB F w0 l (atI xs k_) (atI xs i2))))] : List Fct).getD i_ .any)
          (by kernel_rfl) (by kernel_rfl) (by decide) (by simp) rfl (all_succ (all_succ (all_succ (all_succ (all_succ (all_succ (all_succ (all_succ (all_succ (all_succ (all_succ (all_succ all_zero ?_) ?_) ?_) ?_) ?_) ?_) ?_) ?_) ?_) ?_) ?_) ?_) ?_
         · refine step0 rfl rfl rfl (fun wr hw => ?_)
           exact OpRun.val (.slice (some ⟨bx, 0, none⟩) n cap) (.slice (some ⟨bx, 0, none⟩) n cap) (by kernel_rfl) rfl ⟨Ext.refl _, rfl⟩
         · refine step0 rfl rfl rfl (fun wr hw => ?_)
           exact OpRun.val (.int .i64 (k_ : Int)) (.int .i64 (k_ : Int)) (by kernel_rfl) rfl ⟨Ext.refl _, rfl⟩
         · refine step2 rfl rfl rfl rfl rfl (fun u0 u1 wr hw h0 h1 => ?_)
           cases h0
           cases h1
           exact OpRun.six1 (i := k_) (k := .i64) (g := bx) (off := 0) (n := n) (cap := cap) slit__int64 rfl (by kernel_rfl) (by kernel_rfl) (by omega) ⟨Ext.refl _, rfl⟩
         · refine step1 rfl rfl rfl rfl (fun u0 wr hw h0 => ?_)
           cases h0
           exact OpRun.cell (g := bx) (off := 0 + k_) (v := .int .i64 (atI xs k_)) scal_int64 rfl (by kernel_rfl) ((hbx.ext hw).get (SlI.get hS (by omega))) ⟨Ext.refl _, rfl⟩
         · refine step0 rfl rfl rfl (fun wr hw => ?_)
           exact OpRun.val (.slice (some ⟨bx, 0, none⟩) n cap) (.slice (some ⟨bx, 0, none⟩) n cap) (by kernel_rfl) rfl ⟨Ext.refl _, rfl⟩
         · refine step0 rfl rfl rfl (fun wr hw => ?_)
           exact OpRun.val (.int .i64 (i2 : Int)) (.int .i64 (i2 : Int)) (by kernel_rfl) rfl ⟨Ext.refl _, rfl⟩
         · refine step2 rfl rfl rfl rfl rfl (fun u0 u1 wr hw h0 h1 => ?_)
           cases h0
           cases h1
           exact OpRun.six1 (i := i2) (k := .i64) (g := bx) (off := 0) (n := n) (cap := cap) slit__int64 rfl (by kernel_rfl) (by kernel_rfl) (by omega) ⟨Ext.refl _, rfl⟩
         · refine step1 rfl rfl rfl rfl (fun u0 wr hw h0 => ?_)
           cases h0
           exact OpRun.cell (g := bx) (off := 0 + i2) (v := .int .i64 (atI xs i2)) scal_int64 rfl (by kernel_rfl) ((hbx.ext hw).get (SlI.get hS (by omega))) ⟨Ext.refl _, rfl⟩
         · refine step0 rfl rfl rfl (fun wr hw => ?_)
           exact OpRun.val (.int .i64 w0) (.int .i64 w0) (by kernel_rfl) rfl ⟨Ext.refl _, rfl⟩
         · refine step0 rfl rfl rfl (fun wr hw => ?_)
           exact OpRun.val (.int .i64 l) (.int .i64 l) (by kernel_rfl) rfl ⟨Ext.refl _, rfl⟩
         · refine step4 rfl rfl rfl rfl rfl rfl rfl (fun u0 u1 u2 u3 wr hw h0 h1 h2 h3 => ?_)
           cases h0
           cases h1
           cases h2
           cases h3
           exact OpRun.call 78 #[.pointer (some ⟨g1, 0, none⟩), .int .i64 (atI xs k_), .int .i64 (atI xs i2), .int .i64 w0, .int .i64 l] (by kernel_rfl) ((l03Apart_any F hF g1 _ (atI xs k_) (atI xs i2) w0 l (by first | exact ⟨slB_in (hA _ (by omega)).1, slB_in (hA _ (by omega)).1⟩ | exact ⟨by omega, by omega⟩) (by omega) _ (B1.ext hw)).mono fun e w1 ⟨he, hb⟩ => ⟨_, he, hb, rfl⟩)
         · refine step1 rfl rfl rfl rfl (fun u0 wr hw h0 => ?_)
           cases h0
           exact OpRun.val (.bool (!(apB F w0 l (atI xs k_) (atI xs i2)))) (.bool (!(apB F w0 l (atI xs k_) (atI xs i2)))) (by kernel_rfl) rfl ⟨Ext.refl _, rfl⟩
         refine end12 (fun u0 u1 u2 u3 u4 u5 u6 u7 u8 u9 u10 u11 w5 E5 f0 f1 f2 f3 f4 f5 f6 f7 f8 f9 f10 f11 => ?_)
         cases f0
         cases f1
         cases f2
         cases f3
         cases f4
         cases f5
         cases f6
         cases f7
         cases f8
         cases f9
         cases f10
         cases f11
         refine wpList_nil (then_normal ?_)
         refine wsplit (!(apB F w0 l (atI xs k_) (atI xs i2))) (fun h7 => ?_) (fun h7 => ?_)
         · skip
           replace h7 := nbT h7
           refine wsr ?_
           refine wv (.bool false) ?_
           refine wv (.int .i64 0) ?_
           refine wpList_nil (then_normal ?_)
           refine wp_ret ?_
           refine block_ret (then_ret (then_ret (block_ret (block_ret (then_ret (then_ret (block_ret (then_ret ?_))))))))
           have H5 := HL3.trans E5
           refine ret2 (.bool (caB F w0 l xs)) (.int .i64 (code F (inB w0 1 1000 && inB l 1 1000))) rfl ?_ ?_ rfl ?_
           · refine (resT (v := .bool false) (by kernel_rfl)).trans ?_
             refine congrArg Value.bool ?_
             first | exact (caB_n (by assumption)).symm | exact (caB_s (i := i) (by omega) (by assumption)).symm | exact (caB_d' (i := i) (by omega) (by assumption)).symm | exact (caB_5 (i := i2) (by omega) (k := k_) (by omega) (by assumption)).symm | exact (caB_t (by assumption) (fun j hj => okN_u (hA j (by omega)) (fun k hk => hB j (by omega) k hk))).symm
           · refine (resT (v := .int .i64 0) (by kernel_rfl)).trans ?_
             refine congrArg (Value.int _) ?_
             first | (rw [if_pos (by assumption)]; done) | (rw [if_neg (by assumption)]; done) | rfl | assumption | (symm; assumption)
           exact ⟨rfl, H5⟩
         · skip
           replace h7 := nbF h7
           refine wp_skip ?_
           refine block_normal (then_normal ?_)
           refine wp_region_lit ?_
           refine wv (.int .i64 (k_ : Int)) ?_
           refine wi64 ((k_ : Int) + 1) ?_
           refine wv (.int .i64 ((k_ : Int) + 1)) ?_
           refine wpList_nil (then_normal ?_)
           replace hbx := hbx.ext E5
           replace B1 := B1.ext E5
           have H6 := HL3.trans E5
           refine ⟨_, ?_, k_ + 1, rfl, ?_, ?_, H6, hbx, B1, exJ (by kernel_rfl)⟩
           · omega
           · omega
           · intro j hj
             rcases (by omega : j < k_ ∨ j = k_) with h_ | h_
             · exact hC j h_
             · subst h_; assumption
       · skip
         have h6d := dF h6
         refine wp_exit ?_
         refine then_exit ?_
         refine then_exit ?_
         refine block_exit ?_
         refine block_normal (then_normal ?_)
         refine wp_region_lit ?_
         refine wv (.int .i64 (i2 : Int)) ?_
         refine wi64 ((i2 : Int) + 1) ?_
         refine wv (.int .i64 ((i2 : Int) + 1)) ?_
         refine wpList_nil (then_normal ?_)
         refine ⟨_, ?_, i2 + 1, rfl, ?_, ?_, HL3, hbx, B1, exJ (by kernel_rfl)⟩
         · omega
         · omega
         · intro j hj
           rcases (by omega : j < i2 ∨ j = i2) with h_ | h_
           · exact hB j h_
           · subst h_; exact fun k hk => hC k (by omega)
     · skip
       have h5d := dF h5
       refine wp_exit ?_
       refine then_exit ?_
       refine then_exit ?_
       refine block_exit ?_
       refine then_normal ?_
       refine wsr ?_
       refine wv (.bool true) ?_
       refine wv (.int .i64 0) ?_
       refine wpList_nil (then_normal ?_)
       refine wp_ret ?_
       refine ret2 (.bool (caB F w0 l xs)) (.int .i64 (code F (inB w0 1 1000 && inB l 1 1000))) rfl ?_ ?_ rfl ?_
       · refine (resT (v := .bool true) (by kernel_rfl)).trans ?_
         refine congrArg Value.bool ?_
         first | exact (caB_n (by assumption)).symm | exact (caB_s (i := i) (by omega) (by assumption)).symm | exact (caB_d' (i := i) (by omega) (by assumption)).symm | exact (caB_5 (i := i2) (by omega) (k := k_) (by omega) (by assumption)).symm | exact (caB_t (by assumption) (fun j hj => okN_u (hA j (by omega)) (fun k hk => hB j (by omega) k hk))).symm
       · refine (resT (v := .int .i64 0) (by kernel_rfl)).trans ?_
         refine congrArg (Value.int _) ?_
         first | (rw [if_pos (by assumption)]; done) | (rw [if_neg (by assumption)]; done) | rfl | assumption | (symm; assumption)
       exact ⟨rfl, HL2⟩

end Go.Proofs.Ytbjcloilcpoafaa
