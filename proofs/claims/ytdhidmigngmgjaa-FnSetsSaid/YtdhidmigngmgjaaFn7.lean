/-
  Contracts: more functions. No conditions.
-/
import Derived.Test.YtdhidmigngmgjaaTy
import Derived.Test.YtdhidmigngmgjaaSl
import Derived.Test.YtdhidmigngmgjaaMth
import Derived.Test.YtdhidmigngmgjaaFn5
import Derived.Test.YtdhidmigngmgjaaMth2
namespace Go.Proofs.Ytdhidmigngmgjaa
open Go.RowKit
set_option linter.unusedSimpArgs false
set_option linter.unusedVariables false
set_option maxHeartbeats 4000000
set_option maxRecDepth 100000
attribute [local irreducible] wpList Code.wp
--# iCellsOfKind_any
theorem iCellsOfKind_any (F : Fld) (hF : F.wf) (k : Int) (w : World) :
 Calls Try.prog 26 #[.agg F.cells, .int .i64 k] w fun e w' => e = .returned (.tuple #[.agg #[.int .u64 ((kindS F k).1), .int .u64 ((kindS F k).2)], .int .i64 (code F (inB k 0 3))]) ∧ Ext w w' := by
 refine calls_of_wp Try.func26 rfl ?_
 refine wp_frame (a' := ⟨#[.agg F.cells, .int .i64 k, undef, undef, undef, undef, undef, undef, undef, undef, undef, undef, undef, undef, undef], []⟩) (by kernel_rfl) ?_
 refine wsr ?_
 refine wbox F.cells ?_
 intro g1 w1 B1 E1 hg_
 have lo_g1 := Nat.le_trans ((Ext.refl w)).size hg_
 have H1 := (Ext.refl w).trans E1
 refine wboxv (.int .i64 k) ?_
 intro g2 w2 B2 E2 hg_
 have q_g1_g2 := Nat.ne_of_lt (Nat.lt_of_lt_of_le B1.lt hg_)
 have lo_g2 := Nat.le_trans (H1).size hg_
 have H2 := H1.trans E2
 replace B1 := B1.ext E2
 refine wnew #[.int .u64 0, .int .u64 0] Try.zeroValue33 rfl ?_
 intro g3 w3 B3 E3 hg_
 have q_g1_g3 := Nat.ne_of_lt (Nat.lt_of_lt_of_le B1.lt hg_)
 have q_g2_g3 := Nat.ne_of_lt (Nat.lt_of_lt_of_le B2.lt hg_)
 have lo_g3 := Nat.le_trans (H2).size hg_
 refine wv (.int .i64 0) ?_
 refine wpList_nil (then_normal ?_)
 refine wp_seq ?_
 refine wsr ?_
 refine wv (.func (.func 62) #[] #[.pointer (some ⟨g2, 0, none⟩)]) ?_
 replace B1 := B1.ext E3
 replace B2 := B2.ext E3
 refine wcl (fieldCode_any F hF g1 _ (.func (.func 62) #[] #[.pointer (some ⟨g2, 0, none⟩)]) 62 #[.pointer (some ⟨g2, 0, none⟩)] (fun _ => by kernel_rfl) (inB k 0 3) _ B1 (fun _ E_ => CellsOfKind1_any k g2 _ _ (B2.ext E_))) ?_
 intro w4 E4
 refine wv (.int .i64 (code F (inB k 0 3))) ?_
 refine wpList_nil (then_normal ?_)
 refine wsr ?_
 refine wv (.int .i64 (code F (inB k 0 3))) ?_
 refine wv (.bool ((code F (inB k 0 3)) != 0)) ?_
 refine wpList_nil (then_normal ?_)
 have H3 := (H2.trans E3).trans E4
 refine wsplit ((code F (inB k 0 3)) != 0) (fun h1 => ?_) (fun h1 => ?_)
 · skip
   have h1d := nT h1
   refine wsr ?_
   refine wv (.agg #[.int .u64 0, .int .u64 0]) ?_
   refine wv (.int .i64 (code F (inB k 0 3))) ?_
   replace B3 := B3.ext E4
   refine wput #[.int .u64 0, .int .u64 0] row_impl_Cells B3 (by rfl) (by rfl) (by kernel_rfl) ?_
   intro w5 B3_ X1
   clear B3; have B3 := B3_; clear B3_
   refine wv (.int .i64 (code F (inB k 0 3))) ?_
   refine wpList_nil (then_normal ?_)
   refine wp_ret ?_
   refine then_ret ?_
   have H4 := X1.ext w lo_g3 H3
   refine ret2 (.agg #[.int .u64 ((kindS F k).1), .int .u64 ((kindS F k).2)]) (.int .i64 (code F (inB k 0 3))) rfl ?_ ?_ rfl ?_
   · refine ⟨g3, 33, #[.int .u64 0, .int .u64 0], _, by kernel_rfl, B3, row_impl_Cells, ?_, ?_⟩
     · rfl
     · show (.agg #[.int .u64 ((kindS F k).1), .int .u64 ((kindS F k).2)] : Value) = (.agg #[.int .u64 0, .int .u64 0])
       refine congrArg Value.agg ?_
       first | rw [kindS_f (by assumption)] | rw [kindS_t (by assumption)]
   · exact resT (by kernel_rfl)
   exact ⟨rfl, H4⟩
 · skip
   have h1d := nF h1
   have h1o := (code_zero h1d).1
   have h1z := (code_zero h1d).2
   have h1zd := inT h1z
   refine wp_skip ?_
   refine then_normal ?_
   refine wsr ?_
   replace B2 := B2.ext E4
   refine wld (v := .int .i64 k) g2 (0) scal_int64 (B2.get (rfl)) ?_
   replace B1 := B1.ext E4
   refine wcl (ofKind_any F hF g1 _ k _ B1) ?_
   intro w6 E5
   replace B3 := (B3.ext E4).ext E5
   refine wput #[.int .u64 ((setC F (fun c_ => F.k c_.toNat == k) 100).1), .int .u64 ((setC F (fun c_ => F.k c_.toNat == k) 100).2)] row_impl_Cells B3 (by rfl) (by rfl) (by kernel_rfl) ?_
   intro w7 B3_ X2
   clear B3; have B3 := B3_; clear B3_
   refine wv (.int .i64 0) ?_
   refine wpList_nil (then_normal ?_)
   refine wp_ret ?_
   have H5 := X2.ext w lo_g3 (H3.trans E5)
   refine ret2 (.agg #[.int .u64 ((kindS F k).1), .int .u64 ((kindS F k).2)]) (.int .i64 (code F (inB k 0 3))) rfl ?_ ?_ rfl ?_
   · refine ⟨g3, 33, #[.int .u64 ((setC F (fun c_ => F.k c_.toNat == k) 100).1), .int .u64 ((setC F (fun c_ => F.k c_.toNat == k) 100).2)], _, by kernel_rfl, B3, row_impl_Cells, ?_, ?_⟩
     · rfl
     · show (.agg #[.int .u64 ((kindS F k).1), .int .u64 ((kindS F k).2)] : Value) = (.agg #[.int .u64 ((setC F (fun c_ => F.k c_.toNat == k) 100).1), .int .u64 ((setC F (fun c_ => F.k c_.toNat == k) 100).2)])
       refine congrArg Value.agg ?_
       first | rw [kindS_f (by assumption)] | rw [kindS_t (by assumption)]
   · refine (resT (v := .int .i64 0) (by kernel_rfl)).trans ?_
     refine congrArg (Value.int _) ?_
     first | (rw [if_pos (by assumption)]; done) | (rw [if_neg (by assumption)]; done) | rfl | assumption | (symm; assumption)
   exact ⟨rfl, H5⟩


--# pin
theorem pin_1 {a b v : Int} (h : inB a 1 10 = false) : pin a b v = false := by unfold pin; rw [h]; rfl
theorem pin_2 {a b v : Int} (h : inB b 1 10 = false) : pin a b v = false := by unfold pin; rw [h, Bool.and_false]; rfl
theorem pin_3 {a b v : Int} (h : inB v 0 1000 = false) : pin a b v = false := by unfold pin; rw [h, Bool.and_false]
theorem pin_t {a b v : Int} (h : inB a 1 10 = true) (h2 : inB b 1 10 = true) (h3 : inB v 0 1000 = true) : pin a b v = true := by unfold pin; rw [h, h2, h3]; rfl


--# neighbours_any
theorem neighbours_any (F : Fld) (hF : F.wf) (b : Nat) (t : TypeId) (c : Int) (hc : 0 ≤ c ∧ c ≤ 99) (w : World) (hb : Blk w b t F.cells) :
 Calls Try.prog 61 #[.pointer (some ⟨b, 0, none⟩), .int .i64 c] w fun e w' => RetI w 2 .i64 (nbL F c) id e w' := by
 refine calls_of_wp Try.func61 rfl ?_
 refine wp_frame (a' := ⟨#[.pointer (some ⟨b, 0, none⟩), .int .i64 c, undef, undef, undef, undef, undef, undef, undef, undef, undef, undef, undef, undef, undef, undef, undef, undef, undef, undef, undef, undef, undef, undef, undef, undef, undef, undef, undef, undef, undef, undef, undef, undef, undef, undef, undef, undef, undef, undef, undef, undef, undef, undef, undef, undef], []⟩) (by kernel_rfl) ?_
 refine wsr ?_
 refine wv (.slice none 0 0) ?_
 refine wpList_nil (then_normal ?_)
 refine wsr ?_
 refine wbsl 0 #[] slt__int64 ?_
 intro g1 w1 B1 E1 hg_
 have q_b_g1 := Nat.ne_of_lt (Nat.lt_of_lt_of_le hb.lt hg_)
 have lo_g1 := Nat.le_trans ((Ext.refl w)).size hg_
 have S1 : SlI #[] 0 0 .i64 [] := SlI.nil
 refine wv (.slice (some ⟨g1, 0, none⟩) 0 0) ?_
 refine wpList_nil (then_normal ?_)
 refine wsr ?_
 refine wv (.int .i64 c) ?_
 refine wrem c 10 ?_
 refine wv (.int .i64 (c % 10)) ?_
 refine wpList_nil (then_normal ?_)
 refine wp_seq ?_
 refine wsr ?_
 refine wvv (.agg #[.int .i64 (-10), .int .i64 (-1), .int .i64 1, .int .i64 10]) (.agg (arr 4 .i64 (listF4 (-10) (-1) 1 10))) (congrArg Value.agg (arr4 _ _ _ _ _)) ?_
 refine wv (.int .i64 0) ?_
 refine wpList_nil (then_normal ?_)
 refine wp_block ?_
 replace hb := hb.ext E1
 have H1 := (Ext.refl w).trans E1
 refine wp_loop_k (fun m1 a wl1 => ∃ (i : Nat) (go : Nat) (no : Nat) (capo : Nat) (cso : Array Value), m1 = 4 - i ∧ i ≤ 4 ∧ SlI cso no capo .i64 (nbN F c i) ∧ w.heap.size ≤ go ∧ b ≠ go ∧ Ext w wl1 ∧ Blk wl1 b t F.cells ∧ Blk wl1 go 2 cso ∧ (∃ J1 : Nat → Value, a = ⟨#[.pointer (some ⟨b, 0, none⟩), .int .i64 c, undef, undef, .slice none 0 0, .slice (some ⟨go, 0, none⟩) no capo, .int .i64 (c % 10), undef, J1 8, .slice (some ⟨g1, 0, none⟩) 0 0, .int .i64 c, .int .i64 (c % 10), .agg (arr 4 .i64 (listF4 (-10) (-1) 1 10)), .int .i64 (i : Int), J1 14, J1 15, J1 16, J1 17, J1 18, J1 19, J1 20, J1 21, J1 22, J1 23, J1 24, J1 25, J1 26, J1 27, J1 28, J1 29, J1 30, J1 31, J1 32, J1 33, J1 34, J1 35, J1 36, J1 37, J1 38, J1 39, J1 40, J1 41, J1 42, J1 43, J1 44, undef], []⟩)) (4) ?_ ?_
 · refine ⟨0, g1, 0, 0, #[], rfl, ?_, ?_, ?_, ?_, H1, hb, B1, exJ (by kernel_rfl)⟩
   · omega
   · refine S1.of_eq ?_
     exact (nbN_0 F c).symm
   · exact lo_g1
   · exact q_b_g1
 intro m1 a wl1 hI
 obtain ⟨i, go, no, capo, cso, rfl, hi_, So, lo_go, n_b_go, HL1, hb, Bo, J1, rfl⟩ := hI
 have lf_ := listF4_in (a := -10) (b := -1) (c := 1) (d := 10) (i := i)
 have nl_ := nbN_length F c i
 have len_So := So.len
 refine wsr ?_
 refine wv (.bool (decide ((i : Int) < 4))) ?_
 refine wpList_nil (then_normal ?_)
 refine wp_seq ?_
 refine wsplit (decide ((i : Int) < 4)) (fun h1 => ?_) (fun h1 => ?_)
 · skip
   have h1d := dT h1
   refine wp_skip ?_
   refine then_normal ?_
   refine wp_seq ?_
   refine wp_block ?_
   refine wsr ?_
   refine widx (ik := .i64) (f := (listF4 (-10) (-1) 1 10)) i .i64 arre__4_int64 ⟨_, _, rfl, by kernel_rfl, by kernel_rfl⟩ ?_
   refine wv (.int .i64 ((listF4 (-10) (-1) 1 10) i)) ?_
   refine wpList_nil (then_normal ?_)
   refine wp_seq ?_
   refine wsr ?_
   refine wv (.int .i64 ((listF4 (-10) (-1) 1 10) i)) ?_
   refine wv (.bool (((listF4 (-10) (-1) 1 10) i) == (-1))) ?_
   refine wv (.bool (((listF4 (-10) (-1) 1 10) i) == (-1))) ?_
   refine split_bool (((listF4 (-10) (-1) 1 10) i) == (-1)) (fun h2 => ?_) (fun h2 => ?_)
   · skip
     refine wbl 18 true h2 ?_
     have h2d := eT h2
     refine wv (.int .i64 (c % 10)) ?_
     refine wv (.bool ((c % 10) == 0)) ?_
     refine wv (.bool ((c % 10) == 0)) ?_
     refine wv (.bool ((c % 10) == 0)) ?_
     refine split_bool ((c % 10) == 0) (fun h3 => ?_) (fun h3 => ?_)
     · skip
       refine wbl 22 true h3 ?_
       have h3d := eT h3
       refine wsk ?_
       refine wsk ?_
       refine wsk ?_
       refine wsk ?_
       refine wsk ?_
       refine wsk ?_
       refine wv (.bool true) ?_
       refine wv (.bool true) ?_
       refine wsk ?_
       refine wsk ?_
       refine wsk ?_
       refine wsk ?_
       refine wsk ?_
       refine wsk ?_
       refine wv (.bool true) ?_
       refine wpList_nil (then_normal ?_)
       refine wct ?_
       refine wp_exit ?_
       refine then_exit ?_
       refine block_exit ?_
       refine then_normal ?_
       refine wp_region_lit ?_
       refine wi64 ((i : Int) + 1) ?_
       refine wv (.int .i64 ((i : Int) + 1)) ?_
       refine wpList_nil (then_normal ?_)
       refine ⟨_, ?_, i + 1, go, no, capo, cso, rfl, ?_, ?_, ?_, ?_, HL1, hb, Bo, exJ (by kernel_rfl)⟩
       · omega
       · omega
       · refine So.of_eq ?_
         first | (exfalso; omega) | exact (nbN_2 (nbP_a (by assumption) (by assumption))).symm | exact (nbN_2 (nbP_b (by assumption) (by assumption))).symm | exact (nbN_2 (nbP_c (by assumption))).symm | exact (nbN_1 (nbP_d (by first | exact .inl (by assumption) | exact .inr (by assumption)) (by first | exact .inl (by assumption) | exact .inr (by assumption)) (by assumption))).symm
       · exact lo_go
       · exact n_b_go
     · skip
       refine wbl 22 false h3 ?_
       have h3d := eF h3
       refine wv (.int .i64 ((listF4 (-10) (-1) 1 10) i)) ?_
       refine wv (.bool (((listF4 (-10) (-1) 1 10) i) == 1)) ?_
       refine wv (.bool (((listF4 (-10) (-1) 1 10) i) == 1)) ?_
       refine split_bool (((listF4 (-10) (-1) 1 10) i) == 1) (fun h4 => ?_) (fun h4 => ?_)
       · skip
         refine wbl 25 true h4 ?_
         have h4d := eT h4
         refine wv (.int .i64 (c % 10)) ?_
         refine wv (.bool ((c % 10) == 9)) ?_
         refine wv (.bool ((c % 10) == 9)) ?_
         refine wv (.bool ((c % 10) == 9)) ?_
         refine wv (.bool ((c % 10) == 9)) ?_
         refine split_bool ((c % 10) == 9) (fun h5 => ?_) (fun h5 => ?_)
         · skip
           refine wbl 30 true h5 ?_
           have h5d := eT h5
           refine wsk ?_
           refine wsk ?_
           refine wsk ?_
           refine wsk ?_
           refine wsk ?_
           refine wsk ?_
           refine wv (.bool true) ?_
           refine wpList_nil (then_normal ?_)
           refine wct ?_
           refine wp_exit ?_
           refine then_exit ?_
           refine block_exit ?_
           refine then_normal ?_
           refine wp_region_lit ?_
           refine wi64 ((i : Int) + 1) ?_
           refine wv (.int .i64 ((i : Int) + 1)) ?_
           refine wpList_nil (then_normal ?_)
           refine ⟨_, ?_, i + 1, go, no, capo, cso, rfl, ?_, ?_, ?_, ?_, HL1, hb, Bo, exJ (by kernel_rfl)⟩
           · omega
           · omega
           · refine So.of_eq ?_
             first | (exfalso; omega) | exact (nbN_2 (nbP_a (by assumption) (by assumption))).symm | exact (nbN_2 (nbP_b (by assumption) (by assumption))).symm | exact (nbN_2 (nbP_c (by assumption))).symm | exact (nbN_1 (nbP_d (by first | exact .inl (by assumption) | exact .inr (by assumption)) (by first | exact .inl (by assumption) | exact .inr (by assumption)) (by assumption))).symm
           · exact lo_go
           · exact n_b_go
         · skip
           refine wbl 30 false h5 ?_
           have h5d := eF h5
           refine wv (.pointer (some ⟨b, 0, none⟩)) ?_
           refine wv (.int .i64 c) ?_
           refine wv (.int .i64 ((listF4 (-10) (-1) 1 10) i)) ?_
           refine wi64 (c + ((listF4 (-10) (-1) 1 10) i)) ?_
           refine wcl (has_any F hF b _ (c + ((listF4 (-10) (-1) 1 10) i)) _ hb) ?_
           intro w2 E2
           refine wv (.bool (!(isB F (c + ((listF4 (-10) (-1) 1 10) i))))) ?_
           refine wv (.bool (!(isB F (c + ((listF4 (-10) (-1) 1 10) i))))) ?_
           refine wpList_nil (then_normal ?_)
           have H2 := HL1.trans E2
           refine wsplit (!(isB F (c + ((listF4 (-10) (-1) 1 10) i)))) (fun h6 => ?_) (fun h6 => ?_)
           · skip
             replace h6 := nbT h6
             refine wp_exit ?_
             refine then_exit ?_
             refine block_exit ?_
             refine then_normal ?_
             refine wp_region_lit ?_
             refine wi64 ((i : Int) + 1) ?_
             refine wv (.int .i64 ((i : Int) + 1)) ?_
             refine wpList_nil (then_normal ?_)
             replace hb := hb.ext E2
             replace Bo := Bo.ext E2
             refine ⟨_, ?_, i + 1, go, no, capo, cso, rfl, ?_, ?_, ?_, ?_, H2, hb, Bo, exJ (by kernel_rfl)⟩
             · omega
             · omega
             · refine So.of_eq ?_
               first | (exfalso; omega) | exact (nbN_2 (nbP_a (by assumption) (by assumption))).symm | exact (nbN_2 (nbP_b (by assumption) (by assumption))).symm | exact (nbN_2 (nbP_c (by assumption))).symm | exact (nbN_1 (nbP_d (by first | exact .inl (by assumption) | exact .inr (by assumption)) (by first | exact .inl (by assumption) | exact .inr (by assumption)) (by assumption))).symm
             · exact lo_go
             · exact n_b_go
           · skip
             replace h6 := nbF h6
             have h6d := isB_true.1 h6
             refine wp_skip ?_
             refine then_normal ?_
             refine wp_region_lit ?_
             refine wv (.slice (some ⟨go, 0, none⟩) no capo) ?_
             refine wv (.int .i64 c) ?_
             refine wv (.int .i64 ((listF4 (-10) (-1) 1 10) i)) ?_
             refine wi64 (c + ((listF4 (-10) (-1) 1 10) i)) ?_
             replace hb := hb.ext E2
             replace Bo := Bo.ext E2
             refine wbsl 1 #[.int .i64 (c + ((listF4 (-10) (-1) 1 10) i))] slt__int64 ?_
             intro g2 w3 B2 E3 hg_
             have q_b_g2 := Nat.ne_of_lt (Nat.lt_of_lt_of_le hb.lt hg_)
             have q_go_g2 := Nat.ne_of_lt (Nat.lt_of_lt_of_le Bo.lt hg_)
             have lo_g2 := Nat.le_trans (H2).size hg_
             replace hb := hb.ext E3
             replace Bo := Bo.ext E3
             have H3 := H2.trans E3
             refine wappi (c + ((listF4 (-10) (-1) 1 10) i)) slt__int64 Bo So B2 ?_
             intro g3 cap1 cs1 w4 B3 S2 X1 or1
             have n_b_g3 := ne_app hb n_b_go or1
             have n_g2_g3 := ne_app B2 (Ne.symm q_go_g2) or1
             have lo_g3 := Wr.lo or1 lo_go (H3).size
             refine wv (.slice (some ⟨g3, 0, none⟩) (no + 1) cap1) ?_
             refine wpList_nil (block_normal (then_normal ?_))
             refine wp_frame (a' := ⟨#[.pointer (some ⟨b, 0, none⟩), .int .i64 c, undef, undef, .slice none 0 0, .slice (some ⟨g3, 0, none⟩) (no + 1) cap1, .int .i64 (c % 10), undef, .int .i64 ((listF4 (-10) (-1) 1 10) i), .slice (some ⟨g1, 0, none⟩) 0 0, .int .i64 c, .int .i64 (c % 10), .agg (arr 4 .i64 (listF4 (-10) (-1) 1 10)), .int .i64 (i : Int), .bool (decide ((i : Int) < 4)), .int .i64 ((listF4 (-10) (-1) 1 10) i), .int .i64 ((listF4 (-10) (-1) 1 10) i), .bool (((listF4 (-10) (-1) 1 10) i) == (-1)), .bool true, .int .i64 (c % 10), .bool ((c % 10) == 0), .bool ((c % 10) == 0), .bool false, .int .i64 ((listF4 (-10) (-1) 1 10) i), .bool (((listF4 (-10) (-1) 1 10) i) == 1), .bool true, .int .i64 (c % 10), .bool ((c % 10) == 9), .bool ((c % 10) == 9), .bool ((c % 10) == 9), .bool false, .pointer (some ⟨b, 0, none⟩), .int .i64 c, .int .i64 ((listF4 (-10) (-1) 1 10) i), .int .i64 (c + ((listF4 (-10) (-1) 1 10) i)), .bool (isB F (c + ((listF4 (-10) (-1) 1 10) i))), .bool (!(isB F (c + ((listF4 (-10) (-1) 1 10) i)))), .bool (!(isB F (c + ((listF4 (-10) (-1) 1 10) i)))), .slice (some ⟨go, 0, none⟩) no capo, .int .i64 c, .int .i64 ((listF4 (-10) (-1) 1 10) i), .int .i64 (c + ((listF4 (-10) (-1) 1 10) i)), .slice (some ⟨g2, 0, none⟩) 1 1, .slice (some ⟨g3, 0, none⟩) (no + 1) cap1, J1 44, undef], []⟩) (by kernel_rfl) ?_
             refine wp_region_lit ?_
             refine wi64 ((i : Int) + 1) ?_
             refine wv (.int .i64 ((i : Int) + 1)) ?_
             refine wpList_nil (then_normal ?_)
             replace hb := X1.blk hb n_b_go
             have H4 := X1.ext w lo_go H3
             refine ⟨_, ?_, i + 1, g3, no + 1, cap1, cs1, rfl, ?_, ?_, ?_, ?_, H4, hb, B3, exJ (by kernel_rfl)⟩
             · omega
             · omega
             · refine S2.of_eq ?_
               first | (exfalso; omega) | exact (nbN_2 (nbP_a (by assumption) (by assumption))).symm | exact (nbN_2 (nbP_b (by assumption) (by assumption))).symm | exact (nbN_2 (nbP_c (by assumption))).symm | exact (nbN_1 (nbP_d (by first | exact .inl (by assumption) | exact .inr (by assumption)) (by first | exact .inl (by assumption) | exact .inr (by assumption)) (by assumption))).symm
             · exact lo_g3
             · exact n_b_g3
       · skip
         refine wbl 25 false h4 ?_
         have h4d := eF h4
         refine wsk ?_
         refine wsk ?_
         refine wv (.bool false) ?_
         refine wv (.bool false) ?_
         refine wv (.bool false) ?_
         refine wv (.pointer (some ⟨b, 0, none⟩)) ?_
         refine wv (.int .i64 c) ?_
         refine wv (.int .i64 ((listF4 (-10) (-1) 1 10) i)) ?_
         refine wi64 (c + ((listF4 (-10) (-1) 1 10) i)) ?_
         refine wcl (has_any F hF b _ (c + ((listF4 (-10) (-1) 1 10) i)) _ hb) ?_
         intro w5 E4
         refine wv (.bool (!(isB F (c + ((listF4 (-10) (-1) 1 10) i))))) ?_
         refine wv (.bool (!(isB F (c + ((listF4 (-10) (-1) 1 10) i))))) ?_
         refine wpList_nil (then_normal ?_)
         have H5 := HL1.trans E4
         refine wsplit (!(isB F (c + ((listF4 (-10) (-1) 1 10) i)))) (fun h7 => ?_) (fun h7 => ?_)
         · skip
           replace h7 := nbT h7
           refine wp_exit ?_
           refine then_exit ?_
           refine block_exit ?_
           refine then_normal ?_
           refine wp_region_lit ?_
           refine wi64 ((i : Int) + 1) ?_
           refine wv (.int .i64 ((i : Int) + 1)) ?_
           refine wpList_nil (then_normal ?_)
           replace hb := hb.ext E4
           replace Bo := Bo.ext E4
           refine ⟨_, ?_, i + 1, go, no, capo, cso, rfl, ?_, ?_, ?_, ?_, H5, hb, Bo, exJ (by kernel_rfl)⟩
           · omega
           · omega
           · refine So.of_eq ?_
             first | (exfalso; omega) | exact (nbN_2 (nbP_a (by assumption) (by assumption))).symm | exact (nbN_2 (nbP_b (by assumption) (by assumption))).symm | exact (nbN_2 (nbP_c (by assumption))).symm | exact (nbN_1 (nbP_d (by first | exact .inl (by assumption) | exact .inr (by assumption)) (by first | exact .inl (by assumption) | exact .inr (by assumption)) (by assumption))).symm
           · exact lo_go
           · exact n_b_go
         · skip
           replace h7 := nbF h7
           have h7d := isB_true.1 h7
           refine wp_skip ?_
           refine then_normal ?_
           refine wp_region_lit ?_
           refine wv (.slice (some ⟨go, 0, none⟩) no capo) ?_
           refine wv (.int .i64 c) ?_
           refine wv (.int .i64 ((listF4 (-10) (-1) 1 10) i)) ?_
           refine wi64 (c + ((listF4 (-10) (-1) 1 10) i)) ?_
           replace hb := hb.ext E4
           replace Bo := Bo.ext E4
           refine wbsl 1 #[.int .i64 (c + ((listF4 (-10) (-1) 1 10) i))] slt__int64 ?_
           intro g4 w6 B4 E5 hg_
           have q_b_g4 := Nat.ne_of_lt (Nat.lt_of_lt_of_le hb.lt hg_)
           have q_go_g4 := Nat.ne_of_lt (Nat.lt_of_lt_of_le Bo.lt hg_)
           have lo_g4 := Nat.le_trans (H5).size hg_
           replace hb := hb.ext E5
           replace Bo := Bo.ext E5
           have H6 := H5.trans E5
           refine wappi (c + ((listF4 (-10) (-1) 1 10) i)) slt__int64 Bo So B4 ?_
           intro g5 cap2 cs2 w7 B5 S3 X2 or2
           have n_b_g5 := ne_app hb n_b_go or2
           have n_g4_g5 := ne_app B4 (Ne.symm q_go_g4) or2
           have lo_g5 := Wr.lo or2 lo_go (H6).size
           refine wv (.slice (some ⟨g5, 0, none⟩) (no + 1) cap2) ?_
           refine wpList_nil (block_normal (then_normal ?_))
           refine wp_frame (a' := ⟨#[.pointer (some ⟨b, 0, none⟩), .int .i64 c, undef, undef, .slice none 0 0, .slice (some ⟨g5, 0, none⟩) (no + 1) cap2, .int .i64 (c % 10), undef, .int .i64 ((listF4 (-10) (-1) 1 10) i), .slice (some ⟨g1, 0, none⟩) 0 0, .int .i64 c, .int .i64 (c % 10), .agg (arr 4 .i64 (listF4 (-10) (-1) 1 10)), .int .i64 (i : Int), .bool (decide ((i : Int) < 4)), .int .i64 ((listF4 (-10) (-1) 1 10) i), .int .i64 ((listF4 (-10) (-1) 1 10) i), .bool (((listF4 (-10) (-1) 1 10) i) == (-1)), .bool true, .int .i64 (c % 10), .bool ((c % 10) == 0), .bool ((c % 10) == 0), .bool false, .int .i64 ((listF4 (-10) (-1) 1 10) i), .bool (((listF4 (-10) (-1) 1 10) i) == 1), .bool false, undef, undef, .bool false, .bool false, .bool false, .pointer (some ⟨b, 0, none⟩), .int .i64 c, .int .i64 ((listF4 (-10) (-1) 1 10) i), .int .i64 (c + ((listF4 (-10) (-1) 1 10) i)), .bool (isB F (c + ((listF4 (-10) (-1) 1 10) i))), .bool (!(isB F (c + ((listF4 (-10) (-1) 1 10) i)))), .bool (!(isB F (c + ((listF4 (-10) (-1) 1 10) i)))), .slice (some ⟨go, 0, none⟩) no capo, .int .i64 c, .int .i64 ((listF4 (-10) (-1) 1 10) i), .int .i64 (c + ((listF4 (-10) (-1) 1 10) i)), .slice (some ⟨g4, 0, none⟩) 1 1, .slice (some ⟨g5, 0, none⟩) (no + 1) cap2, J1 44, undef], []⟩) (by kernel_rfl) ?_
           refine wp_region_lit ?_
           refine wi64 ((i : Int) + 1) ?_
           refine wv (.int .i64 ((i : Int) + 1)) ?_
           refine wpList_nil (then_normal ?_)
           replace hb := X2.blk hb n_b_go
           have H7 := X2.ext w lo_go H6
           refine ⟨_, ?_, i + 1, g5, no + 1, cap2, cs2, rfl, ?_, ?_, ?_, ?_, H7, hb, B5, exJ (by kernel_rfl)⟩
           · omega
           · omega
           · refine S3.of_eq ?_
             first | (exfalso; omega) | exact (nbN_2 (nbP_a (by assumption) (by assumption))).symm | exact (nbN_2 (nbP_b (by assumption) (by assumption))).symm | exact (nbN_2 (nbP_c (by assumption))).symm | exact (nbN_1 (nbP_d (by first | exact .inl (by assumption) | exact .inr (by assumption)) (by first | exact .inl (by assumption) | exact .inr (by assumption)) (by assumption))).symm
           · exact lo_g5
           · exact n_b_g5
   · skip
     refine wbl 18 false h2 ?_
     have h2d := eF h2
     refine wsk ?_
     refine wsk ?_
     refine wv (.bool false) ?_
     refine wv (.bool false) ?_
     refine wv (.int .i64 ((listF4 (-10) (-1) 1 10) i)) ?_
     refine wv (.bool (((listF4 (-10) (-1) 1 10) i) == 1)) ?_
     refine wv (.bool (((listF4 (-10) (-1) 1 10) i) == 1)) ?_
     refine split_bool (((listF4 (-10) (-1) 1 10) i) == 1) (fun h8 => ?_) (fun h8 => ?_)
     · skip
       refine wbl 25 true h8 ?_
       have h8d := eT h8
       refine wv (.int .i64 (c % 10)) ?_
       refine wv (.bool ((c % 10) == 9)) ?_
       refine wv (.bool ((c % 10) == 9)) ?_
       refine wv (.bool ((c % 10) == 9)) ?_
       refine wv (.bool ((c % 10) == 9)) ?_
       refine split_bool ((c % 10) == 9) (fun h9 => ?_) (fun h9 => ?_)
       · skip
         refine wbl 30 true h9 ?_
         have h9d := eT h9
         refine wsk ?_
         refine wsk ?_
         refine wsk ?_
         refine wsk ?_
         refine wsk ?_
         refine wsk ?_
         refine wv (.bool true) ?_
         refine wpList_nil (then_normal ?_)
         refine wct ?_
         refine wp_exit ?_
         refine then_exit ?_
         refine block_exit ?_
         refine then_normal ?_
         refine wp_region_lit ?_
         refine wi64 ((i : Int) + 1) ?_
         refine wv (.int .i64 ((i : Int) + 1)) ?_
         refine wpList_nil (then_normal ?_)
         refine ⟨_, ?_, i + 1, go, no, capo, cso, rfl, ?_, ?_, ?_, ?_, HL1, hb, Bo, exJ (by kernel_rfl)⟩
         · omega
         · omega
         · refine So.of_eq ?_
           first | (exfalso; omega) | exact (nbN_2 (nbP_a (by assumption) (by assumption))).symm | exact (nbN_2 (nbP_b (by assumption) (by assumption))).symm | exact (nbN_2 (nbP_c (by assumption))).symm | exact (nbN_1 (nbP_d (by first | exact .inl (by assumption) | exact .inr (by assumption)) (by first | exact .inl (by assumption) | exact .inr (by assumption)) (by assumption))).symm
         · exact lo_go
         · exact n_b_go
       · skip
         refine wbl 30 false h9 ?_
         have h9d := eF h9
         refine wv (.pointer (some ⟨b, 0, none⟩)) ?_
         refine wv (.int .i64 c) ?_
         refine wv (.int .i64 ((listF4 (-10) (-1) 1 10) i)) ?_
         refine wi64 (c + ((listF4 (-10) (-1) 1 10) i)) ?_
         refine wcl (has_any F hF b _ (c + ((listF4 (-10) (-1) 1 10) i)) _ hb) ?_
         intro w8 E6
         refine wv (.bool (!(isB F (c + ((listF4 (-10) (-1) 1 10) i))))) ?_
         refine wv (.bool (!(isB F (c + ((listF4 (-10) (-1) 1 10) i))))) ?_
         refine wpList_nil (then_normal ?_)
         have H8 := HL1.trans E6
         refine wsplit (!(isB F (c + ((listF4 (-10) (-1) 1 10) i)))) (fun h10 => ?_) (fun h10 => ?_)
         · skip
           replace h10 := nbT h10
           refine wp_exit ?_
           refine then_exit ?_
           refine block_exit ?_
           refine then_normal ?_
           refine wp_region_lit ?_
           refine wi64 ((i : Int) + 1) ?_
           refine wv (.int .i64 ((i : Int) + 1)) ?_
           refine wpList_nil (then_normal ?_)
           replace hb := hb.ext E6
           replace Bo := Bo.ext E6
           refine ⟨_, ?_, i + 1, go, no, capo, cso, rfl, ?_, ?_, ?_, ?_, H8, hb, Bo, exJ (by kernel_rfl)⟩
           · omega
           · omega
           · refine So.of_eq ?_
             first | (exfalso; omega) | exact (nbN_2 (nbP_a (by assumption) (by assumption))).symm | exact (nbN_2 (nbP_b (by assumption) (by assumption))).symm | exact (nbN_2 (nbP_c (by assumption))).symm | exact (nbN_1 (nbP_d (by first | exact .inl (by assumption) | exact .inr (by assumption)) (by first | exact .inl (by assumption) | exact .inr (by assumption)) (by assumption))).symm
           · exact lo_go
           · exact n_b_go
         · skip
           replace h10 := nbF h10
           have h10d := isB_true.1 h10
           refine wp_skip ?_
           refine then_normal ?_
           refine wp_region_lit ?_
           refine wv (.slice (some ⟨go, 0, none⟩) no capo) ?_
           refine wv (.int .i64 c) ?_
           refine wv (.int .i64 ((listF4 (-10) (-1) 1 10) i)) ?_
           refine wi64 (c + ((listF4 (-10) (-1) 1 10) i)) ?_
           replace hb := hb.ext E6
           replace Bo := Bo.ext E6
           refine wbsl 1 #[.int .i64 (c + ((listF4 (-10) (-1) 1 10) i))] slt__int64 ?_
           intro g6 w9 B6 E7 hg_
           have q_b_g6 := Nat.ne_of_lt (Nat.lt_of_lt_of_le hb.lt hg_)
           have q_go_g6 := Nat.ne_of_lt (Nat.lt_of_lt_of_le Bo.lt hg_)
           have lo_g6 := Nat.le_trans (H8).size hg_
           replace hb := hb.ext E7
           replace Bo := Bo.ext E7
           have H9 := H8.trans E7
           refine wappi (c + ((listF4 (-10) (-1) 1 10) i)) slt__int64 Bo So B6 ?_
           intro g7 cap3 cs3 w10 B7 S4 X3 or3
           have n_b_g7 := ne_app hb n_b_go or3
           have n_g6_g7 := ne_app B6 (Ne.symm q_go_g6) or3
           have lo_g7 := Wr.lo or3 lo_go (H9).size
           refine wv (.slice (some ⟨g7, 0, none⟩) (no + 1) cap3) ?_
           refine wpList_nil (block_normal (then_normal ?_))
           refine wp_frame (a' := ⟨#[.pointer (some ⟨b, 0, none⟩), .int .i64 c, undef, undef, .slice none 0 0, .slice (some ⟨g7, 0, none⟩) (no + 1) cap3, .int .i64 (c % 10), undef, .int .i64 ((listF4 (-10) (-1) 1 10) i), .slice (some ⟨g1, 0, none⟩) 0 0, .int .i64 c, .int .i64 (c % 10), .agg (arr 4 .i64 (listF4 (-10) (-1) 1 10)), .int .i64 (i : Int), .bool (decide ((i : Int) < 4)), .int .i64 ((listF4 (-10) (-1) 1 10) i), .int .i64 ((listF4 (-10) (-1) 1 10) i), .bool (((listF4 (-10) (-1) 1 10) i) == (-1)), .bool false, undef, undef, .bool false, .bool false, .int .i64 ((listF4 (-10) (-1) 1 10) i), .bool (((listF4 (-10) (-1) 1 10) i) == 1), .bool true, .int .i64 (c % 10), .bool ((c % 10) == 9), .bool ((c % 10) == 9), .bool ((c % 10) == 9), .bool false, .pointer (some ⟨b, 0, none⟩), .int .i64 c, .int .i64 ((listF4 (-10) (-1) 1 10) i), .int .i64 (c + ((listF4 (-10) (-1) 1 10) i)), .bool (isB F (c + ((listF4 (-10) (-1) 1 10) i))), .bool (!(isB F (c + ((listF4 (-10) (-1) 1 10) i)))), .bool (!(isB F (c + ((listF4 (-10) (-1) 1 10) i)))), .slice (some ⟨go, 0, none⟩) no capo, .int .i64 c, .int .i64 ((listF4 (-10) (-1) 1 10) i), .int .i64 (c + ((listF4 (-10) (-1) 1 10) i)), .slice (some ⟨g6, 0, none⟩) 1 1, .slice (some ⟨g7, 0, none⟩) (no + 1) cap3, J1 44, undef], []⟩) (by kernel_rfl) ?_
           refine wp_region_lit ?_
           refine wi64 ((i : Int) + 1) ?_
           refine wv (.int .i64 ((i : Int) + 1)) ?_
           refine wpList_nil (then_normal ?_)
           replace hb := X3.blk hb n_b_go
           have H10 := X3.ext w lo_go H9
           refine ⟨_, ?_, i + 1, g7, no + 1, cap3, cs3, rfl, ?_, ?_, ?_, ?_, H10, hb, B7, exJ (by kernel_rfl)⟩
           · omega
           · omega
           · refine S4.of_eq ?_
             first | (exfalso; omega) | exact (nbN_2 (nbP_a (by assumption) (by assumption))).symm | exact (nbN_2 (nbP_b (by assumption) (by assumption))).symm | exact (nbN_2 (nbP_c (by assumption))).symm | exact (nbN_1 (nbP_d (by first | exact .inl (by assumption) | exact .inr (by assumption)) (by first | exact .inl (by assumption) | exact .inr (by assumption)) (by assumption))).symm
           · exact lo_g7
           · exact n_b_g7
     · skip
       refine wbl 25 false h8 ?_
       have h8d := eF h8
       refine wsk ?_
       refine wsk ?_
       refine wv (.bool false) ?_
       refine wv (.bool false) ?_
       refine wv (.bool false) ?_
       refine wv (.pointer (some ⟨b, 0, none⟩)) ?_
       refine wv (.int .i64 c) ?_
       refine wv (.int .i64 ((listF4 (-10) (-1) 1 10) i)) ?_
       refine wi64 (c + ((listF4 (-10) (-1) 1 10) i)) ?_
       refine wcl (has_any F hF b _ (c + ((listF4 (-10) (-1) 1 10) i)) _ hb) ?_
       intro w11 E8
       refine wv (.bool (!(isB F (c + ((listF4 (-10) (-1) 1 10) i))))) ?_
       refine wv (.bool (!(isB F (c + ((listF4 (-10) (-1) 1 10) i))))) ?_
       refine wpList_nil (then_normal ?_)
       have H11 := HL1.trans E8
       refine wsplit (!(isB F (c + ((listF4 (-10) (-1) 1 10) i)))) (fun h11 => ?_) (fun h11 => ?_)
       · skip
         replace h11 := nbT h11
         refine wp_exit ?_
         refine then_exit ?_
         refine block_exit ?_
         refine then_normal ?_
         refine wp_region_lit ?_
         refine wi64 ((i : Int) + 1) ?_
         refine wv (.int .i64 ((i : Int) + 1)) ?_
         refine wpList_nil (then_normal ?_)
         replace hb := hb.ext E8
         replace Bo := Bo.ext E8
         refine ⟨_, ?_, i + 1, go, no, capo, cso, rfl, ?_, ?_, ?_, ?_, H11, hb, Bo, exJ (by kernel_rfl)⟩
         · omega
         · omega
         · refine So.of_eq ?_
           first | (exfalso; omega) | exact (nbN_2 (nbP_a (by assumption) (by assumption))).symm | exact (nbN_2 (nbP_b (by assumption) (by assumption))).symm | exact (nbN_2 (nbP_c (by assumption))).symm | exact (nbN_1 (nbP_d (by first | exact .inl (by assumption) | exact .inr (by assumption)) (by first | exact .inl (by assumption) | exact .inr (by assumption)) (by assumption))).symm
         · exact lo_go
         · exact n_b_go
       · skip
         replace h11 := nbF h11
         have h11d := isB_true.1 h11
         refine wp_skip ?_
         refine then_normal ?_
         refine wp_region_lit ?_
         refine wv (.slice (some ⟨go, 0, none⟩) no capo) ?_
         refine wv (.int .i64 c) ?_
         refine wv (.int .i64 ((listF4 (-10) (-1) 1 10) i)) ?_
         refine wi64 (c + ((listF4 (-10) (-1) 1 10) i)) ?_
         replace hb := hb.ext E8
         replace Bo := Bo.ext E8
         refine wbsl 1 #[.int .i64 (c + ((listF4 (-10) (-1) 1 10) i))] slt__int64 ?_
         intro g8 w12 B8 E9 hg_
         have q_b_g8 := Nat.ne_of_lt (Nat.lt_of_lt_of_le hb.lt hg_)
         have q_go_g8 := Nat.ne_of_lt (Nat.lt_of_lt_of_le Bo.lt hg_)
         have lo_g8 := Nat.le_trans (H11).size hg_
         replace hb := hb.ext E9
         replace Bo := Bo.ext E9
         have H12 := H11.trans E9
         refine wappi (c + ((listF4 (-10) (-1) 1 10) i)) slt__int64 Bo So B8 ?_
         intro g9 cap4 cs4 w13 B9 S5 X4 or4
         have n_b_g9 := ne_app hb n_b_go or4
         have n_g8_g9 := ne_app B8 (Ne.symm q_go_g8) or4
         have lo_g9 := Wr.lo or4 lo_go (H12).size
         refine wv (.slice (some ⟨g9, 0, none⟩) (no + 1) cap4) ?_
         refine wpList_nil (block_normal (then_normal ?_))
         refine wp_frame (a' := ⟨#[.pointer (some ⟨b, 0, none⟩), .int .i64 c, undef, undef, .slice none 0 0, .slice (some ⟨g9, 0, none⟩) (no + 1) cap4, .int .i64 (c % 10), undef, .int .i64 ((listF4 (-10) (-1) 1 10) i), .slice (some ⟨g1, 0, none⟩) 0 0, .int .i64 c, .int .i64 (c % 10), .agg (arr 4 .i64 (listF4 (-10) (-1) 1 10)), .int .i64 (i : Int), .bool (decide ((i : Int) < 4)), .int .i64 ((listF4 (-10) (-1) 1 10) i), .int .i64 ((listF4 (-10) (-1) 1 10) i), .bool (((listF4 (-10) (-1) 1 10) i) == (-1)), .bool false, undef, undef, .bool false, .bool false, .int .i64 ((listF4 (-10) (-1) 1 10) i), .bool (((listF4 (-10) (-1) 1 10) i) == 1), .bool false, undef, undef, .bool false, .bool false, .bool false, .pointer (some ⟨b, 0, none⟩), .int .i64 c, .int .i64 ((listF4 (-10) (-1) 1 10) i), .int .i64 (c + ((listF4 (-10) (-1) 1 10) i)), .bool (isB F (c + ((listF4 (-10) (-1) 1 10) i))), .bool (!(isB F (c + ((listF4 (-10) (-1) 1 10) i)))), .bool (!(isB F (c + ((listF4 (-10) (-1) 1 10) i)))), .slice (some ⟨go, 0, none⟩) no capo, .int .i64 c, .int .i64 ((listF4 (-10) (-1) 1 10) i), .int .i64 (c + ((listF4 (-10) (-1) 1 10) i)), .slice (some ⟨g8, 0, none⟩) 1 1, .slice (some ⟨g9, 0, none⟩) (no + 1) cap4, J1 44, undef], []⟩) (by kernel_rfl) ?_
         refine wp_region_lit ?_
         refine wi64 ((i : Int) + 1) ?_
         refine wv (.int .i64 ((i : Int) + 1)) ?_
         refine wpList_nil (then_normal ?_)
         replace hb := X4.blk hb n_b_go
         have H13 := X4.ext w lo_go H12
         refine ⟨_, ?_, i + 1, g9, no + 1, cap4, cs4, rfl, ?_, ?_, ?_, ?_, H13, hb, B9, exJ (by kernel_rfl)⟩
         · omega
         · omega
         · refine S5.of_eq ?_
           first | (exfalso; omega) | exact (nbN_2 (nbP_a (by assumption) (by assumption))).symm | exact (nbN_2 (nbP_b (by assumption) (by assumption))).symm | exact (nbN_2 (nbP_c (by assumption))).symm | exact (nbN_1 (nbP_d (by first | exact .inl (by assumption) | exact .inr (by assumption)) (by first | exact .inl (by assumption) | exact .inr (by assumption)) (by assumption))).symm
         · exact lo_g9
         · exact n_b_g9
 · skip
   have h1d := dF h1
   refine wp_exit ?_
   refine then_exit ?_
   refine then_exit ?_
   refine block_exit ?_
   refine then_normal ?_
   refine wsr ?_
   refine wv (.slice (some ⟨go, 0, none⟩) no capo) ?_
   refine wv (.slice (some ⟨go, 0, none⟩) no capo) ?_
   refine wpList_nil (then_normal ?_)
   refine wp_ret ?_
   refine ret1 (.slice (some ⟨go, 0, none⟩) no capo) rfl ?_ rfl ?_
   · exact resT (by kernel_rfl)
   have hq : nbN F c i = nbL F c := by
     exact nbN_end (by omega) (by omega)
   exact ⟨go, no, capo, cso, rfl, Bo, So.of_eq hq, HL1, lo_go⟩


--# iNeighboursOf_any
theorem iNeighboursOf_any (F : Fld) (hF : F.wf) (c : Int) (w : World) :
 Calls Try.prog 25 #[.agg F.cells, .int .i64 c] w fun e w' => (code F (isB F c) = 0 ∧ RetI w 2 .i64 (nbL F c) (fun v => .tuple #[v, .int .i64 0]) e w') ∨ (code F (isB F c) ≠ 0 ∧ e = .returned (.tuple #[.slice none 0 0, .int .i64 (code F (isB F c))]) ∧ Ext w w') := by
 refine calls_of_wp Try.func25 rfl ?_
 refine wp_frame (a' := ⟨#[.agg F.cells, .int .i64 c, undef, undef, undef, undef, undef, undef, undef, undef, undef, undef, undef, undef], []⟩) (by kernel_rfl) ?_
 refine wsr ?_
 refine wbox F.cells ?_
 intro g1 w1 B1 E1 hg_
 have lo_g1 := Nat.le_trans ((Ext.refl w)).size hg_
 have H1 := (Ext.refl w).trans E1
 refine wboxv (.int .i64 c) ?_
 intro g2 w2 B2 E2 hg_
 have q_g1_g2 := Nat.ne_of_lt (Nat.lt_of_lt_of_le B1.lt hg_)
 have lo_g2 := Nat.le_trans (H1).size hg_
 refine wv (.slice none 0 0) ?_
 refine wv (.int .i64 0) ?_
 refine wpList_nil (then_normal ?_)
 refine wp_seq ?_
 refine wsr ?_
 refine wv (.func (.func 60) #[] #[.pointer (some ⟨g1, 0, none⟩), .pointer (some ⟨g2, 0, none⟩)]) ?_
 replace B1 := B1.ext E2
 refine wcl (fieldCode_any F hF g1 _ (.func (.func 60) #[] #[.pointer (some ⟨g1, 0, none⟩), .pointer (some ⟨g2, 0, none⟩)]) 60 #[.pointer (some ⟨g1, 0, none⟩), .pointer (some ⟨g2, 0, none⟩)] (fun _ => by kernel_rfl) (isB F c) _ B1 (fun _ E_ => NeighboursOf1_any F hF g1 _ c g2 _ _ (B1.ext E_) (B2.ext E_))) ?_
 intro w3 E3
 refine wv (.int .i64 (code F (isB F c))) ?_
 refine wpList_nil (then_normal ?_)
 refine wsr ?_
 refine wv (.int .i64 (code F (isB F c))) ?_
 refine wv (.bool ((code F (isB F c)) != 0)) ?_
 refine wpList_nil (then_normal ?_)
 have H2 := (H1.trans E2).trans E3
 refine wsplit ((code F (isB F c)) != 0) (fun h1 => ?_) (fun h1 => ?_)
 · skip
   have h1d := nT h1
   refine wsr ?_
   refine wv (.int .i64 (code F (isB F c))) ?_
   refine wv (.slice none 0 0) ?_
   refine wv (.int .i64 (code F (isB F c))) ?_
   refine wpList_nil (then_normal ?_)
   refine wp_ret ?_
   refine then_ret ?_
   refine ret2 (.slice none 0 0) (.int .i64 (code F (isB F c))) rfl ?_ ?_ rfl ?_
   · exact resT (by kernel_rfl)
   · exact resT (by kernel_rfl)
   exact .inr ⟨(by assumption), rfl, H2⟩
 · skip
   have h1d := nF h1
   have h1o := (code_zero h1d).1
   have h1z := (code_zero h1d).2
   have h1zd := isB_true.1 h1z
   refine wp_skip ?_
   refine then_normal ?_
   refine wsr ?_
   replace B2 := B2.ext E3
   refine wld (v := .int .i64 c) g2 (0) scal_int64 (B2.get (rfl)) ?_
   replace B1 := B1.ext E3
   refine wcli (neighbours_any F hF g1 _ c (by omega) _ B1) ?_
   intro g3 cap1 cs1 w4 B3 S1 E4 hg_
   have q_g1_g3 := Nat.ne_of_lt (Nat.lt_of_lt_of_le B1.lt hg_)
   have q_g2_g3 := Nat.ne_of_lt (Nat.lt_of_lt_of_le B2.lt hg_)
   have lo_g3 := Nat.le_trans (H2).size hg_
   have nl1 := nbL_length F c
   refine wv (.slice (some ⟨g3, 0, none⟩) ((nbL F c).length) cap1) ?_
   refine wv (.int .i64 0) ?_
   refine wpList_nil (then_normal ?_)
   refine wp_ret ?_
   refine ret2 (.slice (some ⟨g3, 0, none⟩) ((nbL F c).length) cap1) (.int .i64 0) rfl ?_ ?_ rfl ?_
   · exact resT (by kernel_rfl)
   · exact resT (by kernel_rfl)
   have H3 := H2.trans E4
   have hq : nbL F c = nbL F c := by rfl
   exact .inl ⟨(by assumption), g3, (nbL F c).length, cap1, cs1, rfl, B3, S1.of_eq hq, H3, lo_g3⟩


--# iNeighboursOf_t
theorem iNeighboursOf_t (F : Fld) (hF : F.wf) (c : Int) (w : World) (hz : code F (isB F c) = 0) : Calls Try.prog 25 #[.agg F.cells, .int .i64 c] w (RetI w 2 .i64 (nbL F c) (fun v => .tuple #[v, .int .i64 0])) := by
  refine (iNeighboursOf_any F hF c w).mono fun e w' h => ?_
  rcases h with ⟨_, h⟩ | ⟨h, _⟩
  · exact h
  · exact absurd hz h

--# iNeighboursOf_f
theorem iNeighboursOf_f (F : Fld) (hF : F.wf) (c : Int) (w : World) (hz : code F (isB F c) ≠ 0) : Calls Try.prog 25 #[.agg F.cells, .int .i64 c] w fun e w' => e = .returned (.tuple #[.slice none 0 0, .int .i64 (code F (isB F c))]) ∧ Ext w w' := by
  refine (iNeighboursOf_any F hF c w).mono fun e w' h => ?_
  rcases h with ⟨h, _⟩ | ⟨_, h⟩
  · exact absurd h hz
  · exact h

