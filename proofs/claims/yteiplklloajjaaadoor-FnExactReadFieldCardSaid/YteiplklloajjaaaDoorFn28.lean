/-
  Contracts: texts cut, numbers read. Conditions: what the variables hold (TW).
-/
import Derived.Test.YteiplklloajjaaaDoorTy
import Derived.Test.YteiplklloajjaaaDoorSl
import Derived.Test.YteiplklloajjaaaDoorMth
import Derived.Test.YteiplklloajjaaaDoorFn7
import Derived.Test.YteiplklloajjaaaDoorTn
import Derived.Test.YteiplklloajjaaaDoorLx
namespace Go.Proofs.YteiplklloajjaaaDoor
open Go.RowKit
set_option linter.unusedSimpArgs false
set_option linter.unusedVariables false
set_option maxHeartbeats 4000000
set_option maxRecDepth 100000
attribute [local irreducible] wpList Code.wp
--# l01Split_any
theorem l01Split_any (l : List UInt8) (c : UInt8) (hl : l.length ≤ 1048576) (w : World) :
 Calls Tryd.prog 35 #[.string (bs l), .int .u8 ((c.toNat : Nat) : Int)] w fun e w' => RetS w 9 (cutL c l) e w' := by
 refine calls_of_wp Tryd.func35 rfl ?_
 refine wp_frame (a' := ⟨#[.string (bs l), .int .u8 ((c.toNat : Nat) : Int), undef, undef, undef, undef, undef, undef, undef, undef, undef, undef, undef, undef, undef, undef, undef, undef, undef, undef, undef, undef, undef, undef, undef, undef, undef, undef, undef, undef, undef, undef, undef, undef, undef], []⟩) (by kernel_rfl) ?_
 refine wsr ?_
 refine wv (.slice none 0 0) ?_
 refine wpList_nil (then_normal ?_)
 refine wsr ?_
 refine wbsl 0 #[] slt__string ?_
 intro g1 w1 B1 E1 hg_
 have lo_g1 := Nat.le_trans ((Ext.refl w)).size hg_
 have S1 : SlS #[] 0 0 [] := SlS.nil
 refine wv (.slice (some ⟨g1, 0, none⟩) 0 0) ?_
 refine wpList_nil (then_normal ?_)
 refine wsr ?_
 refine wv (.int .i64 0) ?_
 refine wpList_nil (then_normal ?_)
 refine wp_seq ?_
 refine wsr ?_
 refine wv (.int .i64 0) ?_
 refine wpList_nil (then_normal ?_)
 refine wp_block ?_
 have H1 := (Ext.refl w).trans E1
 refine wp_loop_k (fun m1 a wl1 => ∃ (i : Nat) (xs : List (List UInt8)) (b : Nat) (go : Nat) (no : Nat) (capo : Nat) (cso : Array Value), m1 = l.length - i ∧ i ≤ l.length ∧ cutL c l = xs ++ cutL c (l.drop b) ∧ b ≤ i ∧ (∀ j, b ≤ j → j < i → atB l j ≠ c) ∧ xs.length ≤ b ∧ SlS cso no capo xs ∧ w.heap.size ≤ go ∧ Ext w wl1 ∧ Blk wl1 go 9 cso ∧ (∃ J1 : Nat → Value, a = ⟨#[.string (bs l), .int .u8 ((c.toNat : Nat) : Int), undef, undef, .slice none 0 0, .slice (some ⟨go, 0, none⟩) no capo, .int .i64 (b : Int), .int .i64 (i : Int), .slice (some ⟨g1, 0, none⟩) 0 0, J1 9, J1 10, J1 11, J1 12, J1 13, J1 14, J1 15, J1 16, J1 17, J1 18, J1 19, J1 20, J1 21, J1 22, J1 23, J1 24, J1 25, J1 26, J1 27, J1 28, undef, undef, undef, undef, undef, undef], []⟩)) (l.length) ?_ ?_
 · refine ⟨0, [], 0, g1, 0, 0, #[], rfl, ?_, ?_, ?_, ?_, ?_, ?_, ?_, H1, B1, exJ (by kernel_rfl)⟩
   · omega
   · rfl
   · omega
   · intro j h1 h2; omega
   · exact Nat.le_refl 0
   · refine S1.of_eq ?_
     rfl
   · exact lo_g1
 intro m1 a wl1 hI
 obtain ⟨i, xs, b, go, no, capo, cso, rfl, hi_, hc, hb, hn, hx, So, lo_go, HL1, Bo, J1, rfl⟩ := hI
 have len_So := So.len
 refine wp_seq ?_
 refine wsr ?_
 refine wv (.int .i64 (i : Int)) ?_
 refine wv (.string (bs l)) ?_
 refine wlenS l Tryd.underlying9 ?_
 refine wv (.bool (decide ((i : Int) < (l.length : Int)))) ?_
 refine wpList_nil (then_normal ?_)
 refine wsplit (decide ((i : Int) < (l.length : Int))) (fun h1 => ?_) (fun h1 => ?_)
 · skip
   have h1d := dT h1
   refine wp_skip ?_
   refine then_normal ?_
   refine wp_seq ?_
   refine wp_block ?_
   refine wsr ?_
   refine wv (.string (bs l)) ?_
   refine wv (.int .i64 (i : Int)) ?_
   have by1 := atN_in l i
   refine widxS l i .i64 Tryd.underlying9 ?_
   refine wv (.int .u8 ((c.toNat : Nat) : Int)) ?_
   refine wv (.bool ((atN l i) == ((c.toNat : Nat) : Int))) ?_
   refine wpList_nil (then_normal ?_)
   refine wsplit ((atN l i) == ((c.toNat : Nat) : Int)) (fun h2 => ?_) (fun h2 => ?_)
   · skip
     have h2d := eT h2
     refine wsr ?_
     refine wv (.slice (some ⟨go, 0, none⟩) no capo) ?_
     refine wv (.string (bs l)) ?_
     refine wv (.int .i64 (b : Int)) ?_
     refine wv (.int .i64 (i : Int)) ?_
     refine wslcS l b i .i64 .i64 Tryd.underlying9 ?_
     refine wbsl 1 #[.string (bs ((l.drop b).take (i - b)))] slt__string ?_
     intro g2 w2 B2 E2 hg_
     have q_go_g2 := Nat.ne_of_lt (Nat.lt_of_lt_of_le Bo.lt hg_)
     have lo_g2 := Nat.le_trans (HL1).size hg_
     replace Bo := Bo.ext E2
     have H2 := HL1.trans E2
     refine wapps ((l.drop b).take (i - b)) slt__string Bo So B2 ?_
     intro g3 cap1 cs1 w3 B3 S2 X1 or1
     have n_g2_g3 := ne_app B2 (Ne.symm q_go_g2) or1
     have lo_g3 := Wr.lo or1 lo_go (H2).size
     refine wv (.slice (some ⟨g3, 0, none⟩) (no + 1) cap1) ?_
     refine wpList_nil (then_normal ?_)
     refine wp_region_lit ?_
     refine wv (.int .i64 (i : Int)) ?_
     refine wi64 ((i : Int) + 1) ?_
     refine wv (.int .i64 ((i : Int) + 1)) ?_
     refine wpList_nil (block_normal (then_normal ?_))
     refine wp_region_lit ?_
     refine wv (.int .i64 (i : Int)) ?_
     refine wi64 ((i : Int) + 1) ?_
     refine wv (.int .i64 ((i : Int) + 1)) ?_
     refine wpList_nil (then_normal ?_)
     have H3 := X1.ext w lo_go H2
     refine ⟨_, ?_, i + 1, xs ++ [(l.drop b).take (i - b)], i + 1, g3, no + 1, cap1, cs1, rfl, ?_, ?_, ?_, ?_, ?_, ?_, ?_, H3, B3, exJ (by kernel_rfl)⟩
     · omega
     · omega
     · first | exact hc | (rw [hc, cut_step hb (by omega) hn (atB_of (by assumption)), List.append_assoc]; rfl)
     · omega
     · first | exact hn_new | exact hn_step hn (by assumption)
     · first | omega | (rw [List.length_append, List.length_singleton]; omega)
     · refine S2.of_eq ?_
       rfl
     · exact lo_g3
   · skip
     have h2d := eF h2
     refine wp_skip ?_
     refine block_normal (then_normal ?_)
     refine wp_region_lit ?_
     refine wv (.int .i64 (i : Int)) ?_
     refine wi64 ((i : Int) + 1) ?_
     refine wv (.int .i64 ((i : Int) + 1)) ?_
     refine wpList_nil (then_normal ?_)
     refine ⟨_, ?_, i + 1, xs, b, go, no, capo, cso, rfl, ?_, ?_, ?_, ?_, ?_, ?_, ?_, HL1, Bo, exJ (by kernel_rfl)⟩
     · omega
     · omega
     · first | exact hc | (rw [hc, cut_step hb (by omega) hn (atB_of (by assumption)), List.append_assoc]; rfl)
     · omega
     · first | exact hn_new | exact hn_step hn (by assumption)
     · first | omega | (rw [List.length_append, List.length_singleton]; omega)
     · refine So.of_eq ?_
       rfl
     · exact lo_go
 · skip
   have h1d := dF h1
   refine wp_exit ?_
   refine then_exit ?_
   refine then_exit ?_
   refine block_exit ?_
   refine then_normal ?_
   refine wsr ?_
   refine wv (.slice (some ⟨go, 0, none⟩) no capo) ?_
   refine wv (.string (bs l)) ?_
   refine wv (.int .i64 (b : Int)) ?_
   refine wslfS l b .i64 Tryd.underlying9 ?_
   refine wbsl 1 #[.string (bs (l.drop b))] slt__string ?_
   intro g4 w4 B4 E3 hg_
   have q_go_g4 := Nat.ne_of_lt (Nat.lt_of_lt_of_le Bo.lt hg_)
   have lo_g4 := Nat.le_trans (HL1).size hg_
   replace Bo := Bo.ext E3
   have H4 := HL1.trans E3
   refine wapps (l.drop b) slt__string Bo So B4 ?_
   intro g5 cap2 cs2 w5 B5 S3 X2 or2
   have n_g4_g5 := ne_app B4 (Ne.symm q_go_g4) or2
   have lo_g5 := Wr.lo or2 lo_go (H4).size
   refine wv (.slice (some ⟨g5, 0, none⟩) (no + 1) cap2) ?_
   refine wpList_nil (then_normal ?_)
   refine wp_ret ?_
   refine ret1 (.slice (some ⟨g5, 0, none⟩) (no + 1) cap2) rfl ?_ rfl ?_
   · exact resT (by kernel_rfl)
   have H5 := X2.ext w lo_go H4
   exact ⟨g5, _, _, _, rfl, B5, S3.of_eq (by rw [hc, cut_end (fun j h1 h2 => hn j h1 (by omega))]), H5, lo_g5⟩


--# l01Number_any
theorem l01Number_any (l : List UInt8) (hl : l.length ≤ 1048576) (w : World) :
 Calls Tryd.prog 36 #[.string (bs l)] w fun e w' => e = .returned (.tuple #[.int .i64 (numV l), .bool (numO l)]) ∧ Ext w w' := by
 refine calls_of_wp Tryd.func36 rfl ?_
 refine wp_frame (a' := ⟨#[.string (bs l), undef, undef, undef, undef, undef, undef, undef, undef, undef, undef, undef, undef, undef, undef, undef, undef, undef, undef, undef, undef, undef, undef, undef, undef, undef, undef, undef, undef, undef, undef, undef, undef, undef, undef, undef, undef, undef, undef, undef, undef, undef, undef, undef, undef, undef, undef, undef], []⟩) (by kernel_rfl) ?_
 refine wsr ?_
 refine wv (.int .i64 0) ?_
 refine wv (.bool false) ?_
 refine wpList_nil (then_normal ?_)
 refine wp_seq ?_
 refine wsr ?_
 refine wv (.string (bs l)) ?_
 refine wvv (.bool (((bs l).toList == (bs ([] : List UInt8)).toList))) (.bool (decide (l = ([] : List UInt8)))) (congrArg Value.bool (bs_eqv _ _)) ?_
 refine wv (.bool (decide (l = ([] : List UInt8)))) ?_
 refine split_bool (decide (l = ([] : List UInt8))) (fun h1 => ?_) (fun h1 => ?_)
 · skip
   refine wbl 8 true h1 ?_
   have h1d := dT h1
   refine wsk ?_
   refine wsk ?_
   refine wsk ?_
   refine wv (.bool true) ?_
   refine wv (.bool true) ?_
   refine wsk ?_
   refine wsk ?_
   refine wsk ?_
   refine wsk ?_
   refine wsk ?_
   refine wsk ?_
   refine wsk ?_
   refine wsk ?_
   refine wv (.bool true) ?_
   refine wpList_nil (then_normal ?_)
   refine wct ?_
   refine wsr ?_
   refine wv (.int .i64 0) ?_
   refine wv (.bool false) ?_
   refine wpList_nil (then_normal ?_)
   refine wp_ret ?_
   refine then_ret ?_
   refine ret2 (.int .i64 (numV l)) (.bool (numO l)) rfl ?_ ?_ rfl ?_
   · refine (resT (v := .int .i64 0) (by kernel_rfl)).trans ?_
     refine congrArg (Value.int _) ?_
     first | exact (numN num_nil).1.symm | (rename_i hl_; exact (numN num_nil).1.symm) | (subst_vars; exact (numN num_nil).1.symm) | exact (numN (num_long (by omega))).1.symm | exact (numN (num_zero (by assumption) (by omega))).1.symm | exact (numN (hnl.trans (dec_bad (i := i) (by omega) (by omega)))).1.symm | exact (num_val h0 hnl (by rw [show l.length = i by omega]; exact hd)).1
   · refine (resT (v := .bool false) (by kernel_rfl)).trans ?_
     refine congrArg Value.bool ?_
     first | exact (numN num_nil).2.symm | (rename_i hl_; exact (numN num_nil).2.symm) | (subst_vars; exact (numN num_nil).2.symm) | exact (numN (num_long (by omega))).2.symm | exact (numN (num_zero (by assumption) (by omega))).2.symm | exact (numN (hnl.trans (dec_bad (i := i) (by omega) (by omega)))).2.symm | exact (num_val h0 hnl (by rw [show l.length = i by omega]; exact hd)).2
   exact ⟨rfl, (Ext.refl w)⟩
 · skip
   refine wbl 8 false h1 ?_
   have h1d := dF h1
   have hp_ := List.length_pos_iff.2 h1d
   refine wv (.string (bs l)) ?_
   refine wlenS l Tryd.underlying9 ?_
   refine wv (.bool (decide (9 < (l.length : Int)))) ?_
   refine wv (.bool (decide (9 < (l.length : Int)))) ?_
   refine wv (.bool (decide (9 < (l.length : Int)))) ?_
   refine split_bool (decide (9 < (l.length : Int))) (fun h2 => ?_) (fun h2 => ?_)
   · skip
     refine wbl 13 true h2 ?_
     have h2d := dT h2
     refine wsk ?_
     refine wsk ?_
     refine wsk ?_
     refine wsk ?_
     refine wsk ?_
     refine wsk ?_
     refine wsk ?_
     refine wsk ?_
     refine wv (.bool true) ?_
     refine wpList_nil (then_normal ?_)
     refine wct ?_
     refine wsr ?_
     refine wv (.int .i64 0) ?_
     refine wv (.bool false) ?_
     refine wpList_nil (then_normal ?_)
     refine wp_ret ?_
     refine then_ret ?_
     refine ret2 (.int .i64 (numV l)) (.bool (numO l)) rfl ?_ ?_ rfl ?_
     · refine (resT (v := .int .i64 0) (by kernel_rfl)).trans ?_
       refine congrArg (Value.int _) ?_
       first | exact (numN num_nil).1.symm | (rename_i hl_; exact (numN num_nil).1.symm) | (subst_vars; exact (numN num_nil).1.symm) | exact (numN (num_long (by omega))).1.symm | exact (numN (num_zero (by assumption) (by omega))).1.symm | exact (numN (hnl.trans (dec_bad (i := i) (by omega) (by omega)))).1.symm | exact (num_val h0 hnl (by rw [show l.length = i by omega]; exact hd)).1
     · refine (resT (v := .bool false) (by kernel_rfl)).trans ?_
       refine congrArg Value.bool ?_
       first | exact (numN num_nil).2.symm | (rename_i hl_; exact (numN num_nil).2.symm) | (subst_vars; exact (numN num_nil).2.symm) | exact (numN (num_long (by omega))).2.symm | exact (numN (num_zero (by assumption) (by omega))).2.symm | exact (numN (hnl.trans (dec_bad (i := i) (by omega) (by omega)))).2.symm | exact (num_val h0 hnl (by rw [show l.length = i by omega]; exact hd)).2
     exact ⟨rfl, (Ext.refl w)⟩
   · skip
     refine wbl 13 false h2 ?_
     have h2d := dF h2
     refine wv (.string (bs l)) ?_
     have by1 := atN_in l 0
     refine widxS l 0 .i64 Tryd.underlying9 ?_
     refine wv (.bool ((atN l 0) == 48)) ?_
     refine wv (.bool ((atN l 0) == 48)) ?_
     refine split_bool ((atN l 0) == 48) (fun h3 => ?_) (fun h3 => ?_)
     · skip
       refine wbl 17 true h3 ?_
       have h3d := eT h3
       refine wv (.string (bs l)) ?_
       refine wlenS l Tryd.underlying9 ?_
       refine wv (.bool (decide (1 < (l.length : Int)))) ?_
       refine wv (.bool (decide (1 < (l.length : Int)))) ?_
       refine wv (.bool (decide (1 < (l.length : Int)))) ?_
       refine wpList_nil (then_normal ?_)
       refine wsplit (decide (1 < (l.length : Int))) (fun h4 => ?_) (fun h4 => ?_)
       · skip
         have h4d := dT h4
         refine wsr ?_
         refine wv (.int .i64 0) ?_
         refine wv (.bool false) ?_
         refine wpList_nil (then_normal ?_)
         refine wp_ret ?_
         refine then_ret ?_
         refine ret2 (.int .i64 (numV l)) (.bool (numO l)) rfl ?_ ?_ rfl ?_
         · refine (resT (v := .int .i64 0) (by kernel_rfl)).trans ?_
           refine congrArg (Value.int _) ?_
           first | exact (numN num_nil).1.symm | (rename_i hl_; exact (numN num_nil).1.symm) | (subst_vars; exact (numN num_nil).1.symm) | exact (numN (num_long (by omega))).1.symm | exact (numN (num_zero (by assumption) (by omega))).1.symm | exact (numN (hnl.trans (dec_bad (i := i) (by omega) (by omega)))).1.symm | exact (num_val h0 hnl (by rw [show l.length = i by omega]; exact hd)).1
         · refine (resT (v := .bool false) (by kernel_rfl)).trans ?_
           refine congrArg Value.bool ?_
           first | exact (numN num_nil).2.symm | (rename_i hl_; exact (numN num_nil).2.symm) | (subst_vars; exact (numN num_nil).2.symm) | exact (numN (num_long (by omega))).2.symm | exact (numN (num_zero (by assumption) (by omega))).2.symm | exact (numN (hnl.trans (dec_bad (i := i) (by omega) (by omega)))).2.symm | exact (num_val h0 hnl (by rw [show l.length = i by omega]; exact hd)).2
         exact ⟨rfl, (Ext.refl w)⟩
       · skip
         have h4d := dF h4
         refine wp_skip ?_
         refine then_normal ?_
         refine wsr ?_
         refine wv (.int .i64 0) ?_
         refine wpList_nil (then_normal ?_)
         refine wp_seq ?_
         refine wsr ?_
         refine wv (.int .i64 0) ?_
         refine wpList_nil (then_normal ?_)
         refine wp_block ?_
         refine wp_loop_k (fun m1 a wl1 => ∃ (i : Nat) (n : Int), m1 = l.length - i ∧ i ≤ l.length ∧ numL l = Lib.decFrom 0 l ∧ Lib.decFrom 0 (l.take i) = some n.toNat ∧ 0 ≤ n ∧ l.length ≤ 9 ∧ Ext w wl1 ∧ (∃ J1 : Nat → Value, a = ⟨#[.string (bs l), undef, J1 2, J1 3, .int .i64 n, .int .i64 (i : Int), .string (bs l), .bool (decide (l = ([] : List UInt8))), .bool false, .string (bs l), .int .i64 (l.length : Int), .bool (decide (9 < (l.length : Int))), .bool (decide (9 < (l.length : Int))), .bool false, .string (bs l), .int .u8 (atN l 0), .bool ((atN l 0) == 48), .bool true, .string (bs l), .int .i64 (l.length : Int), .bool (decide (1 < (l.length : Int))), .bool (decide (1 < (l.length : Int))), .bool (decide (1 < (l.length : Int))), J1 23, J1 24, J1 25, J1 26, J1 27, J1 28, J1 29, J1 30, J1 31, J1 32, J1 33, J1 34, J1 35, J1 36, J1 37, J1 38, J1 39, J1 40, J1 41, J1 42, J1 43, J1 44, J1 45, J1 46, undef], []⟩)) (l.length) ?_ ?_
         · refine ⟨0, 0, rfl, ?_, ?_, ?_, ?_, ?_, (Ext.refl w), exJ (by kernel_rfl)⟩
           · omega
           · first | exact num_else (by assumption) (by omega) (.inl (by assumption)) | exact num_else (by assumption) (by omega) (.inr (by omega))
           · rfl
           · omega
           · omega
         intro m1 a wl1 hI
         obtain ⟨i, n, rfl, hi_, hnl, hd, h0, h9, HL1, J1, rfl⟩ := hI
         have nb_ := dec_small hd h9
         refine wp_seq ?_
         refine wsr ?_
         refine wv (.int .i64 (i : Int)) ?_
         refine wv (.string (bs l)) ?_
         refine wlenS l Tryd.underlying9 ?_
         refine wv (.bool (decide ((i : Int) < (l.length : Int)))) ?_
         refine wpList_nil (then_normal ?_)
         refine wsplit (decide ((i : Int) < (l.length : Int))) (fun h5 => ?_) (fun h5 => ?_)
         · skip
           have h5d := dT h5
           refine wp_skip ?_
           refine then_normal ?_
           refine wp_seq ?_
           refine wp_block ?_
           refine wp_seq ?_
           refine wsr ?_
           refine wv (.string (bs l)) ?_
           refine wv (.int .i64 (i : Int)) ?_
           have by2 := atN_in l i
           refine widxS l i .i64 Tryd.underlying9 ?_
           refine wv (.bool (decide ((atN l i) < 48))) ?_
           refine wv (.bool (decide ((atN l i) < 48))) ?_
           refine split_bool (decide ((atN l i) < 48)) (fun h6 => ?_) (fun h6 => ?_)
           · skip
             refine wbl 33 true h6 ?_
             have h6d := dT h6
             refine wsk ?_
             refine wsk ?_
             refine wsk ?_
             refine wsk ?_
             refine wv (.bool true) ?_
             refine wpList_nil (then_normal ?_)
             refine wct ?_
             refine wsr ?_
             refine wv (.int .i64 0) ?_
             refine wv (.bool false) ?_
             refine wpList_nil (then_normal ?_)
             refine wp_ret ?_
             refine then_ret (block_ret (then_ret (then_ret (block_ret (then_ret ?_)))))
             refine ret2 (.int .i64 (numV l)) (.bool (numO l)) rfl ?_ ?_ rfl ?_
             · refine (resT (v := .int .i64 0) (by kernel_rfl)).trans ?_
               refine congrArg (Value.int _) ?_
               first | exact (numN num_nil).1.symm | (rename_i hl_; exact (numN num_nil).1.symm) | (subst_vars; exact (numN num_nil).1.symm) | exact (numN (num_long (by omega))).1.symm | exact (numN (num_zero (by assumption) (by omega))).1.symm | exact (numN (hnl.trans (dec_bad (i := i) (by omega) (by omega)))).1.symm | exact (num_val h0 hnl (by rw [show l.length = i by omega]; exact hd)).1
             · refine (resT (v := .bool false) (by kernel_rfl)).trans ?_
               refine congrArg Value.bool ?_
               first | exact (numN num_nil).2.symm | (rename_i hl_; exact (numN num_nil).2.symm) | (subst_vars; exact (numN num_nil).2.symm) | exact (numN (num_long (by omega))).2.symm | exact (numN (num_zero (by assumption) (by omega))).2.symm | exact (numN (hnl.trans (dec_bad (i := i) (by omega) (by omega)))).2.symm | exact (num_val h0 hnl (by rw [show l.length = i by omega]; exact hd)).2
             exact ⟨rfl, HL1⟩
           · skip
             refine wbl 33 false h6 ?_
             have h6d := dF h6
             refine wv (.string (bs l)) ?_
             refine wv (.int .i64 (i : Int)) ?_
             have by3 := atN_in l i
             refine widxS l i .i64 Tryd.underlying9 ?_
             refine wv (.bool (decide (57 < atN l i))) ?_
             refine wv (.bool (decide (57 < atN l i))) ?_
             refine wpList_nil (then_normal ?_)
             refine wsplit (decide (57 < atN l i)) (fun h7 => ?_) (fun h7 => ?_)
             · skip
               have h7d := dT h7
               refine wsr ?_
               refine wv (.int .i64 0) ?_
               refine wv (.bool false) ?_
               refine wpList_nil (then_normal ?_)
               refine wp_ret ?_
               refine then_ret (block_ret (then_ret (then_ret (block_ret (then_ret ?_)))))
               refine ret2 (.int .i64 (numV l)) (.bool (numO l)) rfl ?_ ?_ rfl ?_
               · refine (resT (v := .int .i64 0) (by kernel_rfl)).trans ?_
                 refine congrArg (Value.int _) ?_
                 first | exact (numN num_nil).1.symm | (rename_i hl_; exact (numN num_nil).1.symm) | (subst_vars; exact (numN num_nil).1.symm) | exact (numN (num_long (by omega))).1.symm | exact (numN (num_zero (by assumption) (by omega))).1.symm | exact (numN (hnl.trans (dec_bad (i := i) (by omega) (by omega)))).1.symm | exact (num_val h0 hnl (by rw [show l.length = i by omega]; exact hd)).1
               · refine (resT (v := .bool false) (by kernel_rfl)).trans ?_
                 refine congrArg Value.bool ?_
                 first | exact (numN num_nil).2.symm | (rename_i hl_; exact (numN num_nil).2.symm) | (subst_vars; exact (numN num_nil).2.symm) | exact (numN (num_long (by omega))).2.symm | exact (numN (num_zero (by assumption) (by omega))).2.symm | exact (numN (hnl.trans (dec_bad (i := i) (by omega) (by omega)))).2.symm | exact (num_val h0 hnl (by rw [show l.length = i by omega]; exact hd)).2
               exact ⟨rfl, HL1⟩
             · skip
               have h7d := dF h7
               refine wp_skip ?_
               refine then_normal ?_
               refine wp_region_lit ?_
               refine wv (.int .i64 n) ?_
               refine wi64 (10 * n) ?_
               refine wv (.string (bs l)) ?_
               refine wv (.int .i64 (i : Int)) ?_
               have by4 := atN_in l i
               refine widxS l i .i64 Tryd.underlying9 ?_
               refine wu8 ((atN l i) - 48) ?_
               refine wi64 ((atN l i) - 48) ?_
               refine wi64 ((10 * n) + ((atN l i) - 48)) ?_
               refine wv (.int .i64 ((10 * n) + ((atN l i) - 48))) ?_
               refine wpList_nil (block_normal (then_normal ?_))
               refine wp_region_lit ?_
               refine wv (.int .i64 (i : Int)) ?_
               refine wi64 ((i : Int) + 1) ?_
               refine wv (.int .i64 ((i : Int) + 1)) ?_
               refine wpList_nil (then_normal ?_)
               refine ⟨_, ?_, i + 1, (10 * n) + ((atN l i) - 48), rfl, ?_, ?_, ?_, ?_, ?_, HL1, exJ (by kernel_rfl)⟩
               · omega
               · omega
               · exact hnl
               · exact dec_step hd h0 (by omega) (by omega) (by omega)
               · omega
               · omega
         · skip
           have h5d := dF h5
           refine wp_exit ?_
           refine then_exit ?_
           refine then_exit ?_
           refine block_exit ?_
           refine then_normal ?_
           refine wsr ?_
           refine wv (.int .i64 n) ?_
           refine wv (.int .i64 n) ?_
           refine wv (.bool true) ?_
           refine wpList_nil (then_normal ?_)
           refine wp_ret ?_
           refine ret2 (.int .i64 (numV l)) (.bool (numO l)) rfl ?_ ?_ rfl ?_
           · refine (resT (v := .int .i64 n) (by kernel_rfl)).trans ?_
             refine congrArg (Value.int _) ?_
             first | exact (numN num_nil).1.symm | (rename_i hl_; exact (numN num_nil).1.symm) | (subst_vars; exact (numN num_nil).1.symm) | exact (numN (num_long (by omega))).1.symm | exact (numN (num_zero (by assumption) (by omega))).1.symm | exact (numN (hnl.trans (dec_bad (i := i) (by omega) (by omega)))).1.symm | exact (num_val h0 hnl (by rw [show l.length = i by omega]; exact hd)).1
           · refine (resT (v := .bool true) (by kernel_rfl)).trans ?_
             refine congrArg Value.bool ?_
             first | exact (numN num_nil).2.symm | (rename_i hl_; exact (numN num_nil).2.symm) | (subst_vars; exact (numN num_nil).2.symm) | exact (numN (num_long (by omega))).2.symm | exact (numN (num_zero (by assumption) (by omega))).2.symm | exact (numN (hnl.trans (dec_bad (i := i) (by omega) (by omega)))).2.symm | exact (num_val h0 hnl (by rw [show l.length = i by omega]; exact hd)).2
           exact ⟨rfl, HL1⟩
     · skip
       refine wbl 17 false h3 ?_
       have h3d := eF h3
       refine wsk ?_
       refine wsk ?_
       refine wsk ?_
       refine wv (.bool false) ?_
       refine wv (.bool false) ?_
       refine wpList_nil (then_normal ?_)
       refine wcf ?_
       refine wp_skip ?_
       refine then_normal ?_
       refine wsr ?_
       refine wv (.int .i64 0) ?_
       refine wpList_nil (then_normal ?_)
       refine wp_seq ?_
       refine wsr ?_
       refine wv (.int .i64 0) ?_
       refine wpList_nil (then_normal ?_)
       refine wp_block ?_
       refine wp_loop_k (fun m2 a wl2 => ∃ (i : Nat) (n : Int), m2 = l.length - i ∧ i ≤ l.length ∧ numL l = Lib.decFrom 0 l ∧ Lib.decFrom 0 (l.take i) = some n.toNat ∧ 0 ≤ n ∧ l.length ≤ 9 ∧ Ext w wl2 ∧ (∃ J2 : Nat → Value, a = ⟨#[.string (bs l), undef, J2 2, J2 3, .int .i64 n, .int .i64 (i : Int), .string (bs l), .bool (decide (l = ([] : List UInt8))), .bool false, .string (bs l), .int .i64 (l.length : Int), .bool (decide (9 < (l.length : Int))), .bool (decide (9 < (l.length : Int))), .bool false, .string (bs l), .int .u8 (atN l 0), .bool ((atN l 0) == 48), .bool false, undef, undef, undef, .bool false, .bool false, J2 23, J2 24, J2 25, J2 26, J2 27, J2 28, J2 29, J2 30, J2 31, J2 32, J2 33, J2 34, J2 35, J2 36, J2 37, J2 38, J2 39, J2 40, J2 41, J2 42, J2 43, J2 44, J2 45, J2 46, undef], []⟩)) (l.length) ?_ ?_
       · refine ⟨0, 0, rfl, ?_, ?_, ?_, ?_, ?_, (Ext.refl w), exJ (by kernel_rfl)⟩
         · omega
         · first | exact num_else (by assumption) (by omega) (.inl (by assumption)) | exact num_else (by assumption) (by omega) (.inr (by omega))
         · rfl
         · omega
         · omega
       intro m2 a wl2 hI
       obtain ⟨i, n, rfl, hi_, hnl, hd, h0, h9, HL2, J2, rfl⟩ := hI
       have nb_ := dec_small hd h9
       refine wp_seq ?_
       refine wsr ?_
       refine wv (.int .i64 (i : Int)) ?_
       refine wv (.string (bs l)) ?_
       refine wlenS l Tryd.underlying9 ?_
       refine wv (.bool (decide ((i : Int) < (l.length : Int)))) ?_
       refine wpList_nil (then_normal ?_)
       refine wsplit (decide ((i : Int) < (l.length : Int))) (fun h8 => ?_) (fun h8 => ?_)
       · skip
         have h8d := dT h8
         refine wp_skip ?_
         refine then_normal ?_
         refine wp_seq ?_
         refine wp_block ?_
         refine wp_seq ?_
         refine wsr ?_
         refine wv (.string (bs l)) ?_
         refine wv (.int .i64 (i : Int)) ?_
         have by5 := atN_in l i
         refine widxS l i .i64 Tryd.underlying9 ?_
         refine wv (.bool (decide ((atN l i) < 48))) ?_
         refine wv (.bool (decide ((atN l i) < 48))) ?_
         refine split_bool (decide ((atN l i) < 48)) (fun h9 => ?_) (fun h9 => ?_)
         · skip
           refine wbl 33 true h9 ?_
           have h9d := dT h9
           refine wsk ?_
           refine wsk ?_
           refine wsk ?_
           refine wsk ?_
           refine wv (.bool true) ?_
           refine wpList_nil (then_normal ?_)
           refine wct ?_
           refine wsr ?_
           refine wv (.int .i64 0) ?_
           refine wv (.bool false) ?_
           refine wpList_nil (then_normal ?_)
           refine wp_ret ?_
           refine then_ret (block_ret (then_ret (then_ret (block_ret (then_ret ?_)))))
           refine ret2 (.int .i64 (numV l)) (.bool (numO l)) rfl ?_ ?_ rfl ?_
           · refine (resT (v := .int .i64 0) (by kernel_rfl)).trans ?_
             refine congrArg (Value.int _) ?_
             first | exact (numN num_nil).1.symm | (rename_i hl_; exact (numN num_nil).1.symm) | (subst_vars; exact (numN num_nil).1.symm) | exact (numN (num_long (by omega))).1.symm | exact (numN (num_zero (by assumption) (by omega))).1.symm | exact (numN (hnl.trans (dec_bad (i := i) (by omega) (by omega)))).1.symm | exact (num_val h0 hnl (by rw [show l.length = i by omega]; exact hd)).1
           · refine (resT (v := .bool false) (by kernel_rfl)).trans ?_
             refine congrArg Value.bool ?_
             first | exact (numN num_nil).2.symm | (rename_i hl_; exact (numN num_nil).2.symm) | (subst_vars; exact (numN num_nil).2.symm) | exact (numN (num_long (by omega))).2.symm | exact (numN (num_zero (by assumption) (by omega))).2.symm | exact (numN (hnl.trans (dec_bad (i := i) (by omega) (by omega)))).2.symm | exact (num_val h0 hnl (by rw [show l.length = i by omega]; exact hd)).2
           exact ⟨rfl, HL2⟩
         · skip
           refine wbl 33 false h9 ?_
           have h9d := dF h9
           refine wv (.string (bs l)) ?_
           refine wv (.int .i64 (i : Int)) ?_
           have by6 := atN_in l i
           refine widxS l i .i64 Tryd.underlying9 ?_
           refine wv (.bool (decide (57 < atN l i))) ?_
           refine wv (.bool (decide (57 < atN l i))) ?_
           refine wpList_nil (then_normal ?_)
           refine wsplit (decide (57 < atN l i)) (fun h10 => ?_) (fun h10 => ?_)
           · skip
             have h10d := dT h10
             refine wsr ?_
             refine wv (.int .i64 0) ?_
             refine wv (.bool false) ?_
             refine wpList_nil (then_normal ?_)
             refine wp_ret ?_
             refine then_ret (block_ret (then_ret (then_ret (block_ret (then_ret ?_)))))
             refine ret2 (.int .i64 (numV l)) (.bool (numO l)) rfl ?_ ?_ rfl ?_
             · refine (resT (v := .int .i64 0) (by kernel_rfl)).trans ?_
               refine congrArg (Value.int _) ?_
               first | exact (numN num_nil).1.symm | (rename_i hl_; exact (numN num_nil).1.symm) | (subst_vars; exact (numN num_nil).1.symm) | exact (numN (num_long (by omega))).1.symm | exact (numN (num_zero (by assumption) (by omega))).1.symm | exact (numN (hnl.trans (dec_bad (i := i) (by omega) (by omega)))).1.symm | exact (num_val h0 hnl (by rw [show l.length = i by omega]; exact hd)).1
             · refine (resT (v := .bool false) (by kernel_rfl)).trans ?_
               refine congrArg Value.bool ?_
               first | exact (numN num_nil).2.symm | (rename_i hl_; exact (numN num_nil).2.symm) | (subst_vars; exact (numN num_nil).2.symm) | exact (numN (num_long (by omega))).2.symm | exact (numN (num_zero (by assumption) (by omega))).2.symm | exact (numN (hnl.trans (dec_bad (i := i) (by omega) (by omega)))).2.symm | exact (num_val h0 hnl (by rw [show l.length = i by omega]; exact hd)).2
             exact ⟨rfl, HL2⟩
           · skip
             have h10d := dF h10
             refine wp_skip ?_
             refine then_normal ?_
             refine wp_region_lit ?_
             refine wv (.int .i64 n) ?_
             refine wi64 (10 * n) ?_
             refine wv (.string (bs l)) ?_
             refine wv (.int .i64 (i : Int)) ?_
             have by7 := atN_in l i
             refine widxS l i .i64 Tryd.underlying9 ?_
             refine wu8 ((atN l i) - 48) ?_
             refine wi64 ((atN l i) - 48) ?_
             refine wi64 ((10 * n) + ((atN l i) - 48)) ?_
             refine wv (.int .i64 ((10 * n) + ((atN l i) - 48))) ?_
             refine wpList_nil (block_normal (then_normal ?_))
             refine wp_region_lit ?_
             refine wv (.int .i64 (i : Int)) ?_
             refine wi64 ((i : Int) + 1) ?_
             refine wv (.int .i64 ((i : Int) + 1)) ?_
             refine wpList_nil (then_normal ?_)
             refine ⟨_, ?_, i + 1, (10 * n) + ((atN l i) - 48), rfl, ?_, ?_, ?_, ?_, ?_, HL2, exJ (by kernel_rfl)⟩
             · omega
             · omega
             · exact hnl
             · exact dec_step hd h0 (by omega) (by omega) (by omega)
             · omega
             · omega
       · skip
         have h8d := dF h8
         refine wp_exit ?_
         refine then_exit ?_
         refine then_exit ?_
         refine block_exit ?_
         refine then_normal ?_
         refine wsr ?_
         refine wv (.int .i64 n) ?_
         refine wv (.int .i64 n) ?_
         refine wv (.bool true) ?_
         refine wpList_nil (then_normal ?_)
         refine wp_ret ?_
         refine ret2 (.int .i64 (numV l)) (.bool (numO l)) rfl ?_ ?_ rfl ?_
         · refine (resT (v := .int .i64 n) (by kernel_rfl)).trans ?_
           refine congrArg (Value.int _) ?_
           first | exact (numN num_nil).1.symm | (rename_i hl_; exact (numN num_nil).1.symm) | (subst_vars; exact (numN num_nil).1.symm) | exact (numN (num_long (by omega))).1.symm | exact (numN (num_zero (by assumption) (by omega))).1.symm | exact (numN (hnl.trans (dec_bad (i := i) (by omega) (by omega)))).1.symm | exact (num_val h0 hnl (by rw [show l.length = i by omega]; exact hd)).1
         · refine (resT (v := .bool true) (by kernel_rfl)).trans ?_
           refine congrArg Value.bool ?_
           first | exact (numN num_nil).2.symm | (rename_i hl_; exact (numN num_nil).2.symm) | (subst_vars; exact (numN num_nil).2.symm) | exact (numN (num_long (by omega))).2.symm | exact (numN (num_zero (by assumption) (by omega))).2.symm | exact (numN (hnl.trans (dec_bad (i := i) (by omega) (by omega)))).2.symm | exact (num_val h0 hnl (by rw [show l.length = i by omega]; exact hd)).2
         exact ⟨rfl, HL2⟩


--# parseInt
-- 63
theorem parseInt_t (l : List UInt8) (hl : l.length ≤ 1048576) (h : okP l = true) (w : World) (hT : TW w) :
    Calls Tryd.prog 63 #[.string (bs l), .int .i64 10, .int .i64 64] w fun e w' => e = .returned (.tuple #[.int .i64 (piV l), .nilIface]) ∧ Ext w w' := by
  have h1 := Any.strconv_ParseInt_10_at64_ok lPar (bs l) (by rw [bs_size]; omega) (piV l) (okP_t h) w
  change Calls Tryd.prog 63 _ _ _ at h1
  refine h1.mono ?_
  rintro e w' ⟨rfl, hw⟩
  refine ⟨rfl, ?_⟩
  rcases hw with rfl | ⟨t, rfl⟩
  · exact Ext.refl _
  · exact ext_of (Lib.bytesWorld_below _ _ _)
def PrnR (w : World) (e : Ending) (w' : World) : Prop := ∃ (v : Int) (N : Nat), e = .returned (.tuple #[.int .i64 v, .iface (lPar_ren.t 168) (.pointer (some ⟨N, 0, none⟩))]) ∧ Ext w w'
theorem parseInt_f (l : List UInt8) (hl : l.length ≤ 1048576) (h : okP l = false) (w : World) (hT : TW w) :
    Calls Tryd.prog 63 #[.string (bs l), .int .i64 10, .int .i64 64] w (PrnR w) := by
  rcases hp : Lib.parseIntB 64 l with v | _ | _
  · exact absurd hp (okP_f h v)
  · obtain ⟨ev, hv, hev⟩ := hT.es
    have h := Any.strconv_ParseInt_10_at64_syntax lPar (bs l) (by rw [bs_size]; omega) hp ev w hv hev
    change Calls Tryd.prog 63 _ _ _ at h
    refine h.mono ?_
    rintro e w' ⟨N, rfl, _, _, hb⟩
    exact ⟨_, _, rfl, ext_of hb⟩
  · obtain ⟨ev, hv, hev⟩ := hT.er
    have h := Any.strconv_ParseInt_10_at64_range lPar (bs l) (by rw [bs_size]; omega) hp ev w hv hev
    change Calls Tryd.prog 63 _ _ _ at h
    refine h.mono ?_
    rintro e w' ⟨N, rfl, _, _, hb⟩
    exact ⟨_, _, rfl, ext_of hb⟩
theorem wprn {P : Program} {ops : Array Oper} {Q : Exit → Act → World → Prop} {rest : List Oper} {op : Oper} {a : Act} {w : World} {f : FuncId} {args : Array Value} (hc : Calls P f args w (PrnR w))
    (k : ∀ (v : Int) (N : Nat) w', Ext w w' → wpList P ops Q rest (putL a op.dst (.tuple #[.int .i64 v, .iface (lPar_ren.t 168) (.pointer (some ⟨N, 0, none⟩))])) w')
    (hw : Region.wanted op (yielded ops a.tmps) = true := by kernel_rfl) (he : (execOp (evalL a) op).run P w = .ok (.enter f args) w := by kernel_rfl) : wpList P ops Q (op :: rest) a w :=
  wpl_callx (S := fun v w' => ∃ (n : Int) (N : Nat), v = .tuple #[.int .i64 n, .iface (lPar_ren.t 168) (.pointer (some ⟨N, 0, none⟩))] ∧ Ext w w') f args rfl hw he hc
    (fun e w' ⟨u, N, h1, h2⟩ => ⟨_, h1, u, N, rfl, h2⟩) (fun v w' ⟨u, N, h1, h3⟩ => by rw [h1]; exact k u N w' h3)

--# iparse_any
theorem iparse_any (l : List UInt8) (hl : l.length ≤ 1048576) (lo hi : Int) (hlo : 0 ≤ lo) (hhi : hi ≤ 999999999) (w : World) (hT : TW w) :
 Calls Tryd.prog 40 #[.string (bs l), .int .i64 lo, .int .i64 hi] w fun e w' => ParR w l lo hi e w' := by
 refine calls_of_wp Tryd.func40 rfl ?_
 refine wp_frame (a' := ⟨#[.string (bs l), .int .i64 lo, .int .i64 hi, undef, undef, undef, undef, undef, undef, undef, undef, undef, undef, undef, undef, undef, undef, undef, undef, undef, undef, undef, undef, undef, undef, undef, undef, undef, undef, undef], []⟩) (by kernel_rfl) ?_
 refine wsr ?_
 refine wv (.int .i64 0) ?_
 refine wv (.bool false) ?_
 refine wpList_nil (then_normal ?_)
 refine wsr ?_
 refine wv (.string (bs l)) ?_
 refine split_bool (okP l) (fun h1 => ?_) (fun h1 => ?_)
 · skip
   refine wcl (parseInt_t l (by omega) h1 _ (TW.ext hT (Ext.refl w))) ?_
   intro w1 E1
   refine wv (.tuple #[.int .i64 (piV l), .nilIface]) ?_
   refine wv (.int .i64 (piV l)) ?_
   refine wv .nilIface ?_
   refine wv (.int .i64 (piV l)) ?_
   refine wv .nilIface ?_
   refine wpList_nil (then_normal ?_)
   refine wsr ?_
   refine wv (.int .i64 (piV l)) ?_
   refine wv .nilIface ?_
   refine wv (.bool true) ?_
   refine wv (.bool true) ?_
   refine wv (.int .i64 (piV l)) ?_
   refine wv (.int .i64 lo) ?_
   refine wv (.int .i64 hi) ?_
   refine wcl (within_any (piV l) lo hi _) ?_
   intro w2 E2
   refine wv (.bool (inB (piV l) lo hi)) ?_
   refine wv (.bool (inB (piV l) lo hi)) ?_
   have H1 := ((Ext.refl w).trans E1).trans E2
   refine split_bool (inB (piV l) lo hi) (fun h2 => ?_) (fun h2 => ?_)
   · skip
     refine wbl 24 true h2 ?_
     have h2d := inT h2
     refine wv (.int .i64 (piV l)) ?_
     refine wcl (format_any (piV l) (by omega) _ (TW.t (TW.ext hT H1))) ?_
     intro w3 E3
     refine wv (.string (bs l)) ?_
     refine wvv (.bool (((bs (Lib.itoa (piV l))).toList == (bs l).toList))) (.bool (decide (Lib.itoa (piV l) = l))) (congrArg Value.bool (bs_eqv _ _)) ?_
     refine wv (.bool (decide (Lib.itoa (piV l) = l))) ?_
     refine wv (.int .i64 (piV l)) ?_
     refine wv (.bool (decide (Lib.itoa (piV l) = l))) ?_
     refine wpList_nil (then_normal ?_)
     refine wp_ret ?_
     refine ret2 (.int .i64 (piV l)) (.bool (parO l lo hi)) rfl ?_ ?_ rfl ?_
     · exact resT (by kernel_rfl)
     · refine (resT (v := .bool (decide (Lib.itoa (piV l) = l))) (by kernel_rfl)).trans ?_
       refine congrArg Value.bool ?_
       first | (rw [par_n (by assumption)]; done) | (rw [par_v hlo hhi (by assumption)]; simp [*]; done)
     have H2 := H1.trans E3
     exact ⟨_, rfl, par_val (by assumption), H2⟩
   · skip
     refine wbl 24 false h2 ?_
     have h2d := inF h2
     refine wsk ?_
     refine wsk ?_
     refine wsk ?_
     refine wsk ?_
     refine wv (.bool false) ?_
     refine wv (.int .i64 (piV l)) ?_
     refine wv (.bool false) ?_
     refine wpList_nil (then_normal ?_)
     refine wp_ret ?_
     refine ret2 (.int .i64 (piV l)) (.bool (parO l lo hi)) rfl ?_ ?_ rfl ?_
     · exact resT (by kernel_rfl)
     · refine (resT (v := .bool false) (by kernel_rfl)).trans ?_
       refine congrArg Value.bool ?_
       first | (rw [par_n (by assumption)]; done) | (rw [par_v hlo hhi (by assumption)]; simp [*]; done)
     exact ⟨_, rfl, par_val (by assumption), H1⟩
 · skip
   refine wprn (parseInt_f l (by omega) h1 _ (TW.ext hT (Ext.refl w))) ?_
   intro v1 N1 w4 E4
   refine wv (.tuple #[.int .i64 v1, .iface (lPar_ren.t 168) (.pointer (some ⟨N1, 0, none⟩))]) ?_
   refine wv (.int .i64 v1) ?_
   refine wv (.iface (lPar_ren.t 168) (.pointer (some ⟨N1, 0, none⟩))) ?_
   refine wv (.int .i64 v1) ?_
   refine wv (.iface (lPar_ren.t 168) (.pointer (some ⟨N1, 0, none⟩))) ?_
   refine wpList_nil (then_normal ?_)
   refine wsr ?_
   refine wv (.int .i64 v1) ?_
   refine wv (.iface (lPar_ren.t 168) (.pointer (some ⟨N1, 0, none⟩))) ?_
   refine wv (.bool false) ?_
   refine wv (.bool false) ?_
   refine wsk ?_
   refine wsk ?_
   refine wsk ?_
   refine wsk ?_
   refine wv (.bool false) ?_
   refine wv (.bool false) ?_
   refine wsk ?_
   refine wsk ?_
   refine wsk ?_
   refine wsk ?_
   refine wv (.bool false) ?_
   refine wv (.int .i64 v1) ?_
   refine wv (.bool false) ?_
   refine wpList_nil (then_normal ?_)
   refine wp_ret ?_
   refine ret2 (.int .i64 v1) (.bool (parO l lo hi)) rfl ?_ ?_ rfl ?_
   · exact resT (by kernel_rfl)
   · refine (resT (v := .bool false) (by kernel_rfl)).trans ?_
     refine congrArg Value.bool ?_
     first | (rw [par_n (by assumption)]; done) | (rw [par_v hlo hhi (by assumption)]; simp [*]; done)
   have H3 := (Ext.refl w).trans E4
   exact ⟨_, rfl, (fun h => by rw [par_n (by assumption)] at h; cases h), H3⟩

end Go.Proofs.YteiplklloajjaaaDoor
