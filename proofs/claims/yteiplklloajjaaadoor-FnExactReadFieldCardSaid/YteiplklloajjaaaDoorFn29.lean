/-
  Contracts: readers of texts. Conditions: what the variables hold (TW).
-/
import Derived.Test.YteiplklloajjaaaDoorTy
import Derived.Test.YteiplklloajjaaaDoorSl
import Derived.Test.YteiplklloajjaaaDoorMth
import Derived.Test.YteiplklloajjaaaDoorFn28
import Derived.Test.YteiplklloajjaaaDoorRd
namespace Go.Proofs.YteiplklloajjaaaDoor
open Go.RowKit
set_option linter.unusedSimpArgs false
set_option linter.unusedVariables false
set_option maxHeartbeats 4000000
set_option maxRecDepth 100000
attribute [local irreducible] wpList Code.wp
--# t29 Scarecrow
theorem slt__impl_Scarecrow : SlT Tryd.prog 32 63 3 6 (.agg #[.int .i16 0, .int .i16 0, .int .i8 0]) := ⟨Tryd.underlying32, by kernel_rfl, by kernel_rfl, by kernel_rfl, by decide⟩

--# t29 Flock
theorem slt__impl_Flock : SlT Tryd.prog 43 77 6 12 (.agg #[.int .i16 0, .int .i16 0, .int .i16 0, .int .i16 0, .int .i16 0, .int .i8 0]) := ⟨Tryd.underlying43, by kernel_rfl, by kernel_rfl, by kernel_rfl, by decide⟩

--# t29 Net
theorem slt__impl_Net : SlT Tryd.prog 38 72 4 4 (.agg #[.int .i8 0, .int .i8 0, .int .i8 0, .int .i8 0]) := ⟨Tryd.underlying38, by kernel_rfl, by kernel_rfl, by kernel_rfl, by decide⟩

--# l03Power_any
theorem l03Power_any (n : Int) (w : World) :
 Calls Tryd.prog 37 #[.int .i64 n] w fun e w' => e = .returned (.bool (inB n 1 1000)) ∧ Ext w w' := by
 refine calls_of_wp Tryd.func37 rfl ?_
 refine wp_frame (a' := ⟨#[.int .i64 n, undef, undef, undef, undef], []⟩) (by kernel_rfl) ?_
 refine wsr ?_
 refine wv (.bool false) ?_
 refine wpList_nil (then_normal ?_)
 refine wsr ?_
 refine wv (.int .i64 n) ?_
 refine wcl (l00In_any n 1 1000 _) ?_
 intro w1 E1
 refine wv (.bool (inB n 1 1000)) ?_
 refine wpList_nil (then_normal ?_)
 refine wp_ret ?_
 have H1 := (Ext.refl w).trans E1
 refine ret1 (.bool (inB n 1 1000)) rfl ?_ rfl ?_
 · exact resT (by kernel_rfl)
 exact ⟨rfl, H1⟩


--# iReadScares_any
theorem iReadScares_any (l : List UInt8) (hl : l.length ≤ 1048576) (w : World) (hT : TW w) :
 Calls Tryd.prog 12 #[.string (bs l)] w fun e w' => RdX w 63 (rdN l) 3 [.i16, .i16, .i8] (scF l) (rdO 20 scW l) e w' := by
 refine calls_of_wp Tryd.func12 rfl ?_
 refine wp_frame (a' := ⟨#[.string (bs l), undef, undef, undef, undef, undef, undef, undef, undef, undef, undef, undef, undef, undef, undef, undef, undef, undef, undef, undef, undef, undef, undef, undef, undef, undef, undef, undef, undef, undef, undef, undef, undef, undef, undef, undef, undef, undef, undef, undef, undef, undef, undef, undef, undef, undef, undef, undef, undef, undef, undef, undef, undef, undef, undef, undef, undef, undef, undef, undef, undef, undef, undef, undef, undef, undef, undef, undef, undef, undef, undef, undef, undef, undef, undef, undef, undef, undef, undef, undef, undef, undef, undef, undef], []⟩) (by kernel_rfl) ?_
 refine wsr ?_
 refine wv (.slice none 0 0) ?_
 refine wv (.int .i64 0) ?_
 refine wpList_nil (then_normal ?_)
 refine wsr ?_
 refine wbsl 0 #[] slt__impl_Scarecrow ?_
 intro g1 w1 B1 E1 hg_
 have lo_g1 := Nat.le_trans ((Ext.refl w)).size hg_
 have S1 : SlX #[] 0 0 3 [.i16, .i16, .i8] (scF l) := SlX.nil (e := 0) rfl
 refine wv (.slice (some ⟨g1, 0, none⟩) 0 0) ?_
 refine wpList_nil (then_normal ?_)
 refine wp_seq ?_
 refine wsr ?_
 refine wv (.string (bs l)) ?_
 refine wvv (.bool (((bs l).toList == (bs ([] : List UInt8)).toList))) (.bool (decide (l = ([] : List UInt8)))) (congrArg Value.bool (bs_eqv _ _)) ?_
 refine wpList_nil (then_normal ?_)
 have H1 := (Ext.refl w).trans E1
 refine wsplit (decide (l = ([] : List UInt8))) (fun h1 => ?_) (fun h1 => ?_)
 · skip
   have h1d := dT h1
   refine wsr ?_
   refine wv (.slice (some ⟨g1, 0, none⟩) 0 0) ?_
   refine wv (.slice (some ⟨g1, 0, none⟩) 0 0) ?_
   refine wv (.int .i64 0) ?_
   refine wpList_nil (then_normal ?_)
   refine wp_ret ?_
   refine then_ret ?_
   refine ret2 (.slice (some ⟨g1, 0, none⟩) 0 0) (.int .i64 0) rfl ?_ ?_ rfl ?_
   · exact resT (by kernel_rfl)
   · exact resT (by kernel_rfl)
   rw [rdN_nil (by assumption)]
   exact .inl ⟨rdO_nil (by assumption), g1, _, _, rfl, B1, S1, H1, lo_g1⟩
 · skip
   have h1d := dF h1
   have hp_ := List.length_pos_iff.2 h1d
   refine wp_skip ?_
   refine then_normal ?_
   refine wsr ?_
   refine wv (.string (bs l)) ?_
   refine wcls (split_any l 32 (by omega) _ (TW.ext hT H1)) ?_
   intro g2 cap1 cs1 w2 B2 S2 E2 hg_
   have q_g1_g2 := Nat.ne_of_lt (Nat.lt_of_lt_of_le B1.lt hg_)
   have lo_g2 := Nat.le_trans (H1).size hg_
   refine wv (.slice (some ⟨g2, 0, none⟩) ((cutL 32 l).length) cap1) ?_
   refine wpList_nil (then_normal ?_)
   refine wp_seq ?_
   refine wsr ?_
   refine wv (.slice (some ⟨g2, 0, none⟩) ((cutL 32 l).length) cap1) ?_
   refine wv (.int .i64 ((cutL 32 l).length : Int)) ?_
   refine wv (.bool (decide (20 < ((cutL 32 l).length : Int)))) ?_
   refine wpList_nil (then_normal ?_)
   have H2 := H1.trans E2
   refine wsplit (decide (20 < ((cutL 32 l).length : Int))) (fun h2 => ?_) (fun h2 => ?_)
   · skip
     have h2d := dT h2
     refine wsr ?_
     refine wv (.slice none 0 0) ?_
     refine wv (.int .i64 5) ?_
     refine wpList_nil (then_normal ?_)
     refine wp_ret ?_
     refine then_ret ?_
     refine ret2 (.slice none 0 0) (.int .i64 5) rfl ?_ ?_ rfl ?_
     · exact resT (by kernel_rfl)
     · exact resT (by kernel_rfl)
     exact .inr ⟨(by first | exact rdO_long (by assumption) (by omega) | exact rdO_bad (i := i) (by assumption) (by omega) (by first | exact scW_1 (by assumption) | exact scW_2 (by assumption) | exact scW_3 (by assumption))), rfl, H2⟩
   · skip
     have h2d := dF h2
     refine wp_skip ?_
     refine then_normal ?_
     refine wp_seq ?_
     refine wsr ?_
     refine wv (.slice (some ⟨g2, 0, none⟩) ((cutL 32 l).length) cap1) ?_
     refine wv (.int .i64 ((cutL 32 l).length : Int)) ?_
     refine wv (.int .i64 0) ?_
     refine wpList_nil (then_normal ?_)
     refine wp_block ?_
     replace B1 := B1.ext E2
     refine wp_loop_k (fun m1 a wl1 => ∃ (i : Nat) (go : Nat) (capo : Nat) (cso : Array Value), m1 = (cutL 32 l).length - i ∧ i ≤ (cutL 32 l).length ∧ (∀ j, j < i → scW (atL (cutL 32 l) j) = true) ∧ SlX cso i capo 3 [.i16, .i16, .i8] (scF l) ∧ w.heap.size ≤ go ∧ g2 ≠ go ∧ Ext w wl1 ∧ Blk wl1 g2 9 cs1 ∧ Blk wl1 go 63 cso ∧ (∃ J1 : Nat → Value, a = ⟨#[.string (bs l), undef, J1 2, J1 3, .slice (some ⟨go, 0, none⟩) i capo, .slice (some ⟨g2, 0, none⟩) ((cutL 32 l).length) cap1, undef, J1 7, J1 8, J1 9, J1 10, J1 11, J1 12, J1 13, J1 14, J1 15, J1 16, J1 17, J1 18, J1 19, .slice (some ⟨g1, 0, none⟩) 0 0, .string (bs l), .bool (decide (l = ([] : List UInt8))), undef, .string (bs l), .slice (some ⟨g2, 0, none⟩) ((cutL 32 l).length) cap1, .slice (some ⟨g2, 0, none⟩) ((cutL 32 l).length) cap1, .int .i64 ((cutL 32 l).length : Int), .bool (decide (20 < ((cutL 32 l).length : Int))), .slice (some ⟨g2, 0, none⟩) ((cutL 32 l).length) cap1, .int .i64 ((cutL 32 l).length : Int), .int .i64 (i : Int), J1 32, J1 33, J1 34, J1 35, J1 36, J1 37, J1 38, J1 39, J1 40, J1 41, J1 42, J1 43, J1 44, J1 45, J1 46, J1 47, J1 48, J1 49, J1 50, J1 51, J1 52, J1 53, J1 54, J1 55, J1 56, J1 57, J1 58, J1 59, J1 60, J1 61, J1 62, J1 63, J1 64, J1 65, J1 66, J1 67, J1 68, J1 69, J1 70, J1 71, J1 72, J1 73, J1 74, J1 75, J1 76, J1 77, J1 78, J1 79, J1 80, J1 81, J1 82, undef], []⟩)) ((cutL 32 l).length) ?_ ?_
     · refine ⟨0, g1, 0, #[], rfl, ?_, ?_, ?_, ?_, ?_, H2, B2, B1, exJ (by kernel_rfl)⟩
       · omega
       · intro j h1; omega
       · exact S1
       · exact lo_g1
       · exact (Ne.symm q_g1_g2)
     intro m1 a wl1 hI
     obtain ⟨i, go, capo, cso, rfl, hi_, hok, So, lo_go, n_g2_go, HL1, B2, Bo, J1, rfl⟩ := hI
     have al_ := atL_le 32 l i
     refine wsr ?_
     refine wv (.bool (decide ((i : Int) < ((cutL 32 l).length : Int)))) ?_
     refine wpList_nil (then_normal ?_)
     refine wp_seq ?_
     refine wsplit (decide ((i : Int) < ((cutL 32 l).length : Int))) (fun h3 => ?_) (fun h3 => ?_)
     · skip
       have h3d := dT h3
       refine wp_skip ?_
       refine then_normal ?_
       refine wp_seq ?_
       refine wp_block ?_
       refine wsr ?_
       refine wsix1 g2 0 ((cutL 32 l).length) cap1 i .i64 slit__string ?_
       refine wld g2 (0 + i) scal_string (B2.get (SlS.get S2 (by omega))) ?_
       refine wv (.string (bs (atL (cutL 32 l) i))) ?_
       refine wpList_nil (then_normal ?_)
       refine wsr ?_
       refine wv (.string (bs (atL (cutL 32 l) i))) ?_
       refine wclx (fun v_ w_ => ∃ b_ : Bool, v_ = .tuple #[.string (bs (cu1 58 (atL (cutL 32 l) i))), .string (bs (cu2 58 (atL (cutL 32 l) i))), .bool b_] ∧ Ext wl1 w_) (cut_any (atL (cutL 32 l) i) 58 (by omega) _ (TW.ext hT HL1)) (fun e_ w_ ⟨b_, h_, r_⟩ => ⟨_, h_, b_, rfl, r_⟩) ?_
       rintro _ w3 ⟨bc1, rfl, E3⟩
       have cl1 := cu_len 58 (atL (cutL 32 l) i)
       refine wv (.tuple #[.string (bs (cu1 58 (atL (cutL 32 l) i))), .string (bs (cu2 58 (atL (cutL 32 l) i))), .bool bc1]) ?_
       refine wv (.string (bs (cu1 58 (atL (cutL 32 l) i)))) ?_
       refine wv (.string (bs (cu2 58 (atL (cutL 32 l) i)))) ?_
       refine wv (.bool bc1) ?_
       refine wv (.string (bs (cu1 58 (atL (cutL 32 l) i)))) ?_
       refine wv (.string (bs (cu2 58 (atL (cutL 32 l) i)))) ?_
       refine wv (.bool bc1) ?_
       refine wpList_nil (then_normal ?_)
       refine wsr ?_
       refine wv (.string (bs (cu2 58 (atL (cutL 32 l) i)))) ?_
       have H3 := HL1.trans E3
       refine wclx (fun v_ w_ => ∃ b_ : Bool, v_ = .tuple #[.string (bs (cu1 47 (cu2 58 (atL (cutL 32 l) i)))), .string (bs (cu2 47 (cu2 58 (atL (cutL 32 l) i)))), .bool b_] ∧ Ext w3 w_) (cut_any (cu2 58 (atL (cutL 32 l) i)) 47 (by omega) _ (TW.ext hT H3)) (fun e_ w_ ⟨b_, h_, r_⟩ => ⟨_, h_, b_, rfl, r_⟩) ?_
       rintro _ w4 ⟨bc2, rfl, E4⟩
       have cl2 := cu_len 47 (cu2 58 (atL (cutL 32 l) i))
       refine wv (.tuple #[.string (bs (cu1 47 (cu2 58 (atL (cutL 32 l) i)))), .string (bs (cu2 47 (cu2 58 (atL (cutL 32 l) i)))), .bool bc2]) ?_
       refine wv (.string (bs (cu1 47 (cu2 58 (atL (cutL 32 l) i))))) ?_
       refine wv (.string (bs (cu2 47 (cu2 58 (atL (cutL 32 l) i))))) ?_
       refine wv (.bool bc2) ?_
       refine wv (.string (bs (cu1 47 (cu2 58 (atL (cutL 32 l) i))))) ?_
       refine wv (.string (bs (cu2 47 (cu2 58 (atL (cutL 32 l) i))))) ?_
       refine wv (.bool bc2) ?_
       refine wpList_nil (then_normal ?_)
       refine wsr ?_
       refine wv (.string (bs (cu1 58 (atL (cutL 32 l) i)))) ?_
       have H4 := H3.trans E4
       refine wpar (iparse_any (cu1 58 (atL (cutL 32 l) i)) (by omega) 0 99 (by omega) (by omega) _ (TW.ext hT H4)) ?_
       intro n1 w5 hn1 E5
       refine wv (.tuple #[.int .i64 n1, .bool (parO (cu1 58 (atL (cutL 32 l) i)) 0 99)]) ?_
       refine wv (.int .i64 n1) ?_
       refine wv (.bool (parO (cu1 58 (atL (cutL 32 l) i)) 0 99)) ?_
       refine wv (.int .i64 n1) ?_
       refine wv (.bool (parO (cu1 58 (atL (cutL 32 l) i)) 0 99)) ?_
       refine wpList_nil (then_normal ?_)
       refine wsr ?_
       refine wv (.string (bs (cu1 47 (cu2 58 (atL (cutL 32 l) i))))) ?_
       have H5 := H4.trans E5
       refine wpar (iparse_any (cu1 47 (cu2 58 (atL (cutL 32 l) i))) (by omega) 1 1000 (by omega) (by omega) _ (TW.ext hT H5)) ?_
       intro n2 w6 hn2 E6
       refine wv (.tuple #[.int .i64 n2, .bool (parO (cu1 47 (cu2 58 (atL (cutL 32 l) i))) 1 1000)]) ?_
       refine wv (.int .i64 n2) ?_
       refine wv (.bool (parO (cu1 47 (cu2 58 (atL (cutL 32 l) i))) 1 1000)) ?_
       refine wv (.int .i64 n2) ?_
       refine wv (.bool (parO (cu1 47 (cu2 58 (atL (cutL 32 l) i))) 1 1000)) ?_
       refine wpList_nil (then_normal ?_)
       refine wp_frame (a' := ⟨#[.string (bs l), undef, J1 2, J1 3, .slice (some ⟨go, 0, none⟩) i capo, .slice (some ⟨g2, 0, none⟩) ((cutL 32 l).length) cap1, undef, .string (bs (atL (cutL 32 l) i)), .string (bs (cu1 58 (atL (cutL 32 l) i))), .string (bs (cu2 58 (atL (cutL 32 l) i))), .bool bc1, .string (bs (cu1 47 (cu2 58 (atL (cutL 32 l) i)))), .string (bs (cu2 47 (cu2 58 (atL (cutL 32 l) i)))), .bool bc2, .int .i64 n1, .bool (parO (cu1 58 (atL (cutL 32 l) i)) 0 99), .int .i64 n2, .bool (parO (cu1 47 (cu2 58 (atL (cutL 32 l) i))) 1 1000), J1 18, J1 19, .slice (some ⟨g1, 0, none⟩) 0 0, .string (bs l), .bool (decide (l = ([] : List UInt8))), undef, .string (bs l), .slice (some ⟨g2, 0, none⟩) ((cutL 32 l).length) cap1, .slice (some ⟨g2, 0, none⟩) ((cutL 32 l).length) cap1, .int .i64 ((cutL 32 l).length : Int), .bool (decide (20 < ((cutL 32 l).length : Int))), .slice (some ⟨g2, 0, none⟩) ((cutL 32 l).length) cap1, .int .i64 ((cutL 32 l).length : Int), .int .i64 (i : Int), .bool (decide ((i : Int) < ((cutL 32 l).length : Int))), .pointer (some ⟨g2, 0 + i, none⟩), .string (bs (atL (cutL 32 l) i)), .tuple #[.string (bs (cu1 58 (atL (cutL 32 l) i))), .string (bs (cu2 58 (atL (cutL 32 l) i))), .bool bc1], .string (bs (atL (cutL 32 l) i)), .tuple #[.string (bs (cu1 58 (atL (cutL 32 l) i))), .string (bs (cu2 58 (atL (cutL 32 l) i))), .bool bc1], .string (bs (cu1 58 (atL (cutL 32 l) i))), .string (bs (cu2 58 (atL (cutL 32 l) i))), .bool bc1, .tuple #[.string (bs (cu1 47 (cu2 58 (atL (cutL 32 l) i)))), .string (bs (cu2 47 (cu2 58 (atL (cutL 32 l) i)))), .bool bc2], .string (bs (cu2 58 (atL (cutL 32 l) i))), .tuple #[.string (bs (cu1 47 (cu2 58 (atL (cutL 32 l) i)))), .string (bs (cu2 47 (cu2 58 (atL (cutL 32 l) i)))), .bool bc2], .string (bs (cu1 47 (cu2 58 (atL (cutL 32 l) i)))), .string (bs (cu2 47 (cu2 58 (atL (cutL 32 l) i)))), .bool bc2, .tuple #[.int .i64 n1, .bool (parO (cu1 58 (atL (cutL 32 l) i)) 0 99)], .string (bs (cu1 58 (atL (cutL 32 l) i))), .tuple #[.int .i64 n1, .bool (parO (cu1 58 (atL (cutL 32 l) i)) 0 99)], .int .i64 n1, .bool (parO (cu1 58 (atL (cutL 32 l) i)) 0 99), .tuple #[.int .i64 n2, .bool (parO (cu1 47 (cu2 58 (atL (cutL 32 l) i))) 1 1000)], .string (bs (cu1 47 (cu2 58 (atL (cutL 32 l) i)))), .tuple #[.int .i64 n2, .bool (parO (cu1 47 (cu2 58 (atL (cutL 32 l) i))) 1 1000)], .int .i64 n2, .bool (parO (cu1 47 (cu2 58 (atL (cutL 32 l) i))) 1 1000), J1 57, J1 58, J1 59, J1 60, J1 61, J1 62, J1 63, J1 64, J1 65, J1 66, J1 67, J1 68, J1 69, J1 70, J1 71, J1 72, J1 73, J1 74, J1 75, J1 76, J1 77, J1 78, J1 79, J1 80, J1 81, J1 82, undef], []⟩) (by kernel_rfl) ?_
       refine wsr ?_
       refine wv (.string (bs (cu2 47 (cu2 58 (atL (cutL 32 l) i))))) ?_
       have H6 := H5.trans E6
       refine wpar (iparse_any (cu2 47 (cu2 58 (atL (cutL 32 l) i))) (by omega) 0 30 (by omega) (by omega) _ (TW.ext hT H6)) ?_
       intro n3 w7 hn3 E7
       refine wv (.tuple #[.int .i64 n3, .bool (parO (cu2 47 (cu2 58 (atL (cutL 32 l) i))) 0 30)]) ?_
       refine wv (.int .i64 n3) ?_
       refine wv (.bool (parO (cu2 47 (cu2 58 (atL (cutL 32 l) i))) 0 30)) ?_
       refine wv (.int .i64 n3) ?_
       refine wv (.bool (parO (cu2 47 (cu2 58 (atL (cutL 32 l) i))) 0 30)) ?_
       refine wpList_nil (then_normal ?_)
       refine wp_seq ?_
       refine wsr ?_
       refine wv (.bool (parO (cu1 58 (atL (cutL 32 l) i)) 0 99)) ?_
       refine wv (.bool (!(parO (cu1 58 (atL (cutL 32 l) i)) 0 99))) ?_
       refine wv (.bool (!(parO (cu1 58 (atL (cutL 32 l) i)) 0 99))) ?_
       have H7 := H6.trans E7
       refine split_bool (parO (cu1 58 (atL (cutL 32 l) i)) 0 99) (fun h4 => ?_) (fun h4 => ?_)
       · skip
         refine wbl 64 false (bnT h4) ?_
         have pq1 := parO_num h4
         have pe1 := hn1 h4
         refine wv (.bool (parO (cu1 47 (cu2 58 (atL (cutL 32 l) i))) 1 1000)) ?_
         refine wv (.bool (!(parO (cu1 47 (cu2 58 (atL (cutL 32 l) i))) 1 1000))) ?_
         refine wv (.bool (!(parO (cu1 47 (cu2 58 (atL (cutL 32 l) i))) 1 1000))) ?_
         refine wv (.bool (!(parO (cu1 47 (cu2 58 (atL (cutL 32 l) i))) 1 1000))) ?_
         refine split_bool (parO (cu1 47 (cu2 58 (atL (cutL 32 l) i))) 1 1000) (fun h5 => ?_) (fun h5 => ?_)
         · skip
           refine wbl 68 false (bnT h5) ?_
           have pq2 := parO_num h5
           have pe2 := hn2 h5
           refine wv (.bool (parO (cu2 47 (cu2 58 (atL (cutL 32 l) i))) 0 30)) ?_
           refine wv (.bool (!(parO (cu2 47 (cu2 58 (atL (cutL 32 l) i))) 0 30))) ?_
           refine wv (.bool (!(parO (cu2 47 (cu2 58 (atL (cutL 32 l) i))) 0 30))) ?_
           refine wpList_nil (then_normal ?_)
           refine wsplit (!(parO (cu2 47 (cu2 58 (atL (cutL 32 l) i))) 0 30)) (fun h6 => ?_) (fun h6 => ?_)
           · skip
             replace h6 := nbT h6
             refine wsr ?_
             refine wv (.slice none 0 0) ?_
             refine wv (.int .i64 5) ?_
             refine wpList_nil (then_normal ?_)
             refine wp_ret ?_
             refine then_ret (block_ret (then_ret (then_ret (block_ret (then_ret ?_)))))
             refine ret2 (.slice none 0 0) (.int .i64 5) rfl ?_ ?_ rfl ?_
             · exact resT (by kernel_rfl)
             · exact resT (by kernel_rfl)
             exact .inr ⟨(by first | exact rdO_long (by assumption) (by omega) | exact rdO_bad (i := i) (by assumption) (by omega) (by first | exact scW_1 (by assumption) | exact scW_2 (by assumption) | exact scW_3 (by assumption))), rfl, H7⟩
           · skip
             replace h6 := nbF h6
             have pq3 := parO_num h6
             have pe3 := hn3 h6
             refine wp_skip ?_
             refine then_normal ?_
             refine wp_region_lit ?_
             refine wv (.slice (some ⟨go, 0, none⟩) i capo) ?_
             refine wv (.int .i64 n1) ?_
             refine wi16 n1 ?_
             refine wv (.int .i64 n2) ?_
             refine wi16 n2 ?_
             refine wv (.int .i64 n3) ?_
             refine wi8 n3 ?_
             refine wv (.agg #[.int .i16 n1, .int .i16 n2, .int .i8 n3]) ?_
             replace B2 := ((((B2.ext E3).ext E4).ext E5).ext E6).ext E7
             replace Bo := ((((Bo.ext E3).ext E4).ext E5).ext E6).ext E7
             refine wbsl 1 #[.int .i16 n1, .int .i16 n2, .int .i8 n3] slt__impl_Scarecrow ?_
             intro g3 w8 B3 E8 hg_
             have q_g2_g3 := Nat.ne_of_lt (Nat.lt_of_lt_of_le B2.lt hg_)
             have q_go_g3 := Nat.ne_of_lt (Nat.lt_of_lt_of_le Bo.lt hg_)
             have lo_g3 := Nat.le_trans (H7).size hg_
             replace B2 := B2.ext E8
             replace Bo := Bo.ext E8
             have H8 := H7.trans E8
             have HR1 : (rowL [.i16, .i16, .i8] ((scF l) i)).toArray = #[.int .i16 n1, .int .i16 n2, .int .i8 n3] := scF_row (by assumption) (by assumption) (by assumption)
             refine wappr #[.int .i16 n1, .int .i16 n2, .int .i8 n3] slt__impl_Scarecrow Bo So B3 HR1 ?_
             intro g4 cap2 cs2 w9 B4 S3 X1 or1
             have n_g2_g4 := ne_app B2 n_g2_go or1
             have n_g3_g4 := ne_app B3 (Ne.symm q_go_g3) or1
             have lo_g4 := Wr.lo or1 lo_go (H8).size
             refine wv (.slice (some ⟨g4, 0, none⟩) (i + 1) cap2) ?_
             refine wpList_nil (block_normal (then_normal ?_))
             refine wp_region_lit ?_
             refine wi64 ((i : Int) + 1) ?_
             refine wv (.int .i64 ((i : Int) + 1)) ?_
             refine wpList_nil (then_normal ?_)
             replace B2 := X1.blk B2 n_g2_go
             have H9 := X1.ext w lo_go H8
             refine ⟨_, ?_, i + 1, g4, cap2, cs2, rfl, ?_, ?_, ?_, ?_, ?_, H9, B2, B4, exJ (by kernel_rfl)⟩
             · omega
             · omega
             · exact ok_step hok (by exact scW_t (by assumption) (by assumption) (by assumption))
             · exact S3
             · exact lo_g4
             · exact n_g2_g4
         · skip
           refine wbl 68 true (bnF h5) ?_
           refine wsk ?_
           refine wsk ?_
           refine wv (.bool true) ?_
           refine wpList_nil (then_normal ?_)
           refine wct ?_
           refine wsr ?_
           refine wv (.slice none 0 0) ?_
           refine wv (.int .i64 5) ?_
           refine wpList_nil (then_normal ?_)
           refine wp_ret ?_
           refine then_ret (block_ret (then_ret (then_ret (block_ret (then_ret ?_)))))
           refine ret2 (.slice none 0 0) (.int .i64 5) rfl ?_ ?_ rfl ?_
           · exact resT (by kernel_rfl)
           · exact resT (by kernel_rfl)
           exact .inr ⟨(by first | exact rdO_long (by assumption) (by omega) | exact rdO_bad (i := i) (by assumption) (by omega) (by first | exact scW_1 (by assumption) | exact scW_2 (by assumption) | exact scW_3 (by assumption))), rfl, H7⟩
       · skip
         refine wbl 64 true (bnF h4) ?_
         refine wsk ?_
         refine wsk ?_
         refine wv (.bool true) ?_
         refine wv (.bool true) ?_
         refine wsk ?_
         refine wsk ?_
         refine wv (.bool true) ?_
         refine wpList_nil (then_normal ?_)
         refine wct ?_
         refine wsr ?_
         refine wv (.slice none 0 0) ?_
         refine wv (.int .i64 5) ?_
         refine wpList_nil (then_normal ?_)
         refine wp_ret ?_
         refine then_ret (block_ret (then_ret (then_ret (block_ret (then_ret ?_)))))
         refine ret2 (.slice none 0 0) (.int .i64 5) rfl ?_ ?_ rfl ?_
         · exact resT (by kernel_rfl)
         · exact resT (by kernel_rfl)
         exact .inr ⟨(by first | exact rdO_long (by assumption) (by omega) | exact rdO_bad (i := i) (by assumption) (by omega) (by first | exact scW_1 (by assumption) | exact scW_2 (by assumption) | exact scW_3 (by assumption))), rfl, H7⟩
     · skip
       have h3d := dF h3
       refine wp_exit ?_
       refine then_exit ?_
       refine then_exit ?_
       refine block_exit ?_
       refine then_normal ?_
       refine wsr ?_
       refine wv (.slice (some ⟨go, 0, none⟩) i capo) ?_
       refine wv (.slice (some ⟨go, 0, none⟩) i capo) ?_
       refine wv (.int .i64 0) ?_
       refine wpList_nil (then_normal ?_)
       refine wp_ret ?_
       refine ret2 (.slice (some ⟨go, 0, none⟩) i capo) (.int .i64 0) rfl ?_ ?_ rfl ?_
       · exact resT (by kernel_rfl)
       · exact resT (by kernel_rfl)
       have ei_ : i = (cutL 32 l).length := by omega
       rw [rdN_ne (by assumption), ← ei_]
       exact .inl ⟨rdO_t (by assumption) (by omega) (fun j hj => hok j (by omega)), go, _, _, rfl, Bo, So, HL1, lo_go⟩


--# sReadScares_raw
theorem sReadScares_raw (l : List UInt8) (hl : l.length ≤ 1048576) (w : World) :
 Calls Tryd.prog 11 #[.string (bs l)] w fun e w' => RdY w 63 (rdN l) 3 [.i16, .i16, .i8] (sdF l) (rdO 20 sdW l) e w' := by
 refine calls_of_wp Tryd.func11 rfl ?_
 refine wp_frame (a' := ⟨#[.string (bs l), undef, undef, undef, undef, undef, undef, undef, undef, undef, undef, undef, undef, undef, undef, undef, undef, undef, undef, undef, undef, undef, undef, undef, undef, undef, undef, undef, undef, undef, undef, undef, undef, undef, undef, undef, undef, undef, undef, undef, undef, undef, undef, undef, undef, undef, undef, undef, undef, undef, undef, undef, undef, undef, undef, undef, undef, undef, undef, undef, undef, undef, undef, undef, undef, undef, undef, undef, undef, undef, undef, undef, undef, undef, undef, undef, undef, undef, undef, undef, undef, undef, undef, undef, undef, undef, undef, undef, undef, undef, undef, undef, undef, undef, undef, undef, undef, undef, undef, undef, undef, undef, undef, undef], []⟩) (by kernel_rfl) ?_
 refine wsr ?_
 refine wv (.slice none 0 0) ?_
 refine wv (.int .i64 0) ?_
 refine wpList_nil (then_normal ?_)
 refine wsr ?_
 refine wbsl 0 #[] slt__impl_Scarecrow ?_
 intro g1 w1 B1 E1 hg_
 have lo_g1 := Nat.le_trans ((Ext.refl w)).size hg_
 have S1 : SlX #[] 0 0 3 [.i16, .i16, .i8] (sdF l) := SlX.nil (e := 0) rfl
 refine wv (.slice (some ⟨g1, 0, none⟩) 0 0) ?_
 refine wpList_nil (then_normal ?_)
 refine wp_seq ?_
 refine wsr ?_
 refine wv (.string (bs l)) ?_
 refine wvv (.bool (((bs l).toList == (bs ([] : List UInt8)).toList))) (.bool (decide (l = ([] : List UInt8)))) (congrArg Value.bool (bs_eqv _ _)) ?_
 refine wpList_nil (then_normal ?_)
 have H1 := (Ext.refl w).trans E1
 refine wsplit (decide (l = ([] : List UInt8))) (fun h1 => ?_) (fun h1 => ?_)
 · skip
   have h1d := dT h1
   refine wsr ?_
   refine wv (.slice (some ⟨g1, 0, none⟩) 0 0) ?_
   refine wv (.slice (some ⟨g1, 0, none⟩) 0 0) ?_
   refine wv (.int .i64 0) ?_
   refine wpList_nil (then_normal ?_)
   refine wp_ret ?_
   refine then_ret ?_
   refine ret2 (.slice (some ⟨g1, 0, none⟩) 0 0) (.int .i64 0) rfl ?_ ?_ rfl ?_
   · exact resT (by kernel_rfl)
   · exact resT (by kernel_rfl)
   rw [rdN_nil (by assumption)]
   exact .inl ⟨rdO_nil (by assumption), g1, _, _, rfl, B1, S1, H1, lo_g1⟩
 · skip
   have h1d := dF h1
   have hp_ := List.length_pos_iff.2 h1d
   refine wp_skip ?_
   refine then_normal ?_
   refine wsr ?_
   refine wv (.string (bs l)) ?_
   refine wcls (l01Split_any l 32 (by omega) _) ?_
   intro g2 cap1 cs1 w2 B2 S2 E2 hg_
   have q_g1_g2 := Nat.ne_of_lt (Nat.lt_of_lt_of_le B1.lt hg_)
   have lo_g2 := Nat.le_trans (H1).size hg_
   have al1 := atL_le 32 l 0
   have al2 := atL_le 32 l 1
   refine wv (.slice (some ⟨g2, 0, none⟩) ((cutL 32 l).length) cap1) ?_
   refine wpList_nil (then_normal ?_)
   refine wp_seq ?_
   refine wsr ?_
   refine wv (.slice (some ⟨g2, 0, none⟩) ((cutL 32 l).length) cap1) ?_
   refine wv (.int .i64 ((cutL 32 l).length : Int)) ?_
   refine wv (.bool (decide (20 < ((cutL 32 l).length : Int)))) ?_
   refine wpList_nil (then_normal ?_)
   have H2 := H1.trans E2
   refine wsplit (decide (20 < ((cutL 32 l).length : Int))) (fun h2 => ?_) (fun h2 => ?_)
   · skip
     have h2d := dT h2
     refine wsr ?_
     replace B1 := B1.ext E2
     refine wbsl 0 #[] slt__impl_Scarecrow ?_
     intro g3 w3 B3 E3 hg_
     have q_g1_g3 := Nat.ne_of_lt (Nat.lt_of_lt_of_le B1.lt hg_)
     have q_g2_g3 := Nat.ne_of_lt (Nat.lt_of_lt_of_le B2.lt hg_)
     have lo_g3 := Nat.le_trans (H2).size hg_
     have S3 : SlX #[] 0 0 3 [.i16, .i16, .i8] (sdF l) := SlX.nil (e := 0) rfl
     refine wv (.slice (some ⟨g3, 0, none⟩) 0 0) ?_
     refine wv (.int .i64 5) ?_
     refine wpList_nil (then_normal ?_)
     refine wp_ret ?_
     refine then_ret ?_
     refine ret2 (.slice (some ⟨g3, 0, none⟩) 0 0) (.int .i64 5) rfl ?_ ?_ rfl ?_
     · exact resT (by kernel_rfl)
     · exact resT (by kernel_rfl)
     have H3 := H2.trans E3
     exact .inr ⟨(by first | exact rdO_long (by assumption) (by omega) | exact rdO_bad (i := i) (by assumption) (by omega) (by first | exact sdW_1 (by assumption) | exact sdW_2 (by assumption) | exact sdW_3 (by assumption) | exact sdW_4 (by assumption) | exact sdW_5 (by assumption) | exact sdW_6 (by assumption) | exact sdW_7 (by assumption) | exact sdW_8 (by assumption))), ⟨_, _, rfl⟩, H3⟩
   · skip
     have h2d := dF h2
     refine wp_skip ?_
     refine then_normal ?_
     refine wp_seq ?_
     refine wsr ?_
     refine wv (.int .i64 0) ?_
     refine wpList_nil (then_normal ?_)
     refine wp_block ?_
     replace B1 := B1.ext E2
     refine wp_loop_k (fun m1 a wl1 => ∃ (i : Nat) (go : Nat) (capo : Nat) (cso : Array Value), m1 = (cutL 32 l).length - i ∧ i ≤ (cutL 32 l).length ∧ (∀ j, j < i → sdW (atL (cutL 32 l) j) = true) ∧ SlX cso i capo 3 [.i16, .i16, .i8] (sdF l) ∧ w.heap.size ≤ go ∧ g2 ≠ go ∧ Ext w wl1 ∧ Blk wl1 g2 9 cs1 ∧ Blk wl1 go 63 cso ∧ (∃ J1 : Nat → Value, a = ⟨#[.string (bs l), undef, J1 2, J1 3, .slice (some ⟨go, 0, none⟩) i capo, .slice (some ⟨g2, 0, none⟩) ((cutL 32 l).length) cap1, .int .i64 (i : Int), J1 7, J1 8, J1 9, J1 10, J1 11, J1 12, J1 13, J1 14, .slice (some ⟨g1, 0, none⟩) 0 0, .string (bs l), .bool (decide (l = ([] : List UInt8))), undef, .string (bs l), .slice (some ⟨g2, 0, none⟩) ((cutL 32 l).length) cap1, .slice (some ⟨g2, 0, none⟩) ((cutL 32 l).length) cap1, .int .i64 ((cutL 32 l).length : Int), .bool (decide (20 < ((cutL 32 l).length : Int))), undef, J1 25, J1 26, J1 27, J1 28, J1 29, J1 30, J1 31, J1 32, J1 33, J1 34, J1 35, J1 36, J1 37, J1 38, J1 39, J1 40, J1 41, J1 42, J1 43, J1 44, J1 45, J1 46, J1 47, J1 48, J1 49, J1 50, J1 51, J1 52, J1 53, J1 54, J1 55, J1 56, J1 57, J1 58, J1 59, J1 60, J1 61, J1 62, J1 63, J1 64, J1 65, J1 66, J1 67, J1 68, J1 69, J1 70, J1 71, J1 72, J1 73, J1 74, J1 75, J1 76, J1 77, J1 78, J1 79, J1 80, J1 81, J1 82, J1 83, J1 84, J1 85, J1 86, J1 87, J1 88, J1 89, J1 90, J1 91, J1 92, J1 93, J1 94, J1 95, J1 96, J1 97, J1 98, J1 99, J1 100, J1 101, J1 102, undef], []⟩)) ((cutL 32 l).length) ?_ ?_
     · refine ⟨0, g1, 0, #[], rfl, ?_, ?_, ?_, ?_, ?_, H2, B2, B1, exJ (by kernel_rfl)⟩
       · omega
       · intro j h1; omega
       · exact S1
       · exact lo_g1
       · exact (Ne.symm q_g1_g2)
     intro m1 a wl1 hI
     obtain ⟨i, go, capo, cso, rfl, hi_, hok, So, lo_go, n_g2_go, HL1, B2, Bo, J1, rfl⟩ := hI
     have al_ := atL_le 32 l i
     refine wp_seq ?_
     refine wsr ?_
     refine wv (.int .i64 (i : Int)) ?_
     refine wv (.slice (some ⟨g2, 0, none⟩) ((cutL 32 l).length) cap1) ?_
     refine wv (.int .i64 ((cutL 32 l).length : Int)) ?_
     refine wv (.bool (decide ((i : Int) < ((cutL 32 l).length : Int)))) ?_
     refine wpList_nil (then_normal ?_)
     refine wsplit (decide ((i : Int) < ((cutL 32 l).length : Int))) (fun h3 => ?_) (fun h3 => ?_)
     · skip
       have h3d := dT h3
       refine wp_skip ?_
       refine then_normal ?_
       refine wp_seq ?_
       refine wp_block ?_
       refine wsr ?_
       refine wv (.slice (some ⟨g2, 0, none⟩) ((cutL 32 l).length) cap1) ?_
       refine wv (.int .i64 (i : Int)) ?_
       refine wsix1 g2 0 ((cutL 32 l).length) cap1 i .i64 slit__string ?_
       refine wld g2 (0 + i) scal_string (B2.get (SlS.get S2 (by omega))) ?_
       refine wcls (l01Split_any (atL (cutL 32 l) i) 58 (by omega) _) ?_
       intro g4 cap2 cs2 w4 B4 S4 E4 hg_
       have q_g2_g4 := Nat.ne_of_lt (Nat.lt_of_lt_of_le B2.lt hg_)
       have q_go_g4 := Nat.ne_of_lt (Nat.lt_of_lt_of_le Bo.lt hg_)
       have lo_g4 := Nat.le_trans (HL1).size hg_
       have al3 := atL_le 58 (atL (cutL 32 l) i) 0
       have al4 := atL_le 58 (atL (cutL 32 l) i) 1
       refine wv (.slice (some ⟨g4, 0, none⟩) ((cutL 58 (atL (cutL 32 l) i)).length) cap2) ?_
       refine wpList_nil (then_normal ?_)
       refine wp_seq ?_
       refine wsr ?_
       refine wv (.slice (some ⟨g4, 0, none⟩) ((cutL 58 (atL (cutL 32 l) i)).length) cap2) ?_
       refine wv (.int .i64 ((cutL 58 (atL (cutL 32 l) i)).length : Int)) ?_
       refine wv (.bool (((cutL 58 (atL (cutL 32 l) i)).length : Int) != 2)) ?_
       refine wpList_nil (then_normal ?_)
       have H4 := HL1.trans E4
       refine wsplit (((cutL 58 (atL (cutL 32 l) i)).length : Int) != 2) (fun h4 => ?_) (fun h4 => ?_)
       · skip
         have h4d := nT h4
         refine wsr ?_
         replace B2 := B2.ext E4
         replace Bo := Bo.ext E4
         refine wbsl 0 #[] slt__impl_Scarecrow ?_
         intro g5 w5 B5 E5 hg_
         have q_g2_g5 := Nat.ne_of_lt (Nat.lt_of_lt_of_le B2.lt hg_)
         have q_go_g5 := Nat.ne_of_lt (Nat.lt_of_lt_of_le Bo.lt hg_)
         have q_g4_g5 := Nat.ne_of_lt (Nat.lt_of_lt_of_le B4.lt hg_)
         have lo_g5 := Nat.le_trans (H4).size hg_
         have S5 : SlX #[] 0 0 3 [.i16, .i16, .i8] (sdF l) := SlX.nil (e := 0) rfl
         refine wv (.slice (some ⟨g5, 0, none⟩) 0 0) ?_
         refine wv (.int .i64 5) ?_
         refine wpList_nil (then_normal ?_)
         refine wp_ret ?_
         refine then_ret (block_ret (then_ret (then_ret (block_ret (then_ret ?_)))))
         refine ret2 (.slice (some ⟨g5, 0, none⟩) 0 0) (.int .i64 5) rfl ?_ ?_ rfl ?_
         · exact resT (by kernel_rfl)
         · exact resT (by kernel_rfl)
         have H5 := H4.trans E5
         exact .inr ⟨(by first | exact rdO_long (by assumption) (by omega) | exact rdO_bad (i := i) (by assumption) (by omega) (by first | exact sdW_1 (by assumption) | exact sdW_2 (by assumption) | exact sdW_3 (by assumption) | exact sdW_4 (by assumption) | exact sdW_5 (by assumption) | exact sdW_6 (by assumption) | exact sdW_7 (by assumption) | exact sdW_8 (by assumption))), ⟨_, _, rfl⟩, H5⟩
       · skip
         have h4d := nF h4
         refine wp_skip ?_
         refine then_normal ?_
         refine wsr ?_
         refine wv (.slice (some ⟨g4, 0, none⟩) ((cutL 58 (atL (cutL 32 l) i)).length) cap2) ?_
         refine wsix1 g4 0 ((cutL 58 (atL (cutL 32 l) i)).length) cap2 1 .i64 slit__string ?_
         refine wld g4 (0 + 1) scal_string (B4.get (SlS.get S4 (by omega))) ?_
         replace B2 := B2.ext E4
         replace Bo := Bo.ext E4
         refine wcls (l01Split_any (atL (cutL 58 (atL (cutL 32 l) i)) 1) 47 (by omega) _) ?_
         intro g6 cap3 cs3 w6 B6 S6 E6 hg_
         have q_g2_g6 := Nat.ne_of_lt (Nat.lt_of_lt_of_le B2.lt hg_)
         have q_go_g6 := Nat.ne_of_lt (Nat.lt_of_lt_of_le Bo.lt hg_)
         have q_g4_g6 := Nat.ne_of_lt (Nat.lt_of_lt_of_le B4.lt hg_)
         have lo_g6 := Nat.le_trans (H4).size hg_
         have al5 := atL_le 47 (atL (cutL 58 (atL (cutL 32 l) i)) 1) 0
         have al6 := atL_le 47 (atL (cutL 58 (atL (cutL 32 l) i)) 1) 1
         refine wv (.slice (some ⟨g6, 0, none⟩) ((cutL 47 (atL (cutL 58 (atL (cutL 32 l) i)) 1)).length) cap3) ?_
         refine wpList_nil (then_normal ?_)
         refine wp_seq ?_
         refine wsr ?_
         refine wv (.slice (some ⟨g6, 0, none⟩) ((cutL 47 (atL (cutL 58 (atL (cutL 32 l) i)) 1)).length) cap3) ?_
         refine wv (.int .i64 ((cutL 47 (atL (cutL 58 (atL (cutL 32 l) i)) 1)).length : Int)) ?_
         refine wv (.bool (((cutL 47 (atL (cutL 58 (atL (cutL 32 l) i)) 1)).length : Int) != 2)) ?_
         refine wpList_nil (then_normal ?_)
         have H6 := H4.trans E6
         refine wsplit (((cutL 47 (atL (cutL 58 (atL (cutL 32 l) i)) 1)).length : Int) != 2) (fun h5 => ?_) (fun h5 => ?_)
         · skip
           have h5d := nT h5
           refine wsr ?_
           replace B2 := B2.ext E6
           replace Bo := Bo.ext E6
           replace B4 := B4.ext E6
           refine wbsl 0 #[] slt__impl_Scarecrow ?_
           intro g7 w7 B7 E7 hg_
           have q_g2_g7 := Nat.ne_of_lt (Nat.lt_of_lt_of_le B2.lt hg_)
           have q_go_g7 := Nat.ne_of_lt (Nat.lt_of_lt_of_le Bo.lt hg_)
           have q_g4_g7 := Nat.ne_of_lt (Nat.lt_of_lt_of_le B4.lt hg_)
           have q_g6_g7 := Nat.ne_of_lt (Nat.lt_of_lt_of_le B6.lt hg_)
           have lo_g7 := Nat.le_trans (H6).size hg_
           have S7 : SlX #[] 0 0 3 [.i16, .i16, .i8] (sdF l) := SlX.nil (e := 0) rfl
           refine wv (.slice (some ⟨g7, 0, none⟩) 0 0) ?_
           refine wv (.int .i64 5) ?_
           refine wpList_nil (then_normal ?_)
           refine wp_ret ?_
           refine then_ret (block_ret (then_ret (then_ret (block_ret (then_ret ?_)))))
           refine ret2 (.slice (some ⟨g7, 0, none⟩) 0 0) (.int .i64 5) rfl ?_ ?_ rfl ?_
           · exact resT (by kernel_rfl)
           · exact resT (by kernel_rfl)
           have H7 := H6.trans E7
           exact .inr ⟨(by first | exact rdO_long (by assumption) (by omega) | exact rdO_bad (i := i) (by assumption) (by omega) (by first | exact sdW_1 (by assumption) | exact sdW_2 (by assumption) | exact sdW_3 (by assumption) | exact sdW_4 (by assumption) | exact sdW_5 (by assumption) | exact sdW_6 (by assumption) | exact sdW_7 (by assumption) | exact sdW_8 (by assumption))), ⟨_, _, rfl⟩, H7⟩
         · skip
           have h5d := nF h5
           refine wp_skip ?_
           refine then_normal ?_
           refine wsr ?_
           refine wv (.slice (some ⟨g4, 0, none⟩) ((cutL 58 (atL (cutL 32 l) i)).length) cap2) ?_
           refine wsix1 g4 0 ((cutL 58 (atL (cutL 32 l) i)).length) cap2 0 .i64 slit__string ?_
           replace B4 := B4.ext E6
           refine wld g4 (0 + 0) scal_string (B4.get (SlS.get S4 (by omega))) ?_
           refine wcl (l01Number_any (atL (cutL 58 (atL (cutL 32 l) i)) 0) (by omega) _) ?_
           intro w8 E8
           have nv1 := numV_in (atL (cutL 58 (atL (cutL 32 l) i)) 0)
           refine wv (.tuple #[.int .i64 (numV (atL (cutL 58 (atL (cutL 32 l) i)) 0)), .bool (numO (atL (cutL 58 (atL (cutL 32 l) i)) 0))]) ?_
           refine wv (.int .i64 (numV (atL (cutL 58 (atL (cutL 32 l) i)) 0))) ?_
           refine wv (.bool (numO (atL (cutL 58 (atL (cutL 32 l) i)) 0))) ?_
           refine wv (.int .i64 (numV (atL (cutL 58 (atL (cutL 32 l) i)) 0))) ?_
           refine wv (.bool (numO (atL (cutL 58 (atL (cutL 32 l) i)) 0))) ?_
           refine wpList_nil (then_normal ?_)
           refine wsr ?_
           refine wv (.slice (some ⟨g6, 0, none⟩) ((cutL 47 (atL (cutL 58 (atL (cutL 32 l) i)) 1)).length) cap3) ?_
           refine wsix1 g6 0 ((cutL 47 (atL (cutL 58 (atL (cutL 32 l) i)) 1)).length) cap3 0 .i64 slit__string ?_
           replace B6 := B6.ext E8
           refine wld g6 (0 + 0) scal_string (B6.get (SlS.get S6 (by omega))) ?_
           refine wcl (l01Number_any (atL (cutL 47 (atL (cutL 58 (atL (cutL 32 l) i)) 1)) 0) (by omega) _) ?_
           intro w9 E9
           have nv2 := numV_in (atL (cutL 47 (atL (cutL 58 (atL (cutL 32 l) i)) 1)) 0)
           refine wv (.tuple #[.int .i64 (numV (atL (cutL 47 (atL (cutL 58 (atL (cutL 32 l) i)) 1)) 0)), .bool (numO (atL (cutL 47 (atL (cutL 58 (atL (cutL 32 l) i)) 1)) 0))]) ?_
           refine wv (.int .i64 (numV (atL (cutL 47 (atL (cutL 58 (atL (cutL 32 l) i)) 1)) 0))) ?_
           refine wv (.bool (numO (atL (cutL 47 (atL (cutL 58 (atL (cutL 32 l) i)) 1)) 0))) ?_
           refine wv (.int .i64 (numV (atL (cutL 47 (atL (cutL 58 (atL (cutL 32 l) i)) 1)) 0))) ?_
           refine wv (.bool (numO (atL (cutL 47 (atL (cutL 58 (atL (cutL 32 l) i)) 1)) 0))) ?_
           refine wpList_nil (then_normal ?_)
           refine wp_frame (a' := ⟨#[.string (bs l), undef, J1 2, J1 3, .slice (some ⟨go, 0, none⟩) i capo, .slice (some ⟨g2, 0, none⟩) ((cutL 32 l).length) cap1, .int .i64 (i : Int), .slice (some ⟨g4, 0, none⟩) ((cutL 58 (atL (cutL 32 l) i)).length) cap2, .slice (some ⟨g6, 0, none⟩) ((cutL 47 (atL (cutL 58 (atL (cutL 32 l) i)) 1)).length) cap3, .int .i64 (numV (atL (cutL 58 (atL (cutL 32 l) i)) 0)), .bool (numO (atL (cutL 58 (atL (cutL 32 l) i)) 0)), .int .i64 (numV (atL (cutL 47 (atL (cutL 58 (atL (cutL 32 l) i)) 1)) 0)), .bool (numO (atL (cutL 47 (atL (cutL 58 (atL (cutL 32 l) i)) 1)) 0)), J1 13, J1 14, .slice (some ⟨g1, 0, none⟩) 0 0, .string (bs l), .bool (decide (l = ([] : List UInt8))), undef, .string (bs l), .slice (some ⟨g2, 0, none⟩) ((cutL 32 l).length) cap1, .slice (some ⟨g2, 0, none⟩) ((cutL 32 l).length) cap1, .int .i64 ((cutL 32 l).length : Int), .bool (decide (20 < ((cutL 32 l).length : Int))), undef, .int .i64 (i : Int), .slice (some ⟨g2, 0, none⟩) ((cutL 32 l).length) cap1, .int .i64 ((cutL 32 l).length : Int), .bool (decide ((i : Int) < ((cutL 32 l).length : Int))), J1 29, J1 30, .slice (some ⟨g2, 0, none⟩) ((cutL 32 l).length) cap1, .int .i64 (i : Int), .pointer (some ⟨g2, 0 + i, none⟩), .string (bs (atL (cutL 32 l) i)), .slice (some ⟨g4, 0, none⟩) ((cutL 58 (atL (cutL 32 l) i)).length) cap2, .slice (some ⟨g4, 0, none⟩) ((cutL 58 (atL (cutL 32 l) i)).length) cap2, .int .i64 ((cutL 58 (atL (cutL 32 l) i)).length : Int), .bool (((cutL 58 (atL (cutL 32 l) i)).length : Int) != 2), J1 39, .slice (some ⟨g4, 0, none⟩) ((cutL 58 (atL (cutL 32 l) i)).length) cap2, .pointer (some ⟨g4, 0 + 1, none⟩), .string (bs (atL (cutL 58 (atL (cutL 32 l) i)) 1)), .slice (some ⟨g6, 0, none⟩) ((cutL 47 (atL (cutL 58 (atL (cutL 32 l) i)) 1)).length) cap3, .slice (some ⟨g6, 0, none⟩) ((cutL 47 (atL (cutL 58 (atL (cutL 32 l) i)) 1)).length) cap3, .int .i64 ((cutL 47 (atL (cutL 58 (atL (cutL 32 l) i)) 1)).length : Int), .bool (((cutL 47 (atL (cutL 58 (atL (cutL 32 l) i)) 1)).length : Int) != 2), J1 47, .tuple #[.int .i64 (numV (atL (cutL 58 (atL (cutL 32 l) i)) 0)), .bool (numO (atL (cutL 58 (atL (cutL 32 l) i)) 0))], .slice (some ⟨g4, 0, none⟩) ((cutL 58 (atL (cutL 32 l) i)).length) cap2, .pointer (some ⟨g4, 0 + 0, none⟩), .string (bs (atL (cutL 58 (atL (cutL 32 l) i)) 0)), .tuple #[.int .i64 (numV (atL (cutL 58 (atL (cutL 32 l) i)) 0)), .bool (numO (atL (cutL 58 (atL (cutL 32 l) i)) 0))], .int .i64 (numV (atL (cutL 58 (atL (cutL 32 l) i)) 0)), .bool (numO (atL (cutL 58 (atL (cutL 32 l) i)) 0)), .tuple #[.int .i64 (numV (atL (cutL 47 (atL (cutL 58 (atL (cutL 32 l) i)) 1)) 0)), .bool (numO (atL (cutL 47 (atL (cutL 58 (atL (cutL 32 l) i)) 1)) 0))], .slice (some ⟨g6, 0, none⟩) ((cutL 47 (atL (cutL 58 (atL (cutL 32 l) i)) 1)).length) cap3, .pointer (some ⟨g6, 0 + 0, none⟩), .string (bs (atL (cutL 47 (atL (cutL 58 (atL (cutL 32 l) i)) 1)) 0)), .tuple #[.int .i64 (numV (atL (cutL 47 (atL (cutL 58 (atL (cutL 32 l) i)) 1)) 0)), .bool (numO (atL (cutL 47 (atL (cutL 58 (atL (cutL 32 l) i)) 1)) 0))], .int .i64 (numV (atL (cutL 47 (atL (cutL 58 (atL (cutL 32 l) i)) 1)) 0)), .bool (numO (atL (cutL 47 (atL (cutL 58 (atL (cutL 32 l) i)) 1)) 0)), J1 62, J1 63, J1 64, J1 65, J1 66, J1 67, J1 68, J1 69, J1 70, J1 71, J1 72, J1 73, J1 74, J1 75, J1 76, J1 77, J1 78, J1 79, J1 80, J1 81, J1 82, J1 83, J1 84, J1 85, J1 86, J1 87, J1 88, J1 89, J1 90, J1 91, J1 92, J1 93, J1 94, J1 95, J1 96, J1 97, J1 98, J1 99, J1 100, J1 101, J1 102, undef], []⟩) (by kernel_rfl) ?_
           refine wsr ?_
           refine wv (.slice (some ⟨g6, 0, none⟩) ((cutL 47 (atL (cutL 58 (atL (cutL 32 l) i)) 1)).length) cap3) ?_
           refine wsix1 g6 0 ((cutL 47 (atL (cutL 58 (atL (cutL 32 l) i)) 1)).length) cap3 1 .i64 slit__string ?_
           replace B6 := B6.ext E9
           refine wld g6 (0 + 1) scal_string (B6.get (SlS.get S6 (by omega))) ?_
           refine wcl (l01Number_any (atL (cutL 47 (atL (cutL 58 (atL (cutL 32 l) i)) 1)) 1) (by omega) _) ?_
           intro w10 E10
           have nv3 := numV_in (atL (cutL 47 (atL (cutL 58 (atL (cutL 32 l) i)) 1)) 1)
           refine wv (.tuple #[.int .i64 (numV (atL (cutL 47 (atL (cutL 58 (atL (cutL 32 l) i)) 1)) 1)), .bool (numO (atL (cutL 47 (atL (cutL 58 (atL (cutL 32 l) i)) 1)) 1))]) ?_
           refine wv (.int .i64 (numV (atL (cutL 47 (atL (cutL 58 (atL (cutL 32 l) i)) 1)) 1))) ?_
           refine wv (.bool (numO (atL (cutL 47 (atL (cutL 58 (atL (cutL 32 l) i)) 1)) 1))) ?_
           refine wv (.int .i64 (numV (atL (cutL 47 (atL (cutL 58 (atL (cutL 32 l) i)) 1)) 1))) ?_
           refine wv (.bool (numO (atL (cutL 47 (atL (cutL 58 (atL (cutL 32 l) i)) 1)) 1))) ?_
           refine wpList_nil (then_normal ?_)
           refine wp_seq ?_
           refine wsr ?_
           refine wv (.bool (numO (atL (cutL 58 (atL (cutL 32 l) i)) 0))) ?_
           refine wv (.bool (!(numO (atL (cutL 58 (atL (cutL 32 l) i)) 0)))) ?_
           refine wv (.bool (!(numO (atL (cutL 58 (atL (cutL 32 l) i)) 0)))) ?_
           have H8 := ((H6.trans E8).trans E9).trans E10
           refine split_bool (numO (atL (cutL 58 (atL (cutL 32 l) i)) 0)) (fun h6 => ?_) (fun h6 => ?_)
           · skip
             refine wbl 71 false (bnT h6) ?_
             refine wv (.bool (numO (atL (cutL 47 (atL (cutL 58 (atL (cutL 32 l) i)) 1)) 0))) ?_
             refine wv (.bool (!(numO (atL (cutL 47 (atL (cutL 58 (atL (cutL 32 l) i)) 1)) 0)))) ?_
             refine wv (.bool (!(numO (atL (cutL 47 (atL (cutL 58 (atL (cutL 32 l) i)) 1)) 0)))) ?_
             refine wv (.bool (!(numO (atL (cutL 47 (atL (cutL 58 (atL (cutL 32 l) i)) 1)) 0)))) ?_
             refine split_bool (numO (atL (cutL 47 (atL (cutL 58 (atL (cutL 32 l) i)) 1)) 0)) (fun h7 => ?_) (fun h7 => ?_)
             · skip
               refine wbl 75 false (bnT h7) ?_
               refine wv (.bool (numO (atL (cutL 47 (atL (cutL 58 (atL (cutL 32 l) i)) 1)) 1))) ?_
               refine wv (.bool (!(numO (atL (cutL 47 (atL (cutL 58 (atL (cutL 32 l) i)) 1)) 1)))) ?_
               refine wv (.bool (!(numO (atL (cutL 47 (atL (cutL 58 (atL (cutL 32 l) i)) 1)) 1)))) ?_
               refine wv (.bool (!(numO (atL (cutL 47 (atL (cutL 58 (atL (cutL 32 l) i)) 1)) 1)))) ?_
               refine split_bool (numO (atL (cutL 47 (atL (cutL 58 (atL (cutL 32 l) i)) 1)) 1)) (fun h8 => ?_) (fun h8 => ?_)
               · skip
                 refine wbl 79 false (bnT h8) ?_
                 refine wv (.int .i64 (numV (atL (cutL 58 (atL (cutL 32 l) i)) 0))) ?_
                 refine wv (.bool (decide (99 < numV (atL (cutL 58 (atL (cutL 32 l) i)) 0)))) ?_
                 refine wv (.bool (decide (99 < numV (atL (cutL 58 (atL (cutL 32 l) i)) 0)))) ?_
                 refine wv (.bool (decide (99 < numV (atL (cutL 58 (atL (cutL 32 l) i)) 0)))) ?_
                 refine split_bool (decide (99 < numV (atL (cutL 58 (atL (cutL 32 l) i)) 0))) (fun h9 => ?_) (fun h9 => ?_)
                 · skip
                   refine wbl 83 true h9 ?_
                   have h9d := dT h9
                   refine wsk ?_
                   refine wsk ?_
                   refine wsk ?_
                   refine wv (.bool true) ?_
                   refine wv (.bool true) ?_
                   refine wsk ?_
                   refine wsk ?_
                   refine wv (.bool true) ?_
                   refine wpList_nil (then_normal ?_)
                   refine wp_frame (a' := ⟨#[.string (bs l), undef, J1 2, J1 3, .slice (some ⟨go, 0, none⟩) i capo, .slice (some ⟨g2, 0, none⟩) ((cutL 32 l).length) cap1, .int .i64 (i : Int), .slice (some ⟨g4, 0, none⟩) ((cutL 58 (atL (cutL 32 l) i)).length) cap2, .slice (some ⟨g6, 0, none⟩) ((cutL 47 (atL (cutL 58 (atL (cutL 32 l) i)) 1)).length) cap3, .int .i64 (numV (atL (cutL 58 (atL (cutL 32 l) i)) 0)), .bool (numO (atL (cutL 58 (atL (cutL 32 l) i)) 0)), .int .i64 (numV (atL (cutL 47 (atL (cutL 58 (atL (cutL 32 l) i)) 1)) 0)), .bool (numO (atL (cutL 47 (atL (cutL 58 (atL (cutL 32 l) i)) 1)) 0)), .int .i64 (numV (atL (cutL 47 (atL (cutL 58 (atL (cutL 32 l) i)) 1)) 1)), .bool (numO (atL (cutL 47 (atL (cutL 58 (atL (cutL 32 l) i)) 1)) 1)), .slice (some ⟨g1, 0, none⟩) 0 0, .string (bs l), .bool (decide (l = ([] : List UInt8))), undef, .string (bs l), .slice (some ⟨g2, 0, none⟩) ((cutL 32 l).length) cap1, .slice (some ⟨g2, 0, none⟩) ((cutL 32 l).length) cap1, .int .i64 ((cutL 32 l).length : Int), .bool (decide (20 < ((cutL 32 l).length : Int))), undef, .int .i64 (i : Int), .slice (some ⟨g2, 0, none⟩) ((cutL 32 l).length) cap1, .int .i64 ((cutL 32 l).length : Int), .bool (decide ((i : Int) < ((cutL 32 l).length : Int))), J1 29, J1 30, .slice (some ⟨g2, 0, none⟩) ((cutL 32 l).length) cap1, .int .i64 (i : Int), .pointer (some ⟨g2, 0 + i, none⟩), .string (bs (atL (cutL 32 l) i)), .slice (some ⟨g4, 0, none⟩) ((cutL 58 (atL (cutL 32 l) i)).length) cap2, .slice (some ⟨g4, 0, none⟩) ((cutL 58 (atL (cutL 32 l) i)).length) cap2, .int .i64 ((cutL 58 (atL (cutL 32 l) i)).length : Int), .bool (((cutL 58 (atL (cutL 32 l) i)).length : Int) != 2), J1 39, .slice (some ⟨g4, 0, none⟩) ((cutL 58 (atL (cutL 32 l) i)).length) cap2, .pointer (some ⟨g4, 0 + 1, none⟩), .string (bs (atL (cutL 58 (atL (cutL 32 l) i)) 1)), .slice (some ⟨g6, 0, none⟩) ((cutL 47 (atL (cutL 58 (atL (cutL 32 l) i)) 1)).length) cap3, .slice (some ⟨g6, 0, none⟩) ((cutL 47 (atL (cutL 58 (atL (cutL 32 l) i)) 1)).length) cap3, .int .i64 ((cutL 47 (atL (cutL 58 (atL (cutL 32 l) i)) 1)).length : Int), .bool (((cutL 47 (atL (cutL 58 (atL (cutL 32 l) i)) 1)).length : Int) != 2), J1 47, .tuple #[.int .i64 (numV (atL (cutL 58 (atL (cutL 32 l) i)) 0)), .bool (numO (atL (cutL 58 (atL (cutL 32 l) i)) 0))], .slice (some ⟨g4, 0, none⟩) ((cutL 58 (atL (cutL 32 l) i)).length) cap2, .pointer (some ⟨g4, 0 + 0, none⟩), .string (bs (atL (cutL 58 (atL (cutL 32 l) i)) 0)), .tuple #[.int .i64 (numV (atL (cutL 58 (atL (cutL 32 l) i)) 0)), .bool (numO (atL (cutL 58 (atL (cutL 32 l) i)) 0))], .int .i64 (numV (atL (cutL 58 (atL (cutL 32 l) i)) 0)), .bool (numO (atL (cutL 58 (atL (cutL 32 l) i)) 0)), .tuple #[.int .i64 (numV (atL (cutL 47 (atL (cutL 58 (atL (cutL 32 l) i)) 1)) 0)), .bool (numO (atL (cutL 47 (atL (cutL 58 (atL (cutL 32 l) i)) 1)) 0))], .slice (some ⟨g6, 0, none⟩) ((cutL 47 (atL (cutL 58 (atL (cutL 32 l) i)) 1)).length) cap3, .pointer (some ⟨g6, 0 + 0, none⟩), .string (bs (atL (cutL 47 (atL (cutL 58 (atL (cutL 32 l) i)) 1)) 0)), .tuple #[.int .i64 (numV (atL (cutL 47 (atL (cutL 58 (atL (cutL 32 l) i)) 1)) 0)), .bool (numO (atL (cutL 47 (atL (cutL 58 (atL (cutL 32 l) i)) 1)) 0))], .int .i64 (numV (atL (cutL 47 (atL (cutL 58 (atL (cutL 32 l) i)) 1)) 0)), .bool (numO (atL (cutL 47 (atL (cutL 58 (atL (cutL 32 l) i)) 1)) 0)), .tuple #[.int .i64 (numV (atL (cutL 47 (atL (cutL 58 (atL (cutL 32 l) i)) 1)) 1)), .bool (numO (atL (cutL 47 (atL (cutL 58 (atL (cutL 32 l) i)) 1)) 1))], .slice (some ⟨g6, 0, none⟩) ((cutL 47 (atL (cutL 58 (atL (cutL 32 l) i)) 1)).length) cap3, .pointer (some ⟨g6, 0 + 1, none⟩), .string (bs (atL (cutL 47 (atL (cutL 58 (atL (cutL 32 l) i)) 1)) 1)), .tuple #[.int .i64 (numV (atL (cutL 47 (atL (cutL 58 (atL (cutL 32 l) i)) 1)) 1)), .bool (numO (atL (cutL 47 (atL (cutL 58 (atL (cutL 32 l) i)) 1)) 1))], .int .i64 (numV (atL (cutL 47 (atL (cutL 58 (atL (cutL 32 l) i)) 1)) 1)), .bool (numO (atL (cutL 47 (atL (cutL 58 (atL (cutL 32 l) i)) 1)) 1)), .bool (numO (atL (cutL 58 (atL (cutL 32 l) i)) 0)), .bool (!(numO (atL (cutL 58 (atL (cutL 32 l) i)) 0))), .bool false, .bool (numO (atL (cutL 47 (atL (cutL 58 (atL (cutL 32 l) i)) 1)) 0)), .bool (!(numO (atL (cutL 47 (atL (cutL 58 (atL (cutL 32 l) i)) 1)) 0))), .bool (!(numO (atL (cutL 47 (atL (cutL 58 (atL (cutL 32 l) i)) 1)) 0))), .bool false, .bool (numO (atL (cutL 47 (atL (cutL 58 (atL (cutL 32 l) i)) 1)) 1)), .bool (!(numO (atL (cutL 47 (atL (cutL 58 (atL (cutL 32 l) i)) 1)) 1))), .bool (!(numO (atL (cutL 47 (atL (cutL 58 (atL (cutL 32 l) i)) 1)) 1))), .bool false, .int .i64 (numV (atL (cutL 58 (atL (cutL 32 l) i)) 0)), .bool (decide (99 < numV (atL (cutL 58 (atL (cutL 32 l) i)) 0))), .bool (decide (99 < numV (atL (cutL 58 (atL (cutL 32 l) i)) 0))), .bool true, undef, undef, undef, .bool true, .bool true, undef, undef, .bool true, J1 92, J1 93, J1 94, J1 95, J1 96, J1 97, J1 98, J1 99, J1 100, J1 101, J1 102, undef], []⟩) (by kernel_rfl) ?_
                   refine wct ?_
                   refine wsr ?_
                   replace B2 := (((B2.ext E6).ext E8).ext E9).ext E10
                   replace Bo := (((Bo.ext E6).ext E8).ext E9).ext E10
                   replace B4 := ((B4.ext E8).ext E9).ext E10
                   replace B6 := B6.ext E10
                   refine wbsl 0 #[] slt__impl_Scarecrow ?_
                   intro g8 w11 B8 E11 hg_
                   have q_g2_g8 := Nat.ne_of_lt (Nat.lt_of_lt_of_le B2.lt hg_)
                   have q_go_g8 := Nat.ne_of_lt (Nat.lt_of_lt_of_le Bo.lt hg_)
                   have q_g4_g8 := Nat.ne_of_lt (Nat.lt_of_lt_of_le B4.lt hg_)
                   have q_g6_g8 := Nat.ne_of_lt (Nat.lt_of_lt_of_le B6.lt hg_)
                   have lo_g8 := Nat.le_trans (H8).size hg_
                   have S8 : SlX #[] 0 0 3 [.i16, .i16, .i8] (sdF l) := SlX.nil (e := 0) rfl
                   refine wv (.slice (some ⟨g8, 0, none⟩) 0 0) ?_
                   refine wv (.int .i64 5) ?_
                   refine wpList_nil (then_normal ?_)
                   refine wp_ret ?_
                   refine then_ret (block_ret (then_ret (then_ret (block_ret (then_ret ?_)))))
                   refine ret2 (.slice (some ⟨g8, 0, none⟩) 0 0) (.int .i64 5) rfl ?_ ?_ rfl ?_
                   · exact resT (by kernel_rfl)
                   · exact resT (by kernel_rfl)
                   have H9 := H8.trans E11
                   exact .inr ⟨(by first | exact rdO_long (by assumption) (by omega) | exact rdO_bad (i := i) (by assumption) (by omega) (by first | exact sdW_1 (by assumption) | exact sdW_2 (by assumption) | exact sdW_3 (by assumption) | exact sdW_4 (by assumption) | exact sdW_5 (by assumption) | exact sdW_6 (by assumption) | exact sdW_7 (by assumption) | exact sdW_8 (by assumption))), ⟨_, _, rfl⟩, H9⟩
                 · skip
                   refine wbl 83 false h9 ?_
                   have h9d := dF h9
                   refine wv (.int .i64 (numV (atL (cutL 47 (atL (cutL 58 (atL (cutL 32 l) i)) 1)) 0))) ?_
                   refine wcl (l03Power_any (numV (atL (cutL 47 (atL (cutL 58 (atL (cutL 32 l) i)) 1)) 0)) _) ?_
                   intro w12 E12
                   refine wv (.bool (!(inB (numV (atL (cutL 47 (atL (cutL 58 (atL (cutL 32 l) i)) 1)) 0)) 1 1000))) ?_
                   refine wv (.bool (!(inB (numV (atL (cutL 47 (atL (cutL 58 (atL (cutL 32 l) i)) 1)) 0)) 1 1000))) ?_
                   refine wv (.bool (!(inB (numV (atL (cutL 47 (atL (cutL 58 (atL (cutL 32 l) i)) 1)) 0)) 1 1000))) ?_
                   have H10 := H8.trans E12
                   refine split_bool (inB (numV (atL (cutL 47 (atL (cutL 58 (atL (cutL 32 l) i)) 1)) 0)) 1 1000) (fun h10 => ?_) (fun h10 => ?_)
                   · skip
                     refine wbl 88 false (bnT h10) ?_
                     have h10d := inT h10
                     refine wv (.int .i64 (numV (atL (cutL 47 (atL (cutL 58 (atL (cutL 32 l) i)) 1)) 1))) ?_
                     refine wv (.bool (decide (30 < numV (atL (cutL 47 (atL (cutL 58 (atL (cutL 32 l) i)) 1)) 1)))) ?_
                     refine wv (.bool (decide (30 < numV (atL (cutL 47 (atL (cutL 58 (atL (cutL 32 l) i)) 1)) 1)))) ?_
                     refine wpList_nil (then_normal ?_)
                     refine wp_frame (a' := ⟨#[.string (bs l), undef, J1 2, J1 3, .slice (some ⟨go, 0, none⟩) i capo, .slice (some ⟨g2, 0, none⟩) ((cutL 32 l).length) cap1, .int .i64 (i : Int), .slice (some ⟨g4, 0, none⟩) ((cutL 58 (atL (cutL 32 l) i)).length) cap2, .slice (some ⟨g6, 0, none⟩) ((cutL 47 (atL (cutL 58 (atL (cutL 32 l) i)) 1)).length) cap3, .int .i64 (numV (atL (cutL 58 (atL (cutL 32 l) i)) 0)), .bool (numO (atL (cutL 58 (atL (cutL 32 l) i)) 0)), .int .i64 (numV (atL (cutL 47 (atL (cutL 58 (atL (cutL 32 l) i)) 1)) 0)), .bool (numO (atL (cutL 47 (atL (cutL 58 (atL (cutL 32 l) i)) 1)) 0)), .int .i64 (numV (atL (cutL 47 (atL (cutL 58 (atL (cutL 32 l) i)) 1)) 1)), .bool (numO (atL (cutL 47 (atL (cutL 58 (atL (cutL 32 l) i)) 1)) 1)), .slice (some ⟨g1, 0, none⟩) 0 0, .string (bs l), .bool (decide (l = ([] : List UInt8))), undef, .string (bs l), .slice (some ⟨g2, 0, none⟩) ((cutL 32 l).length) cap1, .slice (some ⟨g2, 0, none⟩) ((cutL 32 l).length) cap1, .int .i64 ((cutL 32 l).length : Int), .bool (decide (20 < ((cutL 32 l).length : Int))), undef, .int .i64 (i : Int), .slice (some ⟨g2, 0, none⟩) ((cutL 32 l).length) cap1, .int .i64 ((cutL 32 l).length : Int), .bool (decide ((i : Int) < ((cutL 32 l).length : Int))), J1 29, J1 30, .slice (some ⟨g2, 0, none⟩) ((cutL 32 l).length) cap1, .int .i64 (i : Int), .pointer (some ⟨g2, 0 + i, none⟩), .string (bs (atL (cutL 32 l) i)), .slice (some ⟨g4, 0, none⟩) ((cutL 58 (atL (cutL 32 l) i)).length) cap2, .slice (some ⟨g4, 0, none⟩) ((cutL 58 (atL (cutL 32 l) i)).length) cap2, .int .i64 ((cutL 58 (atL (cutL 32 l) i)).length : Int), .bool (((cutL 58 (atL (cutL 32 l) i)).length : Int) != 2), J1 39, .slice (some ⟨g4, 0, none⟩) ((cutL 58 (atL (cutL 32 l) i)).length) cap2, .pointer (some ⟨g4, 0 + 1, none⟩), .string (bs (atL (cutL 58 (atL (cutL 32 l) i)) 1)), .slice (some ⟨g6, 0, none⟩) ((cutL 47 (atL (cutL 58 (atL (cutL 32 l) i)) 1)).length) cap3, .slice (some ⟨g6, 0, none⟩) ((cutL 47 (atL (cutL 58 (atL (cutL 32 l) i)) 1)).length) cap3, .int .i64 ((cutL 47 (atL (cutL 58 (atL (cutL 32 l) i)) 1)).length : Int), .bool (((cutL 47 (atL (cutL 58 (atL (cutL 32 l) i)) 1)).length : Int) != 2), J1 47, .tuple #[.int .i64 (numV (atL (cutL 58 (atL (cutL 32 l) i)) 0)), .bool (numO (atL (cutL 58 (atL (cutL 32 l) i)) 0))], .slice (some ⟨g4, 0, none⟩) ((cutL 58 (atL (cutL 32 l) i)).length) cap2, .pointer (some ⟨g4, 0 + 0, none⟩), .string (bs (atL (cutL 58 (atL (cutL 32 l) i)) 0)), .tuple #[.int .i64 (numV (atL (cutL 58 (atL (cutL 32 l) i)) 0)), .bool (numO (atL (cutL 58 (atL (cutL 32 l) i)) 0))], .int .i64 (numV (atL (cutL 58 (atL (cutL 32 l) i)) 0)), .bool (numO (atL (cutL 58 (atL (cutL 32 l) i)) 0)), .tuple #[.int .i64 (numV (atL (cutL 47 (atL (cutL 58 (atL (cutL 32 l) i)) 1)) 0)), .bool (numO (atL (cutL 47 (atL (cutL 58 (atL (cutL 32 l) i)) 1)) 0))], .slice (some ⟨g6, 0, none⟩) ((cutL 47 (atL (cutL 58 (atL (cutL 32 l) i)) 1)).length) cap3, .pointer (some ⟨g6, 0 + 0, none⟩), .string (bs (atL (cutL 47 (atL (cutL 58 (atL (cutL 32 l) i)) 1)) 0)), .tuple #[.int .i64 (numV (atL (cutL 47 (atL (cutL 58 (atL (cutL 32 l) i)) 1)) 0)), .bool (numO (atL (cutL 47 (atL (cutL 58 (atL (cutL 32 l) i)) 1)) 0))], .int .i64 (numV (atL (cutL 47 (atL (cutL 58 (atL (cutL 32 l) i)) 1)) 0)), .bool (numO (atL (cutL 47 (atL (cutL 58 (atL (cutL 32 l) i)) 1)) 0)), .tuple #[.int .i64 (numV (atL (cutL 47 (atL (cutL 58 (atL (cutL 32 l) i)) 1)) 1)), .bool (numO (atL (cutL 47 (atL (cutL 58 (atL (cutL 32 l) i)) 1)) 1))], .slice (some ⟨g6, 0, none⟩) ((cutL 47 (atL (cutL 58 (atL (cutL 32 l) i)) 1)).length) cap3, .pointer (some ⟨g6, 0 + 1, none⟩), .string (bs (atL (cutL 47 (atL (cutL 58 (atL (cutL 32 l) i)) 1)) 1)), .tuple #[.int .i64 (numV (atL (cutL 47 (atL (cutL 58 (atL (cutL 32 l) i)) 1)) 1)), .bool (numO (atL (cutL 47 (atL (cutL 58 (atL (cutL 32 l) i)) 1)) 1))], .int .i64 (numV (atL (cutL 47 (atL (cutL 58 (atL (cutL 32 l) i)) 1)) 1)), .bool (numO (atL (cutL 47 (atL (cutL 58 (atL (cutL 32 l) i)) 1)) 1)), .bool (numO (atL (cutL 58 (atL (cutL 32 l) i)) 0)), .bool (!(numO (atL (cutL 58 (atL (cutL 32 l) i)) 0))), .bool false, .bool (numO (atL (cutL 47 (atL (cutL 58 (atL (cutL 32 l) i)) 1)) 0)), .bool (!(numO (atL (cutL 47 (atL (cutL 58 (atL (cutL 32 l) i)) 1)) 0))), .bool (!(numO (atL (cutL 47 (atL (cutL 58 (atL (cutL 32 l) i)) 1)) 0))), .bool false, .bool (numO (atL (cutL 47 (atL (cutL 58 (atL (cutL 32 l) i)) 1)) 1)), .bool (!(numO (atL (cutL 47 (atL (cutL 58 (atL (cutL 32 l) i)) 1)) 1))), .bool (!(numO (atL (cutL 47 (atL (cutL 58 (atL (cutL 32 l) i)) 1)) 1))), .bool false, .int .i64 (numV (atL (cutL 58 (atL (cutL 32 l) i)) 0)), .bool (decide (99 < numV (atL (cutL 58 (atL (cutL 32 l) i)) 0))), .bool (decide (99 < numV (atL (cutL 58 (atL (cutL 32 l) i)) 0))), .bool false, .int .i64 (numV (atL (cutL 47 (atL (cutL 58 (atL (cutL 32 l) i)) 1)) 0)), .bool (inB (numV (atL (cutL 47 (atL (cutL 58 (atL (cutL 32 l) i)) 1)) 0)) 1 1000), .bool (!(inB (numV (atL (cutL 47 (atL (cutL 58 (atL (cutL 32 l) i)) 1)) 0)) 1 1000)), .bool (!(inB (numV (atL (cutL 47 (atL (cutL 58 (atL (cutL 32 l) i)) 1)) 0)) 1 1000)), .bool false, .int .i64 (numV (atL (cutL 47 (atL (cutL 58 (atL (cutL 32 l) i)) 1)) 1)), .bool (decide (30 < numV (atL (cutL 47 (atL (cutL 58 (atL (cutL 32 l) i)) 1)) 1))), .bool (decide (30 < numV (atL (cutL 47 (atL (cutL 58 (atL (cutL 32 l) i)) 1)) 1))), J1 92, J1 93, J1 94, J1 95, J1 96, J1 97, J1 98, J1 99, J1 100, J1 101, J1 102, undef], []⟩) (by kernel_rfl) ?_
                     refine wsplit (decide (30 < numV (atL (cutL 47 (atL (cutL 58 (atL (cutL 32 l) i)) 1)) 1))) (fun h11 => ?_) (fun h11 => ?_)
                     · skip
                       have h11d := dT h11
                       refine wsr ?_
                       replace B2 := ((((B2.ext E6).ext E8).ext E9).ext E10).ext E12
                       replace Bo := ((((Bo.ext E6).ext E8).ext E9).ext E10).ext E12
                       replace B4 := (((B4.ext E8).ext E9).ext E10).ext E12
                       replace B6 := (B6.ext E10).ext E12
                       refine wbsl 0 #[] slt__impl_Scarecrow ?_
                       intro g9 w13 B9 E13 hg_
                       have q_g2_g9 := Nat.ne_of_lt (Nat.lt_of_lt_of_le B2.lt hg_)
                       have q_go_g9 := Nat.ne_of_lt (Nat.lt_of_lt_of_le Bo.lt hg_)
                       have q_g4_g9 := Nat.ne_of_lt (Nat.lt_of_lt_of_le B4.lt hg_)
                       have q_g6_g9 := Nat.ne_of_lt (Nat.lt_of_lt_of_le B6.lt hg_)
                       have lo_g9 := Nat.le_trans (H10).size hg_
                       have S9 : SlX #[] 0 0 3 [.i16, .i16, .i8] (sdF l) := SlX.nil (e := 0) rfl
                       refine wv (.slice (some ⟨g9, 0, none⟩) 0 0) ?_
                       refine wv (.int .i64 5) ?_
                       refine wpList_nil (then_normal ?_)
                       refine wp_ret ?_
                       refine then_ret (block_ret (then_ret (then_ret (block_ret (then_ret ?_)))))
                       refine ret2 (.slice (some ⟨g9, 0, none⟩) 0 0) (.int .i64 5) rfl ?_ ?_ rfl ?_
                       · exact resT (by kernel_rfl)
                       · exact resT (by kernel_rfl)
                       have H11 := H10.trans E13
                       exact .inr ⟨(by first | exact rdO_long (by assumption) (by omega) | exact rdO_bad (i := i) (by assumption) (by omega) (by first | exact sdW_1 (by assumption) | exact sdW_2 (by assumption) | exact sdW_3 (by assumption) | exact sdW_4 (by assumption) | exact sdW_5 (by assumption) | exact sdW_6 (by assumption) | exact sdW_7 (by assumption) | exact sdW_8 (by assumption))), ⟨_, _, rfl⟩, H11⟩
                     · skip
                       have h11d := dF h11
                       refine wp_skip ?_
                       refine then_normal ?_
                       refine wp_region_lit ?_
                       refine wv (.slice (some ⟨go, 0, none⟩) i capo) ?_
                       refine wv (.int .i64 (numV (atL (cutL 58 (atL (cutL 32 l) i)) 0))) ?_
                       refine wi16 (numV (atL (cutL 58 (atL (cutL 32 l) i)) 0)) ?_
                       refine wv (.int .i64 (numV (atL (cutL 47 (atL (cutL 58 (atL (cutL 32 l) i)) 1)) 0))) ?_
                       refine wi16 (numV (atL (cutL 47 (atL (cutL 58 (atL (cutL 32 l) i)) 1)) 0)) ?_
                       refine wv (.int .i64 (numV (atL (cutL 47 (atL (cutL 58 (atL (cutL 32 l) i)) 1)) 1))) ?_
                       refine wi8 (numV (atL (cutL 47 (atL (cutL 58 (atL (cutL 32 l) i)) 1)) 1)) ?_
                       refine wv (.agg #[.int .i16 (numV (atL (cutL 58 (atL (cutL 32 l) i)) 0)), .int .i16 (numV (atL (cutL 47 (atL (cutL 58 (atL (cutL 32 l) i)) 1)) 0)), .int .i8 (numV (atL (cutL 47 (atL (cutL 58 (atL (cutL 32 l) i)) 1)) 1))]) ?_
                       replace B2 := ((((B2.ext E6).ext E8).ext E9).ext E10).ext E12
                       replace Bo := ((((Bo.ext E6).ext E8).ext E9).ext E10).ext E12
                       replace B4 := (((B4.ext E8).ext E9).ext E10).ext E12
                       replace B6 := (B6.ext E10).ext E12
                       refine wbsl 1 #[.int .i16 (numV (atL (cutL 58 (atL (cutL 32 l) i)) 0)), .int .i16 (numV (atL (cutL 47 (atL (cutL 58 (atL (cutL 32 l) i)) 1)) 0)), .int .i8 (numV (atL (cutL 47 (atL (cutL 58 (atL (cutL 32 l) i)) 1)) 1))] slt__impl_Scarecrow ?_
                       intro g10 w14 B10 E14 hg_
                       have q_g2_g10 := Nat.ne_of_lt (Nat.lt_of_lt_of_le B2.lt hg_)
                       have q_go_g10 := Nat.ne_of_lt (Nat.lt_of_lt_of_le Bo.lt hg_)
                       have q_g4_g10 := Nat.ne_of_lt (Nat.lt_of_lt_of_le B4.lt hg_)
                       have q_g6_g10 := Nat.ne_of_lt (Nat.lt_of_lt_of_le B6.lt hg_)
                       have lo_g10 := Nat.le_trans (H10).size hg_
                       replace B2 := B2.ext E14
                       replace Bo := Bo.ext E14
                       replace B4 := B4.ext E14
                       replace B6 := B6.ext E14
                       have H12 := H10.trans E14
                       have HR1 : (rowL [.i16, .i16, .i8] ((sdF l) i)).toArray = #[.int .i16 (numV (atL (cutL 58 (atL (cutL 32 l) i)) 0)), .int .i16 (numV (atL (cutL 47 (atL (cutL 58 (atL (cutL 32 l) i)) 1)) 0)), .int .i8 (numV (atL (cutL 47 (atL (cutL 58 (atL (cutL 32 l) i)) 1)) 1))] := sdF_row
                       refine wappr #[.int .i16 (numV (atL (cutL 58 (atL (cutL 32 l) i)) 0)), .int .i16 (numV (atL (cutL 47 (atL (cutL 58 (atL (cutL 32 l) i)) 1)) 0)), .int .i8 (numV (atL (cutL 47 (atL (cutL 58 (atL (cutL 32 l) i)) 1)) 1))] slt__impl_Scarecrow Bo So B10 HR1 ?_
                       intro g11 cap4 cs4 w15 B11 S10 X1 or1
                       have n_g2_g11 := ne_app B2 n_g2_go or1
                       have n_g4_g11 := ne_app B4 (Ne.symm q_go_g4) or1
                       have n_g6_g11 := ne_app B6 (Ne.symm q_go_g6) or1
                       have n_g10_g11 := ne_app B10 (Ne.symm q_go_g10) or1
                       have lo_g11 := Wr.lo or1 lo_go (H12).size
                       refine wv (.slice (some ⟨g11, 0, none⟩) (i + 1) cap4) ?_
                       refine wpList_nil (block_normal (then_normal ?_))
                       refine wp_region_lit ?_
                       refine wv (.int .i64 (i : Int)) ?_
                       refine wi64 ((i : Int) + 1) ?_
                       refine wv (.int .i64 ((i : Int) + 1)) ?_
                       refine wpList_nil (then_normal ?_)
                       replace B2 := X1.blk B2 n_g2_go
                       have H13 := X1.ext w lo_go H12
                       refine ⟨_, ?_, i + 1, g11, cap4, cs4, rfl, ?_, ?_, ?_, ?_, ?_, H13, B2, B11, exJ (by kernel_rfl)⟩
                       · omega
                       · omega
                       · exact ok_step hok (by exact sdW_t (by assumption) (by assumption) (by assumption) (by assumption) (by assumption) (by omega) (by assumption) (by omega))
                       · exact S10
                       · exact lo_g11
                       · exact n_g2_g11
                   · skip
                     refine wbl 88 true (bnF h10) ?_
                     have h10d := inF h10
                     refine wsk ?_
                     refine wsk ?_
                     refine wv (.bool true) ?_
                     refine wpList_nil (then_normal ?_)
                     refine wp_frame (a' := ⟨#[.string (bs l), undef, J1 2, J1 3, .slice (some ⟨go, 0, none⟩) i capo, .slice (some ⟨g2, 0, none⟩) ((cutL 32 l).length) cap1, .int .i64 (i : Int), .slice (some ⟨g4, 0, none⟩) ((cutL 58 (atL (cutL 32 l) i)).length) cap2, .slice (some ⟨g6, 0, none⟩) ((cutL 47 (atL (cutL 58 (atL (cutL 32 l) i)) 1)).length) cap3, .int .i64 (numV (atL (cutL 58 (atL (cutL 32 l) i)) 0)), .bool (numO (atL (cutL 58 (atL (cutL 32 l) i)) 0)), .int .i64 (numV (atL (cutL 47 (atL (cutL 58 (atL (cutL 32 l) i)) 1)) 0)), .bool (numO (atL (cutL 47 (atL (cutL 58 (atL (cutL 32 l) i)) 1)) 0)), .int .i64 (numV (atL (cutL 47 (atL (cutL 58 (atL (cutL 32 l) i)) 1)) 1)), .bool (numO (atL (cutL 47 (atL (cutL 58 (atL (cutL 32 l) i)) 1)) 1)), .slice (some ⟨g1, 0, none⟩) 0 0, .string (bs l), .bool (decide (l = ([] : List UInt8))), undef, .string (bs l), .slice (some ⟨g2, 0, none⟩) ((cutL 32 l).length) cap1, .slice (some ⟨g2, 0, none⟩) ((cutL 32 l).length) cap1, .int .i64 ((cutL 32 l).length : Int), .bool (decide (20 < ((cutL 32 l).length : Int))), undef, .int .i64 (i : Int), .slice (some ⟨g2, 0, none⟩) ((cutL 32 l).length) cap1, .int .i64 ((cutL 32 l).length : Int), .bool (decide ((i : Int) < ((cutL 32 l).length : Int))), J1 29, J1 30, .slice (some ⟨g2, 0, none⟩) ((cutL 32 l).length) cap1, .int .i64 (i : Int), .pointer (some ⟨g2, 0 + i, none⟩), .string (bs (atL (cutL 32 l) i)), .slice (some ⟨g4, 0, none⟩) ((cutL 58 (atL (cutL 32 l) i)).length) cap2, .slice (some ⟨g4, 0, none⟩) ((cutL 58 (atL (cutL 32 l) i)).length) cap2, .int .i64 ((cutL 58 (atL (cutL 32 l) i)).length : Int), .bool (((cutL 58 (atL (cutL 32 l) i)).length : Int) != 2), J1 39, .slice (some ⟨g4, 0, none⟩) ((cutL 58 (atL (cutL 32 l) i)).length) cap2, .pointer (some ⟨g4, 0 + 1, none⟩), .string (bs (atL (cutL 58 (atL (cutL 32 l) i)) 1)), .slice (some ⟨g6, 0, none⟩) ((cutL 47 (atL (cutL 58 (atL (cutL 32 l) i)) 1)).length) cap3, .slice (some ⟨g6, 0, none⟩) ((cutL 47 (atL (cutL 58 (atL (cutL 32 l) i)) 1)).length) cap3, .int .i64 ((cutL 47 (atL (cutL 58 (atL (cutL 32 l) i)) 1)).length : Int), .bool (((cutL 47 (atL (cutL 58 (atL (cutL 32 l) i)) 1)).length : Int) != 2), J1 47, .tuple #[.int .i64 (numV (atL (cutL 58 (atL (cutL 32 l) i)) 0)), .bool (numO (atL (cutL 58 (atL (cutL 32 l) i)) 0))], .slice (some ⟨g4, 0, none⟩) ((cutL 58 (atL (cutL 32 l) i)).length) cap2, .pointer (some ⟨g4, 0 + 0, none⟩), .string (bs (atL (cutL 58 (atL (cutL 32 l) i)) 0)), .tuple #[.int .i64 (numV (atL (cutL 58 (atL (cutL 32 l) i)) 0)), .bool (numO (atL (cutL 58 (atL (cutL 32 l) i)) 0))], .int .i64 (numV (atL (cutL 58 (atL (cutL 32 l) i)) 0)), .bool (numO (atL (cutL 58 (atL (cutL 32 l) i)) 0)), .tuple #[.int .i64 (numV (atL (cutL 47 (atL (cutL 58 (atL (cutL 32 l) i)) 1)) 0)), .bool (numO (atL (cutL 47 (atL (cutL 58 (atL (cutL 32 l) i)) 1)) 0))], .slice (some ⟨g6, 0, none⟩) ((cutL 47 (atL (cutL 58 (atL (cutL 32 l) i)) 1)).length) cap3, .pointer (some ⟨g6, 0 + 0, none⟩), .string (bs (atL (cutL 47 (atL (cutL 58 (atL (cutL 32 l) i)) 1)) 0)), .tuple #[.int .i64 (numV (atL (cutL 47 (atL (cutL 58 (atL (cutL 32 l) i)) 1)) 0)), .bool (numO (atL (cutL 47 (atL (cutL 58 (atL (cutL 32 l) i)) 1)) 0))], .int .i64 (numV (atL (cutL 47 (atL (cutL 58 (atL (cutL 32 l) i)) 1)) 0)), .bool (numO (atL (cutL 47 (atL (cutL 58 (atL (cutL 32 l) i)) 1)) 0)), .tuple #[.int .i64 (numV (atL (cutL 47 (atL (cutL 58 (atL (cutL 32 l) i)) 1)) 1)), .bool (numO (atL (cutL 47 (atL (cutL 58 (atL (cutL 32 l) i)) 1)) 1))], .slice (some ⟨g6, 0, none⟩) ((cutL 47 (atL (cutL 58 (atL (cutL 32 l) i)) 1)).length) cap3, .pointer (some ⟨g6, 0 + 1, none⟩), .string (bs (atL (cutL 47 (atL (cutL 58 (atL (cutL 32 l) i)) 1)) 1)), .tuple #[.int .i64 (numV (atL (cutL 47 (atL (cutL 58 (atL (cutL 32 l) i)) 1)) 1)), .bool (numO (atL (cutL 47 (atL (cutL 58 (atL (cutL 32 l) i)) 1)) 1))], .int .i64 (numV (atL (cutL 47 (atL (cutL 58 (atL (cutL 32 l) i)) 1)) 1)), .bool (numO (atL (cutL 47 (atL (cutL 58 (atL (cutL 32 l) i)) 1)) 1)), .bool (numO (atL (cutL 58 (atL (cutL 32 l) i)) 0)), .bool (!(numO (atL (cutL 58 (atL (cutL 32 l) i)) 0))), .bool false, .bool (numO (atL (cutL 47 (atL (cutL 58 (atL (cutL 32 l) i)) 1)) 0)), .bool (!(numO (atL (cutL 47 (atL (cutL 58 (atL (cutL 32 l) i)) 1)) 0))), .bool (!(numO (atL (cutL 47 (atL (cutL 58 (atL (cutL 32 l) i)) 1)) 0))), .bool false, .bool (numO (atL (cutL 47 (atL (cutL 58 (atL (cutL 32 l) i)) 1)) 1)), .bool (!(numO (atL (cutL 47 (atL (cutL 58 (atL (cutL 32 l) i)) 1)) 1))), .bool (!(numO (atL (cutL 47 (atL (cutL 58 (atL (cutL 32 l) i)) 1)) 1))), .bool false, .int .i64 (numV (atL (cutL 58 (atL (cutL 32 l) i)) 0)), .bool (decide (99 < numV (atL (cutL 58 (atL (cutL 32 l) i)) 0))), .bool (decide (99 < numV (atL (cutL 58 (atL (cutL 32 l) i)) 0))), .bool false, .int .i64 (numV (atL (cutL 47 (atL (cutL 58 (atL (cutL 32 l) i)) 1)) 0)), .bool (inB (numV (atL (cutL 47 (atL (cutL 58 (atL (cutL 32 l) i)) 1)) 0)) 1 1000), .bool (!(inB (numV (atL (cutL 47 (atL (cutL 58 (atL (cutL 32 l) i)) 1)) 0)) 1 1000)), .bool (!(inB (numV (atL (cutL 47 (atL (cutL 58 (atL (cutL 32 l) i)) 1)) 0)) 1 1000)), .bool true, undef, undef, .bool true, J1 92, J1 93, J1 94, J1 95, J1 96, J1 97, J1 98, J1 99, J1 100, J1 101, J1 102, undef], []⟩) (by kernel_rfl) ?_
                     refine wct ?_
                     refine wsr ?_
                     replace B2 := ((((B2.ext E6).ext E8).ext E9).ext E10).ext E12
                     replace Bo := ((((Bo.ext E6).ext E8).ext E9).ext E10).ext E12
                     replace B4 := (((B4.ext E8).ext E9).ext E10).ext E12
                     replace B6 := (B6.ext E10).ext E12
                     refine wbsl 0 #[] slt__impl_Scarecrow ?_
                     intro g12 w16 B12 E15 hg_
                     have q_g2_g12 := Nat.ne_of_lt (Nat.lt_of_lt_of_le B2.lt hg_)
                     have q_go_g12 := Nat.ne_of_lt (Nat.lt_of_lt_of_le Bo.lt hg_)
                     have q_g4_g12 := Nat.ne_of_lt (Nat.lt_of_lt_of_le B4.lt hg_)
                     have q_g6_g12 := Nat.ne_of_lt (Nat.lt_of_lt_of_le B6.lt hg_)
                     have lo_g12 := Nat.le_trans (H10).size hg_
                     have S11 : SlX #[] 0 0 3 [.i16, .i16, .i8] (sdF l) := SlX.nil (e := 0) rfl
                     refine wv (.slice (some ⟨g12, 0, none⟩) 0 0) ?_
                     refine wv (.int .i64 5) ?_
                     refine wpList_nil (then_normal ?_)
                     refine wp_ret ?_
                     refine then_ret (block_ret (then_ret (then_ret (block_ret (then_ret ?_)))))
                     refine ret2 (.slice (some ⟨g12, 0, none⟩) 0 0) (.int .i64 5) rfl ?_ ?_ rfl ?_
                     · exact resT (by kernel_rfl)
                     · exact resT (by kernel_rfl)
                     have H14 := H10.trans E15
                     exact .inr ⟨(by first | exact rdO_long (by assumption) (by omega) | exact rdO_bad (i := i) (by assumption) (by omega) (by first | exact sdW_1 (by assumption) | exact sdW_2 (by assumption) | exact sdW_3 (by assumption) | exact sdW_4 (by assumption) | exact sdW_5 (by assumption) | exact sdW_6 (by assumption) | exact sdW_7 (by assumption) | exact sdW_8 (by assumption))), ⟨_, _, rfl⟩, H14⟩
               · skip
                 refine wbl 79 true (bnF h8) ?_
                 refine wsk ?_
                 refine wsk ?_
                 refine wv (.bool true) ?_
                 refine wv (.bool true) ?_
                 refine wsk ?_
                 refine wsk ?_
                 refine wsk ?_
                 refine wv (.bool true) ?_
                 refine wv (.bool true) ?_
                 refine wsk ?_
                 refine wsk ?_
                 refine wv (.bool true) ?_
                 refine wpList_nil (then_normal ?_)
                 refine wp_frame (a' := ⟨#[.string (bs l), undef, J1 2, J1 3, .slice (some ⟨go, 0, none⟩) i capo, .slice (some ⟨g2, 0, none⟩) ((cutL 32 l).length) cap1, .int .i64 (i : Int), .slice (some ⟨g4, 0, none⟩) ((cutL 58 (atL (cutL 32 l) i)).length) cap2, .slice (some ⟨g6, 0, none⟩) ((cutL 47 (atL (cutL 58 (atL (cutL 32 l) i)) 1)).length) cap3, .int .i64 (numV (atL (cutL 58 (atL (cutL 32 l) i)) 0)), .bool (numO (atL (cutL 58 (atL (cutL 32 l) i)) 0)), .int .i64 (numV (atL (cutL 47 (atL (cutL 58 (atL (cutL 32 l) i)) 1)) 0)), .bool (numO (atL (cutL 47 (atL (cutL 58 (atL (cutL 32 l) i)) 1)) 0)), .int .i64 (numV (atL (cutL 47 (atL (cutL 58 (atL (cutL 32 l) i)) 1)) 1)), .bool (numO (atL (cutL 47 (atL (cutL 58 (atL (cutL 32 l) i)) 1)) 1)), .slice (some ⟨g1, 0, none⟩) 0 0, .string (bs l), .bool (decide (l = ([] : List UInt8))), undef, .string (bs l), .slice (some ⟨g2, 0, none⟩) ((cutL 32 l).length) cap1, .slice (some ⟨g2, 0, none⟩) ((cutL 32 l).length) cap1, .int .i64 ((cutL 32 l).length : Int), .bool (decide (20 < ((cutL 32 l).length : Int))), undef, .int .i64 (i : Int), .slice (some ⟨g2, 0, none⟩) ((cutL 32 l).length) cap1, .int .i64 ((cutL 32 l).length : Int), .bool (decide ((i : Int) < ((cutL 32 l).length : Int))), J1 29, J1 30, .slice (some ⟨g2, 0, none⟩) ((cutL 32 l).length) cap1, .int .i64 (i : Int), .pointer (some ⟨g2, 0 + i, none⟩), .string (bs (atL (cutL 32 l) i)), .slice (some ⟨g4, 0, none⟩) ((cutL 58 (atL (cutL 32 l) i)).length) cap2, .slice (some ⟨g4, 0, none⟩) ((cutL 58 (atL (cutL 32 l) i)).length) cap2, .int .i64 ((cutL 58 (atL (cutL 32 l) i)).length : Int), .bool (((cutL 58 (atL (cutL 32 l) i)).length : Int) != 2), J1 39, .slice (some ⟨g4, 0, none⟩) ((cutL 58 (atL (cutL 32 l) i)).length) cap2, .pointer (some ⟨g4, 0 + 1, none⟩), .string (bs (atL (cutL 58 (atL (cutL 32 l) i)) 1)), .slice (some ⟨g6, 0, none⟩) ((cutL 47 (atL (cutL 58 (atL (cutL 32 l) i)) 1)).length) cap3, .slice (some ⟨g6, 0, none⟩) ((cutL 47 (atL (cutL 58 (atL (cutL 32 l) i)) 1)).length) cap3, .int .i64 ((cutL 47 (atL (cutL 58 (atL (cutL 32 l) i)) 1)).length : Int), .bool (((cutL 47 (atL (cutL 58 (atL (cutL 32 l) i)) 1)).length : Int) != 2), J1 47, .tuple #[.int .i64 (numV (atL (cutL 58 (atL (cutL 32 l) i)) 0)), .bool (numO (atL (cutL 58 (atL (cutL 32 l) i)) 0))], .slice (some ⟨g4, 0, none⟩) ((cutL 58 (atL (cutL 32 l) i)).length) cap2, .pointer (some ⟨g4, 0 + 0, none⟩), .string (bs (atL (cutL 58 (atL (cutL 32 l) i)) 0)), .tuple #[.int .i64 (numV (atL (cutL 58 (atL (cutL 32 l) i)) 0)), .bool (numO (atL (cutL 58 (atL (cutL 32 l) i)) 0))], .int .i64 (numV (atL (cutL 58 (atL (cutL 32 l) i)) 0)), .bool (numO (atL (cutL 58 (atL (cutL 32 l) i)) 0)), .tuple #[.int .i64 (numV (atL (cutL 47 (atL (cutL 58 (atL (cutL 32 l) i)) 1)) 0)), .bool (numO (atL (cutL 47 (atL (cutL 58 (atL (cutL 32 l) i)) 1)) 0))], .slice (some ⟨g6, 0, none⟩) ((cutL 47 (atL (cutL 58 (atL (cutL 32 l) i)) 1)).length) cap3, .pointer (some ⟨g6, 0 + 0, none⟩), .string (bs (atL (cutL 47 (atL (cutL 58 (atL (cutL 32 l) i)) 1)) 0)), .tuple #[.int .i64 (numV (atL (cutL 47 (atL (cutL 58 (atL (cutL 32 l) i)) 1)) 0)), .bool (numO (atL (cutL 47 (atL (cutL 58 (atL (cutL 32 l) i)) 1)) 0))], .int .i64 (numV (atL (cutL 47 (atL (cutL 58 (atL (cutL 32 l) i)) 1)) 0)), .bool (numO (atL (cutL 47 (atL (cutL 58 (atL (cutL 32 l) i)) 1)) 0)), .tuple #[.int .i64 (numV (atL (cutL 47 (atL (cutL 58 (atL (cutL 32 l) i)) 1)) 1)), .bool (numO (atL (cutL 47 (atL (cutL 58 (atL (cutL 32 l) i)) 1)) 1))], .slice (some ⟨g6, 0, none⟩) ((cutL 47 (atL (cutL 58 (atL (cutL 32 l) i)) 1)).length) cap3, .pointer (some ⟨g6, 0 + 1, none⟩), .string (bs (atL (cutL 47 (atL (cutL 58 (atL (cutL 32 l) i)) 1)) 1)), .tuple #[.int .i64 (numV (atL (cutL 47 (atL (cutL 58 (atL (cutL 32 l) i)) 1)) 1)), .bool (numO (atL (cutL 47 (atL (cutL 58 (atL (cutL 32 l) i)) 1)) 1))], .int .i64 (numV (atL (cutL 47 (atL (cutL 58 (atL (cutL 32 l) i)) 1)) 1)), .bool (numO (atL (cutL 47 (atL (cutL 58 (atL (cutL 32 l) i)) 1)) 1)), .bool (numO (atL (cutL 58 (atL (cutL 32 l) i)) 0)), .bool (!(numO (atL (cutL 58 (atL (cutL 32 l) i)) 0))), .bool false, .bool (numO (atL (cutL 47 (atL (cutL 58 (atL (cutL 32 l) i)) 1)) 0)), .bool (!(numO (atL (cutL 47 (atL (cutL 58 (atL (cutL 32 l) i)) 1)) 0))), .bool (!(numO (atL (cutL 47 (atL (cutL 58 (atL (cutL 32 l) i)) 1)) 0))), .bool false, .bool (numO (atL (cutL 47 (atL (cutL 58 (atL (cutL 32 l) i)) 1)) 1)), .bool (!(numO (atL (cutL 47 (atL (cutL 58 (atL (cutL 32 l) i)) 1)) 1))), .bool (!(numO (atL (cutL 47 (atL (cutL 58 (atL (cutL 32 l) i)) 1)) 1))), .bool true, undef, undef, .bool true, .bool true, undef, undef, undef, .bool true, .bool true, undef, undef, .bool true, J1 92, J1 93, J1 94, J1 95, J1 96, J1 97, J1 98, J1 99, J1 100, J1 101, J1 102, undef], []⟩) (by kernel_rfl) ?_
                 refine wct ?_
                 refine wsr ?_
                 replace B2 := (((B2.ext E6).ext E8).ext E9).ext E10
                 replace Bo := (((Bo.ext E6).ext E8).ext E9).ext E10
                 replace B4 := ((B4.ext E8).ext E9).ext E10
                 replace B6 := B6.ext E10
                 refine wbsl 0 #[] slt__impl_Scarecrow ?_
                 intro g13 w17 B13 E16 hg_
                 have q_g2_g13 := Nat.ne_of_lt (Nat.lt_of_lt_of_le B2.lt hg_)
                 have q_go_g13 := Nat.ne_of_lt (Nat.lt_of_lt_of_le Bo.lt hg_)
                 have q_g4_g13 := Nat.ne_of_lt (Nat.lt_of_lt_of_le B4.lt hg_)
                 have q_g6_g13 := Nat.ne_of_lt (Nat.lt_of_lt_of_le B6.lt hg_)
                 have lo_g13 := Nat.le_trans (H8).size hg_
                 have S12 : SlX #[] 0 0 3 [.i16, .i16, .i8] (sdF l) := SlX.nil (e := 0) rfl
                 refine wv (.slice (some ⟨g13, 0, none⟩) 0 0) ?_
                 refine wv (.int .i64 5) ?_
                 refine wpList_nil (then_normal ?_)
                 refine wp_ret ?_
                 refine then_ret (block_ret (then_ret (then_ret (block_ret (then_ret ?_)))))
                 refine ret2 (.slice (some ⟨g13, 0, none⟩) 0 0) (.int .i64 5) rfl ?_ ?_ rfl ?_
                 · exact resT (by kernel_rfl)
                 · exact resT (by kernel_rfl)
                 have H15 := H8.trans E16
                 exact .inr ⟨(by first | exact rdO_long (by assumption) (by omega) | exact rdO_bad (i := i) (by assumption) (by omega) (by first | exact sdW_1 (by assumption) | exact sdW_2 (by assumption) | exact sdW_3 (by assumption) | exact sdW_4 (by assumption) | exact sdW_5 (by assumption) | exact sdW_6 (by assumption) | exact sdW_7 (by assumption) | exact sdW_8 (by assumption))), ⟨_, _, rfl⟩, H15⟩
             · skip
               refine wbl 75 true (bnF h7) ?_
               refine wsk ?_
               refine wsk ?_
               refine wv (.bool true) ?_
               refine wv (.bool true) ?_
               refine wsk ?_
               refine wsk ?_
               refine wv (.bool true) ?_
               refine wv (.bool true) ?_
               refine wsk ?_
               refine wsk ?_
               refine wsk ?_
               refine wv (.bool true) ?_
               refine wv (.bool true) ?_
               refine wsk ?_
               refine wsk ?_
               refine wv (.bool true) ?_
               refine wpList_nil (then_normal ?_)
               refine wp_frame (a' := ⟨#[.string (bs l), undef, J1 2, J1 3, .slice (some ⟨go, 0, none⟩) i capo, .slice (some ⟨g2, 0, none⟩) ((cutL 32 l).length) cap1, .int .i64 (i : Int), .slice (some ⟨g4, 0, none⟩) ((cutL 58 (atL (cutL 32 l) i)).length) cap2, .slice (some ⟨g6, 0, none⟩) ((cutL 47 (atL (cutL 58 (atL (cutL 32 l) i)) 1)).length) cap3, .int .i64 (numV (atL (cutL 58 (atL (cutL 32 l) i)) 0)), .bool (numO (atL (cutL 58 (atL (cutL 32 l) i)) 0)), .int .i64 (numV (atL (cutL 47 (atL (cutL 58 (atL (cutL 32 l) i)) 1)) 0)), .bool (numO (atL (cutL 47 (atL (cutL 58 (atL (cutL 32 l) i)) 1)) 0)), .int .i64 (numV (atL (cutL 47 (atL (cutL 58 (atL (cutL 32 l) i)) 1)) 1)), .bool (numO (atL (cutL 47 (atL (cutL 58 (atL (cutL 32 l) i)) 1)) 1)), .slice (some ⟨g1, 0, none⟩) 0 0, .string (bs l), .bool (decide (l = ([] : List UInt8))), undef, .string (bs l), .slice (some ⟨g2, 0, none⟩) ((cutL 32 l).length) cap1, .slice (some ⟨g2, 0, none⟩) ((cutL 32 l).length) cap1, .int .i64 ((cutL 32 l).length : Int), .bool (decide (20 < ((cutL 32 l).length : Int))), undef, .int .i64 (i : Int), .slice (some ⟨g2, 0, none⟩) ((cutL 32 l).length) cap1, .int .i64 ((cutL 32 l).length : Int), .bool (decide ((i : Int) < ((cutL 32 l).length : Int))), J1 29, J1 30, .slice (some ⟨g2, 0, none⟩) ((cutL 32 l).length) cap1, .int .i64 (i : Int), .pointer (some ⟨g2, 0 + i, none⟩), .string (bs (atL (cutL 32 l) i)), .slice (some ⟨g4, 0, none⟩) ((cutL 58 (atL (cutL 32 l) i)).length) cap2, .slice (some ⟨g4, 0, none⟩) ((cutL 58 (atL (cutL 32 l) i)).length) cap2, .int .i64 ((cutL 58 (atL (cutL 32 l) i)).length : Int), .bool (((cutL 58 (atL (cutL 32 l) i)).length : Int) != 2), J1 39, .slice (some ⟨g4, 0, none⟩) ((cutL 58 (atL (cutL 32 l) i)).length) cap2, .pointer (some ⟨g4, 0 + 1, none⟩), .string (bs (atL (cutL 58 (atL (cutL 32 l) i)) 1)), .slice (some ⟨g6, 0, none⟩) ((cutL 47 (atL (cutL 58 (atL (cutL 32 l) i)) 1)).length) cap3, .slice (some ⟨g6, 0, none⟩) ((cutL 47 (atL (cutL 58 (atL (cutL 32 l) i)) 1)).length) cap3, .int .i64 ((cutL 47 (atL (cutL 58 (atL (cutL 32 l) i)) 1)).length : Int), .bool (((cutL 47 (atL (cutL 58 (atL (cutL 32 l) i)) 1)).length : Int) != 2), J1 47, .tuple #[.int .i64 (numV (atL (cutL 58 (atL (cutL 32 l) i)) 0)), .bool (numO (atL (cutL 58 (atL (cutL 32 l) i)) 0))], .slice (some ⟨g4, 0, none⟩) ((cutL 58 (atL (cutL 32 l) i)).length) cap2, .pointer (some ⟨g4, 0 + 0, none⟩), .string (bs (atL (cutL 58 (atL (cutL 32 l) i)) 0)), .tuple #[.int .i64 (numV (atL (cutL 58 (atL (cutL 32 l) i)) 0)), .bool (numO (atL (cutL 58 (atL (cutL 32 l) i)) 0))], .int .i64 (numV (atL (cutL 58 (atL (cutL 32 l) i)) 0)), .bool (numO (atL (cutL 58 (atL (cutL 32 l) i)) 0)), .tuple #[.int .i64 (numV (atL (cutL 47 (atL (cutL 58 (atL (cutL 32 l) i)) 1)) 0)), .bool (numO (atL (cutL 47 (atL (cutL 58 (atL (cutL 32 l) i)) 1)) 0))], .slice (some ⟨g6, 0, none⟩) ((cutL 47 (atL (cutL 58 (atL (cutL 32 l) i)) 1)).length) cap3, .pointer (some ⟨g6, 0 + 0, none⟩), .string (bs (atL (cutL 47 (atL (cutL 58 (atL (cutL 32 l) i)) 1)) 0)), .tuple #[.int .i64 (numV (atL (cutL 47 (atL (cutL 58 (atL (cutL 32 l) i)) 1)) 0)), .bool (numO (atL (cutL 47 (atL (cutL 58 (atL (cutL 32 l) i)) 1)) 0))], .int .i64 (numV (atL (cutL 47 (atL (cutL 58 (atL (cutL 32 l) i)) 1)) 0)), .bool (numO (atL (cutL 47 (atL (cutL 58 (atL (cutL 32 l) i)) 1)) 0)), .tuple #[.int .i64 (numV (atL (cutL 47 (atL (cutL 58 (atL (cutL 32 l) i)) 1)) 1)), .bool (numO (atL (cutL 47 (atL (cutL 58 (atL (cutL 32 l) i)) 1)) 1))], .slice (some ⟨g6, 0, none⟩) ((cutL 47 (atL (cutL 58 (atL (cutL 32 l) i)) 1)).length) cap3, .pointer (some ⟨g6, 0 + 1, none⟩), .string (bs (atL (cutL 47 (atL (cutL 58 (atL (cutL 32 l) i)) 1)) 1)), .tuple #[.int .i64 (numV (atL (cutL 47 (atL (cutL 58 (atL (cutL 32 l) i)) 1)) 1)), .bool (numO (atL (cutL 47 (atL (cutL 58 (atL (cutL 32 l) i)) 1)) 1))], .int .i64 (numV (atL (cutL 47 (atL (cutL 58 (atL (cutL 32 l) i)) 1)) 1)), .bool (numO (atL (cutL 47 (atL (cutL 58 (atL (cutL 32 l) i)) 1)) 1)), .bool (numO (atL (cutL 58 (atL (cutL 32 l) i)) 0)), .bool (!(numO (atL (cutL 58 (atL (cutL 32 l) i)) 0))), .bool false, .bool (numO (atL (cutL 47 (atL (cutL 58 (atL (cutL 32 l) i)) 1)) 0)), .bool (!(numO (atL (cutL 47 (atL (cutL 58 (atL (cutL 32 l) i)) 1)) 0))), .bool (!(numO (atL (cutL 47 (atL (cutL 58 (atL (cutL 32 l) i)) 1)) 0))), .bool true, undef, undef, .bool true, .bool true, undef, undef, .bool true, .bool true, undef, undef, undef, .bool true, .bool true, undef, undef, .bool true, J1 92, J1 93, J1 94, J1 95, J1 96, J1 97, J1 98, J1 99, J1 100, J1 101, J1 102, undef], []⟩) (by kernel_rfl) ?_
               refine wct ?_
               refine wsr ?_
               replace B2 := (((B2.ext E6).ext E8).ext E9).ext E10
               replace Bo := (((Bo.ext E6).ext E8).ext E9).ext E10
               replace B4 := ((B4.ext E8).ext E9).ext E10
               replace B6 := B6.ext E10
               refine wbsl 0 #[] slt__impl_Scarecrow ?_
               intro g14 w18 B14 E17 hg_
               have q_g2_g14 := Nat.ne_of_lt (Nat.lt_of_lt_of_le B2.lt hg_)
               have q_go_g14 := Nat.ne_of_lt (Nat.lt_of_lt_of_le Bo.lt hg_)
               have q_g4_g14 := Nat.ne_of_lt (Nat.lt_of_lt_of_le B4.lt hg_)
               have q_g6_g14 := Nat.ne_of_lt (Nat.lt_of_lt_of_le B6.lt hg_)
               have lo_g14 := Nat.le_trans (H8).size hg_
               have S13 : SlX #[] 0 0 3 [.i16, .i16, .i8] (sdF l) := SlX.nil (e := 0) rfl
               refine wv (.slice (some ⟨g14, 0, none⟩) 0 0) ?_
               refine wv (.int .i64 5) ?_
               refine wpList_nil (then_normal ?_)
               refine wp_ret ?_
               refine then_ret (block_ret (then_ret (then_ret (block_ret (then_ret ?_)))))
               refine ret2 (.slice (some ⟨g14, 0, none⟩) 0 0) (.int .i64 5) rfl ?_ ?_ rfl ?_
               · exact resT (by kernel_rfl)
               · exact resT (by kernel_rfl)
               have H16 := H8.trans E17
               exact .inr ⟨(by first | exact rdO_long (by assumption) (by omega) | exact rdO_bad (i := i) (by assumption) (by omega) (by first | exact sdW_1 (by assumption) | exact sdW_2 (by assumption) | exact sdW_3 (by assumption) | exact sdW_4 (by assumption) | exact sdW_5 (by assumption) | exact sdW_6 (by assumption) | exact sdW_7 (by assumption) | exact sdW_8 (by assumption))), ⟨_, _, rfl⟩, H16⟩
           · skip
             refine wbl 71 true (bnF h6) ?_
             refine wsk ?_
             refine wsk ?_
             refine wv (.bool true) ?_
             refine wv (.bool true) ?_
             refine wsk ?_
             refine wsk ?_
             refine wv (.bool true) ?_
             refine wv (.bool true) ?_
             refine wsk ?_
             refine wsk ?_
             refine wv (.bool true) ?_
             refine wv (.bool true) ?_
             refine wsk ?_
             refine wsk ?_
             refine wsk ?_
             refine wv (.bool true) ?_
             refine wv (.bool true) ?_
             refine wsk ?_
             refine wsk ?_
             refine wv (.bool true) ?_
             refine wpList_nil (then_normal ?_)
             refine wp_frame (a' := ⟨#[.string (bs l), undef, J1 2, J1 3, .slice (some ⟨go, 0, none⟩) i capo, .slice (some ⟨g2, 0, none⟩) ((cutL 32 l).length) cap1, .int .i64 (i : Int), .slice (some ⟨g4, 0, none⟩) ((cutL 58 (atL (cutL 32 l) i)).length) cap2, .slice (some ⟨g6, 0, none⟩) ((cutL 47 (atL (cutL 58 (atL (cutL 32 l) i)) 1)).length) cap3, .int .i64 (numV (atL (cutL 58 (atL (cutL 32 l) i)) 0)), .bool (numO (atL (cutL 58 (atL (cutL 32 l) i)) 0)), .int .i64 (numV (atL (cutL 47 (atL (cutL 58 (atL (cutL 32 l) i)) 1)) 0)), .bool (numO (atL (cutL 47 (atL (cutL 58 (atL (cutL 32 l) i)) 1)) 0)), .int .i64 (numV (atL (cutL 47 (atL (cutL 58 (atL (cutL 32 l) i)) 1)) 1)), .bool (numO (atL (cutL 47 (atL (cutL 58 (atL (cutL 32 l) i)) 1)) 1)), .slice (some ⟨g1, 0, none⟩) 0 0, .string (bs l), .bool (decide (l = ([] : List UInt8))), undef, .string (bs l), .slice (some ⟨g2, 0, none⟩) ((cutL 32 l).length) cap1, .slice (some ⟨g2, 0, none⟩) ((cutL 32 l).length) cap1, .int .i64 ((cutL 32 l).length : Int), .bool (decide (20 < ((cutL 32 l).length : Int))), undef, .int .i64 (i : Int), .slice (some ⟨g2, 0, none⟩) ((cutL 32 l).length) cap1, .int .i64 ((cutL 32 l).length : Int), .bool (decide ((i : Int) < ((cutL 32 l).length : Int))), J1 29, J1 30, .slice (some ⟨g2, 0, none⟩) ((cutL 32 l).length) cap1, .int .i64 (i : Int), .pointer (some ⟨g2, 0 + i, none⟩), .string (bs (atL (cutL 32 l) i)), .slice (some ⟨g4, 0, none⟩) ((cutL 58 (atL (cutL 32 l) i)).length) cap2, .slice (some ⟨g4, 0, none⟩) ((cutL 58 (atL (cutL 32 l) i)).length) cap2, .int .i64 ((cutL 58 (atL (cutL 32 l) i)).length : Int), .bool (((cutL 58 (atL (cutL 32 l) i)).length : Int) != 2), J1 39, .slice (some ⟨g4, 0, none⟩) ((cutL 58 (atL (cutL 32 l) i)).length) cap2, .pointer (some ⟨g4, 0 + 1, none⟩), .string (bs (atL (cutL 58 (atL (cutL 32 l) i)) 1)), .slice (some ⟨g6, 0, none⟩) ((cutL 47 (atL (cutL 58 (atL (cutL 32 l) i)) 1)).length) cap3, .slice (some ⟨g6, 0, none⟩) ((cutL 47 (atL (cutL 58 (atL (cutL 32 l) i)) 1)).length) cap3, .int .i64 ((cutL 47 (atL (cutL 58 (atL (cutL 32 l) i)) 1)).length : Int), .bool (((cutL 47 (atL (cutL 58 (atL (cutL 32 l) i)) 1)).length : Int) != 2), J1 47, .tuple #[.int .i64 (numV (atL (cutL 58 (atL (cutL 32 l) i)) 0)), .bool (numO (atL (cutL 58 (atL (cutL 32 l) i)) 0))], .slice (some ⟨g4, 0, none⟩) ((cutL 58 (atL (cutL 32 l) i)).length) cap2, .pointer (some ⟨g4, 0 + 0, none⟩), .string (bs (atL (cutL 58 (atL (cutL 32 l) i)) 0)), .tuple #[.int .i64 (numV (atL (cutL 58 (atL (cutL 32 l) i)) 0)), .bool (numO (atL (cutL 58 (atL (cutL 32 l) i)) 0))], .int .i64 (numV (atL (cutL 58 (atL (cutL 32 l) i)) 0)), .bool (numO (atL (cutL 58 (atL (cutL 32 l) i)) 0)), .tuple #[.int .i64 (numV (atL (cutL 47 (atL (cutL 58 (atL (cutL 32 l) i)) 1)) 0)), .bool (numO (atL (cutL 47 (atL (cutL 58 (atL (cutL 32 l) i)) 1)) 0))], .slice (some ⟨g6, 0, none⟩) ((cutL 47 (atL (cutL 58 (atL (cutL 32 l) i)) 1)).length) cap3, .pointer (some ⟨g6, 0 + 0, none⟩), .string (bs (atL (cutL 47 (atL (cutL 58 (atL (cutL 32 l) i)) 1)) 0)), .tuple #[.int .i64 (numV (atL (cutL 47 (atL (cutL 58 (atL (cutL 32 l) i)) 1)) 0)), .bool (numO (atL (cutL 47 (atL (cutL 58 (atL (cutL 32 l) i)) 1)) 0))], .int .i64 (numV (atL (cutL 47 (atL (cutL 58 (atL (cutL 32 l) i)) 1)) 0)), .bool (numO (atL (cutL 47 (atL (cutL 58 (atL (cutL 32 l) i)) 1)) 0)), .tuple #[.int .i64 (numV (atL (cutL 47 (atL (cutL 58 (atL (cutL 32 l) i)) 1)) 1)), .bool (numO (atL (cutL 47 (atL (cutL 58 (atL (cutL 32 l) i)) 1)) 1))], .slice (some ⟨g6, 0, none⟩) ((cutL 47 (atL (cutL 58 (atL (cutL 32 l) i)) 1)).length) cap3, .pointer (some ⟨g6, 0 + 1, none⟩), .string (bs (atL (cutL 47 (atL (cutL 58 (atL (cutL 32 l) i)) 1)) 1)), .tuple #[.int .i64 (numV (atL (cutL 47 (atL (cutL 58 (atL (cutL 32 l) i)) 1)) 1)), .bool (numO (atL (cutL 47 (atL (cutL 58 (atL (cutL 32 l) i)) 1)) 1))], .int .i64 (numV (atL (cutL 47 (atL (cutL 58 (atL (cutL 32 l) i)) 1)) 1)), .bool (numO (atL (cutL 47 (atL (cutL 58 (atL (cutL 32 l) i)) 1)) 1)), .bool (numO (atL (cutL 58 (atL (cutL 32 l) i)) 0)), .bool (!(numO (atL (cutL 58 (atL (cutL 32 l) i)) 0))), .bool true, undef, undef, .bool true, .bool true, undef, undef, .bool true, .bool true, undef, undef, .bool true, .bool true, undef, undef, undef, .bool true, .bool true, undef, undef, .bool true, J1 92, J1 93, J1 94, J1 95, J1 96, J1 97, J1 98, J1 99, J1 100, J1 101, J1 102, undef], []⟩) (by kernel_rfl) ?_
             refine wct ?_
             refine wsr ?_
             replace B2 := (((B2.ext E6).ext E8).ext E9).ext E10
             replace Bo := (((Bo.ext E6).ext E8).ext E9).ext E10
             replace B4 := ((B4.ext E8).ext E9).ext E10
             replace B6 := B6.ext E10
             refine wbsl 0 #[] slt__impl_Scarecrow ?_
             intro g15 w19 B15 E18 hg_
             have q_g2_g15 := Nat.ne_of_lt (Nat.lt_of_lt_of_le B2.lt hg_)
             have q_go_g15 := Nat.ne_of_lt (Nat.lt_of_lt_of_le Bo.lt hg_)
             have q_g4_g15 := Nat.ne_of_lt (Nat.lt_of_lt_of_le B4.lt hg_)
             have q_g6_g15 := Nat.ne_of_lt (Nat.lt_of_lt_of_le B6.lt hg_)
             have lo_g15 := Nat.le_trans (H8).size hg_
             have S14 : SlX #[] 0 0 3 [.i16, .i16, .i8] (sdF l) := SlX.nil (e := 0) rfl
             refine wv (.slice (some ⟨g15, 0, none⟩) 0 0) ?_
             refine wv (.int .i64 5) ?_
             refine wpList_nil (then_normal ?_)
             refine wp_ret ?_
             refine then_ret (block_ret (then_ret (then_ret (block_ret (then_ret ?_)))))
             refine ret2 (.slice (some ⟨g15, 0, none⟩) 0 0) (.int .i64 5) rfl ?_ ?_ rfl ?_
             · exact resT (by kernel_rfl)
             · exact resT (by kernel_rfl)
             have H17 := H8.trans E18
             exact .inr ⟨(by first | exact rdO_long (by assumption) (by omega) | exact rdO_bad (i := i) (by assumption) (by omega) (by first | exact sdW_1 (by assumption) | exact sdW_2 (by assumption) | exact sdW_3 (by assumption) | exact sdW_4 (by assumption) | exact sdW_5 (by assumption) | exact sdW_6 (by assumption) | exact sdW_7 (by assumption) | exact sdW_8 (by assumption))), ⟨_, _, rfl⟩, H17⟩
     · skip
       have h3d := dF h3
       refine wp_exit ?_
       refine then_exit ?_
       refine then_exit ?_
       refine block_exit ?_
       refine then_normal ?_
       refine wsr ?_
       refine wv (.slice (some ⟨go, 0, none⟩) i capo) ?_
       refine wv (.slice (some ⟨go, 0, none⟩) i capo) ?_
       refine wv (.int .i64 0) ?_
       refine wpList_nil (then_normal ?_)
       refine wp_ret ?_
       refine ret2 (.slice (some ⟨go, 0, none⟩) i capo) (.int .i64 0) rfl ?_ ?_ rfl ?_
       · exact resT (by kernel_rfl)
       · exact resT (by kernel_rfl)
       have ei_ : i = (cutL 32 l).length := by omega
       rw [rdN_ne (by assumption), ← ei_]
       exact .inl ⟨rdO_t (by assumption) (by omega) (fun j hj => hok j (by omega)), go, _, _, rfl, Bo, So, HL1, lo_go⟩


--# sReadScares_any
-- 11
theorem sReadScares_any (l : List UInt8) (hl : l.length ≤ 1048576) (w : World) : Calls Tryd.prog 11 #[.string (bs l)] w (RdY w 63 (rdN l) 3 [.i16, .i16, .i8] (scF l) (rdO 20 scW l)) :=
  (sReadScares_raw l hl w).mono fun _ _ h => h.of (sd_all l) sd_rows

--# eqScarecrow_same
theorem eqScarecrow_same (x0 x1 x2 : Int) (w : World) :
 Calls Tryd.prog 41 #[.agg #[.int .i16 x0, .int .i16 x1, .int .i8 x2], .agg #[.int .i16 x0, .int .i16 x1, .int .i8 x2]] w fun e w' => e = .returned (.bool true) ∧ Ext w w' := by
 refine calls_of_wp Tryd.func41 rfl ?_
 refine wp_frame (a' := ⟨#[.agg #[.int .i16 x0, .int .i16 x1, .int .i8 x2], .agg #[.int .i16 x0, .int .i16 x1, .int .i8 x2], undef, undef, undef, undef, undef, undef, undef, undef, undef, undef, undef, undef, undef, undef, undef, undef, undef, undef], []⟩) (by kernel_rfl) ?_
 refine wsr ?_
 refine wbox #[.int .i16 x0, .int .i16 x1, .int .i8 x2] ?_
 intro g1 w1 B1 E1 _
 refine wbox #[.int .i16 x0, .int .i16 x1, .int .i8 x2] ?_
 intro g2 w2 B2 E2 _
 refine wv (.bool false) ?_
 refine wpList_nil (then_normal ?_)
 refine wp_seq ?_
 refine wsr ?_
 refine wv (.pointer (some ⟨g1, 0, none⟩)) ?_
 replace B1 := B1.ext E2
 refine wld (v := .int .i16 x0) g1 (0) scal_int16 (B1.get (rfl)) ?_
 refine wv (.pointer (some ⟨g2, 0, none⟩)) ?_
 refine wld (v := .int .i16 x0) g2 (0) scal_int16 (B2.get (rfl)) ?_
 refine wvv (.bool (x0 != x0)) (.bool false) (by simp) ?_
 refine wpList_nil (then_normal ?_)
 refine wcf ?_
 refine wp_skip ?_
 refine then_normal ?_
 refine wp_seq ?_
 refine wsr ?_
 refine wv (.pointer (some ⟨g1, 1, none⟩)) ?_
 refine wld (v := .int .i16 x1) g1 (1) scal_int16 (B1.get (rfl)) ?_
 refine wv (.pointer (some ⟨g2, 1, none⟩)) ?_
 refine wld (v := .int .i16 x1) g2 (1) scal_int16 (B2.get (rfl)) ?_
 refine wvv (.bool (x1 != x1)) (.bool false) (by simp) ?_
 refine wpList_nil (then_normal ?_)
 refine wcf ?_
 refine wp_skip ?_
 refine then_normal ?_
 refine wp_seq ?_
 refine wsr ?_
 refine wv (.pointer (some ⟨g1, 2, none⟩)) ?_
 refine wld (v := .int .i8 x2) g1 (2) scal_int8 (B1.get (rfl)) ?_
 refine wv (.pointer (some ⟨g2, 2, none⟩)) ?_
 refine wld (v := .int .i8 x2) g2 (2) scal_int8 (B2.get (rfl)) ?_
 refine wvv (.bool (x2 != x2)) (.bool false) (by simp) ?_
 refine wpList_nil (then_normal ?_)
 refine wcf ?_
 refine wp_skip ?_
 refine then_normal ?_
 refine wsr ?_
 refine wv (.bool true) ?_
 refine wpList_nil (then_normal ?_)
 refine wp_ret ?_
 have H1 := ((Ext.refl w).trans E1).trans E2
 refine ret1 (.bool true) rfl ?_ rfl ?_
 · exact resT (by kernel_rfl)
 exact ⟨rfl, H1⟩


--# eqScarecrowS_same
theorem eqScarecrowS_same (n : Nat) (f : Nat → Nat → Int) (b cap : Nat) (cs : Array Value) (hS : SlX cs n cap 3 [.i16, .i16, .i8] f) (b2 cap2 : Nat) (cs2 : Array Value) (hS2 : SlX cs2 n cap2 3 [.i16, .i16, .i8] f) (hn : n ≤ 1048576) (w : World) (hb : Blk w b 63 cs) (hb2 : Blk w b2 63 cs2) :
 Calls Tryd.prog 13 #[.slice (some ⟨b, 0, none⟩) n cap, .slice (some ⟨b2, 0, none⟩) n cap2] w fun e w' => e = .returned (.bool true) ∧ Ext w w' := by
 refine calls_of_wp Tryd.func13 rfl ?_
 refine wp_frame (a' := ⟨#[.slice (some ⟨b, 0, none⟩) n cap, .slice (some ⟨b2, 0, none⟩) n cap2, undef, undef, undef, undef, undef, undef, undef, undef, undef, undef, undef, undef, undef, undef, undef, undef, undef, undef, undef, undef, undef, undef, undef, undef, undef], []⟩) (by kernel_rfl) ?_
 refine wsr ?_
 refine wv (.bool false) ?_
 refine wpList_nil (then_normal ?_)
 refine wp_seq ?_
 refine wsr ?_
 refine wv (.slice (some ⟨b, 0, none⟩) n cap) ?_
 refine wv (.int .i64 (n : Int)) ?_
 refine wv (.slice (some ⟨b2, 0, none⟩) n cap2) ?_
 refine wv (.int .i64 (n : Int)) ?_
 refine wvv (.bool ((n : Int) != (n : Int))) (.bool false) (by simp) ?_
 refine wpList_nil (then_normal ?_)
 refine wcf ?_
 refine wp_skip ?_
 refine then_normal ?_
 refine wp_seq ?_
 refine wsr ?_
 refine wv (.int .i64 0) ?_
 refine wpList_nil (then_normal ?_)
 refine wp_block ?_
 refine wp_loop_k (fun m1 a wl1 => ∃ (i : Nat), m1 = n - i ∧ i ≤ n ∧ Ext w wl1 ∧ Blk wl1 b 63 cs ∧ Blk wl1 b2 63 cs2 ∧ (∃ J1 : Nat → Value, a = ⟨#[.slice (some ⟨b, 0, none⟩) n cap, .slice (some ⟨b2, 0, none⟩) n cap2, undef, undef, J1 4, .int .i64 (i : Int), .slice (some ⟨b, 0, none⟩) n cap, .int .i64 (n : Int), .slice (some ⟨b2, 0, none⟩) n cap2, .int .i64 (n : Int), .bool false, J1 11, J1 12, J1 13, J1 14, J1 15, J1 16, J1 17, J1 18, J1 19, J1 20, J1 21, J1 22, J1 23, J1 24, J1 25, J1 26], []⟩)) (n) ?_ ?_
 · refine ⟨0, rfl, ?_, (Ext.refl w), hb, hb2, exJ (by kernel_rfl)⟩
   · omega
 intro m1 a wl1 hI
 obtain ⟨i, rfl, hi_, HL1, hb, hb2, J1, rfl⟩ := hI
 refine wp_seq ?_
 refine wsr ?_
 refine wv (.int .i64 (i : Int)) ?_
 refine wv (.slice (some ⟨b, 0, none⟩) n cap) ?_
 refine wv (.int .i64 (n : Int)) ?_
 refine wv (.bool (decide ((i : Int) < (n : Int)))) ?_
 refine wpList_nil (then_normal ?_)
 refine wsplit (decide ((i : Int) < (n : Int))) (fun h1 => ?_) (fun h1 => ?_)
 · skip
   have h1d := dT h1
   refine wp_skip ?_
   refine then_normal ?_
   refine wp_seq ?_
   refine wp_block ?_
   refine wp_seq ?_
   refine wp_frame (a' := ⟨#[.slice (some ⟨b, 0, none⟩) n cap, .slice (some ⟨b2, 0, none⟩) n cap2, undef, undef, J1 4, .int .i64 (i : Int), .slice (some ⟨b, 0, none⟩) n cap, .int .i64 (n : Int), .slice (some ⟨b2, 0, none⟩) n cap2, .int .i64 (n : Int), .bool false, .int .i64 (i : Int), .slice (some ⟨b, 0, none⟩) n cap, .int .i64 (n : Int), .bool (decide ((i : Int) < (n : Int))), J1 15, J1 16, J1 17, J1 18, J1 19, J1 20, J1 21, J1 22, J1 23, J1 24, J1 25, J1 26], []⟩) (by kernel_rfl) ?_
   refine region_go 10 [17, 18, 19, 20, 21, 22, 23, 24, 25, 26] [[], [], [0, 1], [2], [], [], [4, 5], [6], [3, 7], [8]]
    (fun i_ => ([.val (.slice (some ⟨b, 0, none⟩) n cap), .val (.int .i64 (i : Int)), .val (.pointer (some ⟨b, 0 + i * 3, none⟩)), .val (.agg #[.int .i16 (f i 0), .int .i16 (f i 1), .int .i8 (f i 2)]), .val (.slice (some ⟨b2, 0, none⟩) n cap2), .val (.int .i64 (i : Int)), .val (.pointer (some ⟨b2, 0 + i * 3, none⟩)), .val (.agg #[.int .i16 (f i 0), .int .i16 (f i 1), .int .i8 (f i 2)]), .val (.bool true), .val (.bool false)] : List Fct).getD i_ .any)
    (by kernel_rfl) (by kernel_rfl) (by decide) (by simp) rfl (all_succ (all_succ (all_succ (all_succ (all_succ (all_succ (all_succ (all_succ (all_succ (all_succ all_zero ?_) ?_) ?_) ?_) ?_) ?_) ?_) ?_) ?_) ?_) ?_
   · refine step0 rfl rfl rfl (fun wr hw => ?_)
     exact OpRun.val (.slice (some ⟨b, 0, none⟩) n cap) (.slice (some ⟨b, 0, none⟩) n cap) (by kernel_rfl) rfl ⟨Ext.refl _, rfl⟩
   · refine step0 rfl rfl rfl (fun wr hw => ?_)
     exact OpRun.val (.int .i64 (i : Int)) (.int .i64 (i : Int)) (by kernel_rfl) rfl ⟨Ext.refl _, rfl⟩
   · refine step2 rfl rfl rfl rfl rfl (fun u0 u1 wr hw h0 h1 => ?_)
     cases h0
     cases h1
     exact OpRun.six (i := i) (k := .i64) (g := b) (off := 0) (n := n) (cap := cap) slit__impl_Scarecrow rfl (by kernel_rfl) (by kernel_rfl) (by omega) ⟨Ext.refl _, rfl⟩
   · refine step1 rfl rfl rfl rfl (fun u0 wr hw h0 => ?_)
     cases h0
     exact OpRun.mid (cs := [.int .i16 (f i 0), .int .i16 (f i 1), .int .i8 (f i 2)]) row_impl_Scarecrow rfl (SlX.range (i := i) hS (hb.ext hw) (by omega)) rfl (by kernel_rfl) ⟨Ext.refl _, rfl⟩
   · refine step0 rfl rfl rfl (fun wr hw => ?_)
     exact OpRun.val (.slice (some ⟨b2, 0, none⟩) n cap2) (.slice (some ⟨b2, 0, none⟩) n cap2) (by kernel_rfl) rfl ⟨Ext.refl _, rfl⟩
   · refine step0 rfl rfl rfl (fun wr hw => ?_)
     exact OpRun.val (.int .i64 (i : Int)) (.int .i64 (i : Int)) (by kernel_rfl) rfl ⟨Ext.refl _, rfl⟩
   · refine step2 rfl rfl rfl rfl rfl (fun u0 u1 wr hw h0 h1 => ?_)
     cases h0
     cases h1
     exact OpRun.six (i := i) (k := .i64) (g := b2) (off := 0) (n := n) (cap := cap2) slit__impl_Scarecrow rfl (by kernel_rfl) (by kernel_rfl) (by omega) ⟨Ext.refl _, rfl⟩
   · refine step1 rfl rfl rfl rfl (fun u0 wr hw h0 => ?_)
     cases h0
     exact OpRun.mid (cs := [.int .i16 (f i 0), .int .i16 (f i 1), .int .i8 (f i 2)]) row_impl_Scarecrow rfl (SlX.range (i := i) hS2 (hb2.ext hw) (by omega)) rfl (by kernel_rfl) ⟨Ext.refl _, rfl⟩
   · refine step2 rfl rfl rfl rfl rfl (fun u0 u1 wr hw h0 h1 => ?_)
     cases h0
     cases h1
     exact OpRun.call 41 #[.agg #[.int .i16 (f i 0), .int .i16 (f i 1), .int .i8 (f i 2)], .agg #[.int .i16 (f i 0), .int .i16 (f i 1), .int .i8 (f i 2)]] (by kernel_rfl) ((eqScarecrow_same (f i 0) (f i 1) (f i 2) _).mono fun e w1 ⟨he, hb⟩ => ⟨_, he, hb, rfl⟩)
   · refine step1 rfl rfl rfl rfl (fun u0 wr hw h0 => ?_)
     cases h0
     exact OpRun.val (.bool false) (.bool false) (by kernel_rfl) rfl ⟨Ext.refl _, rfl⟩
   refine end10 (fun u0 u1 u2 u3 u4 u5 u6 u7 u8 u9 w1 E1 f0 f1 f2 f3 f4 f5 f6 f7 f8 f9 => ?_)
   cases f0
   cases f1
   cases f2
   cases f3
   cases f4
   cases f5
   cases f6
   cases f7
   cases f8
   cases f9
   refine wpList_nil (then_normal ?_)
   refine wcf ?_
   refine wp_skip ?_
   refine block_normal (then_normal ?_)
   refine wp_region_lit ?_
   refine wv (.int .i64 (i : Int)) ?_
   refine wi64 ((i : Int) + 1) ?_
   refine wv (.int .i64 ((i : Int) + 1)) ?_
   refine wpList_nil (then_normal ?_)
   replace hb := hb.ext E1
   replace hb2 := hb2.ext E1
   have H1 := HL1.trans E1
   refine ⟨_, ?_, i + 1, rfl, ?_, H1, hb, hb2, exJ (by kernel_rfl)⟩
   · omega
   · omega
 · skip
   have h1d := dF h1
   refine wp_exit ?_
   refine then_exit ?_
   refine then_exit ?_
   refine block_exit ?_
   refine then_normal ?_
   refine wsr ?_
   refine wv (.bool true) ?_
   refine wpList_nil (then_normal ?_)
   refine wp_ret ?_
   refine ret1 (.bool true) rfl ?_ rfl ?_
   · exact resT (by kernel_rfl)
   exact ⟨rfl, HL1⟩


--# eqScarecrowS_nil
theorem eqScarecrowS_nil (b cap : Nat) (w : World) :
 Calls Tryd.prog 13 #[.slice none 0 0, .slice (some ⟨b, 0, none⟩) 0 cap] w fun e w' => e = .returned (.bool true) ∧ Ext w w' := by
 refine calls_of_wp Tryd.func13 rfl ?_
 refine wp_frame (a' := ⟨#[.slice none 0 0, .slice (some ⟨b, 0, none⟩) 0 cap, undef, undef, undef, undef, undef, undef, undef, undef, undef, undef, undef, undef, undef, undef, undef, undef, undef, undef, undef, undef, undef, undef, undef, undef, undef], []⟩) (by kernel_rfl) ?_
 refine wsr ?_
 refine wv (.bool false) ?_
 refine wpList_nil (then_normal ?_)
 refine wp_seq ?_
 refine wsr ?_
 refine wv (.slice none 0 0) ?_
 refine wv (.int .i64 0) ?_
 refine wv (.slice (some ⟨b, 0, none⟩) 0 cap) ?_
 refine wv (.int .i64 0) ?_
 refine wvv (.bool (0 != 0)) (.bool false) (by simp) ?_
 refine wpList_nil (then_normal ?_)
 refine wcf ?_
 refine wp_skip ?_
 refine then_normal ?_
 refine wp_seq ?_
 refine wsr ?_
 refine wv (.int .i64 0) ?_
 refine wpList_nil (then_normal ?_)
 refine wp_block ?_
 refine wp_loop_rounds 1 ?_
 refine rounds_s ?_
 refine wp_seq ?_
 refine wsr ?_
 refine wv (.int .i64 0) ?_
 refine wv (.slice none 0 0) ?_
 refine wv (.int .i64 0) ?_
 refine wv (.bool false) ?_
 refine wpList_nil (then_normal ?_)
 refine wcf ?_
 refine wp_exit ?_
 refine then_exit ?_
 refine then_exit ?_
 refine block_exit ?_
 refine then_normal ?_
 refine wsr ?_
 refine wv (.bool true) ?_
 refine wpList_nil (then_normal ?_)
 refine wp_ret ?_
 refine ret1 (.bool true) rfl ?_ rfl ?_
 · exact resT (by kernel_rfl)
 exact ⟨rfl, (Ext.refl w)⟩


--# markScarecrowS_nil
theorem markScarecrowS_nil (k : Int) (w : World) :
 Calls Tryd.prog 14 #[.slice none 0 0, .int .i64 k] w fun e w' => e = .returned (.int .i64 k) ∧ Ext w w' := by
 refine calls_of_wp Tryd.func14 rfl ?_
 refine wp_frame (a' := ⟨#[.slice none 0 0, .int .i64 k, undef, undef, undef, undef, undef, undef, undef, undef, undef, undef, undef, undef, undef, undef, undef, undef, undef, undef, undef, undef, undef, undef, undef, undef, undef, undef, undef, undef, undef, undef, undef, undef, undef, undef, undef], []⟩) (by kernel_rfl) ?_
 refine wsr ?_
 refine wv (.int .i64 0) ?_
 refine wpList_nil (then_normal ?_)
 refine wp_seq ?_
 refine wsr ?_
 refine wv (.int .i64 0) ?_
 refine wpList_nil (then_normal ?_)
 refine wp_block ?_
 refine wp_loop_rounds 1 ?_
 refine rounds_s ?_
 refine wp_seq ?_
 refine wsr ?_
 refine wv (.int .i64 0) ?_
 refine wv (.slice none 0 0) ?_
 refine wv (.int .i64 0) ?_
 refine wv (.bool false) ?_
 refine wpList_nil (then_normal ?_)
 refine wcf ?_
 refine wp_exit ?_
 refine then_exit ?_
 refine then_exit ?_
 refine block_exit ?_
 refine then_normal ?_
 refine wsr ?_
 refine wv (.int .i64 k) ?_
 refine wv (.int .i64 k) ?_
 refine wpList_nil (then_normal ?_)
 refine wp_ret ?_
 refine ret1 (.int .i64 k) rfl ?_ rfl ?_
 · exact resT (by kernel_rfl)
 exact ⟨rfl, (Ext.refl w)⟩


--# heldScarecrowS_nil
theorem heldScarecrowS_nil (k : Int) (w : World) :
 Calls Tryd.prog 15 #[.slice none 0 0, .int .i64 k] w fun e w' => e = .returned (.int .i64 k) ∧ Ext w w' := by
 refine calls_of_wp Tryd.func15 rfl ?_
 refine wp_frame (a' := ⟨#[.slice none 0 0, .int .i64 k, undef, undef, undef, undef, undef, undef, undef, undef, undef, undef, undef, undef, undef, undef, undef, undef, undef, undef, undef, undef, undef, undef, undef, undef, undef, undef, undef, undef, undef, undef, undef, undef, undef, undef, undef, undef, undef, undef, undef, undef, undef], []⟩) (by kernel_rfl) ?_
 refine wsr ?_
 refine wv (.int .i64 0) ?_
 refine wpList_nil (then_normal ?_)
 refine wp_seq ?_
 refine wsr ?_
 refine wv (.int .i64 0) ?_
 refine wpList_nil (then_normal ?_)
 refine wp_block ?_
 refine wp_loop_rounds 1 ?_
 refine rounds_s ?_
 refine wp_seq ?_
 refine wsr ?_
 refine wv (.int .i64 0) ?_
 refine wv (.slice none 0 0) ?_
 refine wv (.int .i64 0) ?_
 refine wv (.bool false) ?_
 refine wpList_nil (then_normal ?_)
 refine wcf ?_
 refine wp_exit ?_
 refine then_exit ?_
 refine then_exit ?_
 refine block_exit ?_
 refine then_normal ?_
 refine wsr ?_
 refine wv (.int .i64 k) ?_
 refine wv (.int .i64 k) ?_
 refine wpList_nil (then_normal ?_)
 refine wp_ret ?_
 refine ret1 (.int .i64 k) rfl ?_ rfl ?_
 · exact resT (by kernel_rfl)
 exact ⟨rfl, (Ext.refl w)⟩


--# markScarecrowS_any
theorem markScarecrowS_any (n : Nat) (f : Nat → Nat → Int) (b cap : Nat) (cs : Array Value) (hS : SlX cs n cap 3 [.i16, .i16, .i8] f) (k : Int) (hx : n ≤ 20) (hk : 0 ≤ k ∧ k ≤ 1) (w : World) (hb : Blk w b 63 cs) :
 Calls Tryd.prog 14 #[.slice (some ⟨b, 0, none⟩) n cap, .int .i64 k] w fun e w' => ∃ cs' f', e = .returned (.int .i64 (k + 3 * (n : Int))) ∧ Blk w' b 63 cs' ∧ SlX cs' n cap 3 [.i16, .i16, .i8] f' ∧ (∀ a c, a < n → c < 3 → f' a c = k + 3 * (a : Int) + (c : Int)) ∧ Wr b w w' := by
 refine calls_of_wp Tryd.func14 rfl ?_
 refine wp_frame (a' := ⟨#[.slice (some ⟨b, 0, none⟩) n cap, .int .i64 k, undef, undef, undef, undef, undef, undef, undef, undef, undef, undef, undef, undef, undef, undef, undef, undef, undef, undef, undef, undef, undef, undef, undef, undef, undef, undef, undef, undef, undef, undef, undef, undef, undef, undef, undef], []⟩) (by kernel_rfl) ?_
 refine wsr ?_
 refine wv (.int .i64 0) ?_
 refine wpList_nil (then_normal ?_)
 refine wp_seq ?_
 refine wsr ?_
 refine wv (.int .i64 0) ?_
 refine wpList_nil (then_normal ?_)
 refine wp_block ?_
 refine wp_loop_k (fun m1 a wl1 => ∃ (i : Nat) (kk : Int) (fm : Nat → Nat → Int) (cs_ : Array Value), m1 = n - i ∧ i ≤ n ∧ kk = k + 3 * (i : Int) ∧ SlX cs_ n cap 3 [.i16, .i16, .i8] fm ∧ (∀ a c, a < i → c < 3 → fm a c = k + 3 * (a : Int) + (c : Int)) ∧ Wr b w wl1 ∧ Blk wl1 b 63 cs_ ∧ (∃ J1 : Nat → Value, a = ⟨#[.slice (some ⟨b, 0, none⟩) n cap, .int .i64 kk, undef, undef, .int .i64 0, .int .i64 (i : Int), J1 6, J1 7, J1 8, J1 9, J1 10, J1 11, J1 12, J1 13, J1 14, J1 15, J1 16, J1 17, J1 18, J1 19, J1 20, J1 21, J1 22, J1 23, J1 24, J1 25, J1 26, J1 27, J1 28, J1 29, J1 30, J1 31, J1 32, J1 33, J1 34, J1 35, undef], []⟩)) (n) ?_ ?_
 · refine ⟨0, k, f, cs, rfl, ?_, ?_, ?_, ?_, (Wr.of_ext (b := b) (Ext.refl w)), hb, exJ (by kernel_rfl)⟩
   · omega
   · omega
   · exact hS
   · intro a c ha hc; omega
 intro m1 a wl1 hI
 obtain ⟨i, kk, fm, cs_, rfl, hi_, hkk, Sm, hys, HL1, hb, J1, rfl⟩ := hI
 refine wp_seq ?_
 refine wsr ?_
 refine wv (.int .i64 (i : Int)) ?_
 refine wv (.slice (some ⟨b, 0, none⟩) n cap) ?_
 refine wv (.int .i64 (n : Int)) ?_
 refine wv (.bool (decide ((i : Int) < (n : Int)))) ?_
 refine wpList_nil (then_normal ?_)
 refine wsplit (decide ((i : Int) < (n : Int))) (fun h1 => ?_) (fun h1 => ?_)
 · skip
   have h1d := dT h1
   refine wp_skip ?_
   refine then_normal ?_
   refine wp_seq ?_
   refine wp_block ?_
   refine wsr ?_
   refine wv (.slice (some ⟨b, 0, none⟩) n cap) ?_
   refine wv (.int .i64 (i : Int)) ?_
   refine wv (.int .i64 kk) ?_
   refine wi16 kk ?_
   refine wsix b 0 n cap i .i64 slit__impl_Scarecrow ?_
   refine wv (.pointer (some ⟨b, 0 + i * 3, none⟩)) ?_
   have S1 : SlX (cs_.setIfInBounds (0 + i * 3) (.int .i16 kk)) n cap 3 [.i16, .i16, .i8] (updC fm i 0 kk) := Sm.set0 (i := i) kk (by omega) (by decide) rfl
   refine wst b (0 + i * 3) (.int .i16 kk) scal_int16 hb (rfl) (by exact SlX.clt Sm (i := i) (c := 0) (by omega) (by decide)) ?_
   intro w1 hb_ X1
   clear hb; have hb := hb_; clear hb_
   refine wpList_nil (then_normal ?_)
   refine wsr ?_
   refine wv (.int .i64 kk) ?_
   refine wi64 (kk + 1) ?_
   refine wv (.int .i64 (kk + 1)) ?_
   refine wpList_nil (then_normal ?_)
   refine wsr ?_
   refine wv (.slice (some ⟨b, 0, none⟩) n cap) ?_
   refine wv (.int .i64 (i : Int)) ?_
   refine wv (.int .i64 (kk + 1)) ?_
   refine wi16 (kk + 1) ?_
   refine wsix b 0 n cap i .i64 slit__impl_Scarecrow ?_
   refine wv (.pointer (some ⟨b, 0 + i * 3 + 1, none⟩)) ?_
   have S2 : SlX ((cs_.setIfInBounds (0 + i * 3) (.int .i16 kk)).setIfInBounds (0 + i * 3 + 1) (.int .i16 (kk + 1))) n cap 3 [.i16, .i16, .i8] (updC (updC fm i 0 kk) i 1 (kk + 1)) := S1.set (i := i) (c := 1) (kk + 1) (by omega) (by decide) rfl
   refine wst b (0 + i * 3 + 1) (.int .i16 (kk + 1)) scal_int16 hb (rfl) (by exact SlX.clt S1 (i := i) (c := 1) (by omega) (by decide)) ?_
   intro w2 hb_ X2
   clear hb; have hb := hb_; clear hb_
   refine wpList_nil (then_normal ?_)
   refine wsr ?_
   refine wv (.int .i64 (kk + 1)) ?_
   refine wi64 ((kk + 1) + 1) ?_
   refine wv (.int .i64 ((kk + 1) + 1)) ?_
   refine wpList_nil (then_normal ?_)
   refine wsr ?_
   refine wv (.slice (some ⟨b, 0, none⟩) n cap) ?_
   refine wv (.int .i64 (i : Int)) ?_
   refine wv (.int .i64 ((kk + 1) + 1)) ?_
   refine wi8 ((kk + 1) + 1) ?_
   refine wsix b 0 n cap i .i64 slit__impl_Scarecrow ?_
   refine wv (.pointer (some ⟨b, 0 + i * 3 + 2, none⟩)) ?_
   have S3 : SlX (((cs_.setIfInBounds (0 + i * 3) (.int .i16 kk)).setIfInBounds (0 + i * 3 + 1) (.int .i16 (kk + 1))).setIfInBounds (0 + i * 3 + 2) (.int .i8 ((kk + 1) + 1))) n cap 3 [.i16, .i16, .i8] (updC (updC (updC fm i 0 kk) i 1 (kk + 1)) i 2 ((kk + 1) + 1)) := S2.set (i := i) (c := 2) ((kk + 1) + 1) (by omega) (by decide) rfl
   refine wst b (0 + i * 3 + 2) (.int .i8 ((kk + 1) + 1)) scal_int8 hb (rfl) (by exact SlX.clt S2 (i := i) (c := 2) (by omega) (by decide)) ?_
   intro w3 hb_ X3
   clear hb; have hb := hb_; clear hb_
   refine wpList_nil (then_normal ?_)
   refine wp_frame (a' := ⟨#[.slice (some ⟨b, 0, none⟩) n cap, .int .i64 ((kk + 1) + 1), undef, undef, .int .i64 0, .int .i64 (i : Int), .int .i64 (i : Int), .slice (some ⟨b, 0, none⟩) n cap, .int .i64 (n : Int), .bool (decide ((i : Int) < (n : Int))), J1 10, J1 11, .slice (some ⟨b, 0, none⟩) n cap, .int .i64 (i : Int), .int .i64 kk, .int .i16 kk, .pointer (some ⟨b, 0 + i * 3, none⟩), .pointer (some ⟨b, 0 + i * 3, none⟩), .int .i64 kk, .int .i64 (kk + 1), .slice (some ⟨b, 0, none⟩) n cap, .int .i64 (i : Int), .int .i64 (kk + 1), .int .i16 (kk + 1), .pointer (some ⟨b, 0 + i * 3, none⟩), .pointer (some ⟨b, 0 + i * 3 + 1, none⟩), .int .i64 (kk + 1), .int .i64 ((kk + 1) + 1), .slice (some ⟨b, 0, none⟩) n cap, .int .i64 (i : Int), .int .i64 ((kk + 1) + 1), .int .i8 ((kk + 1) + 1), .pointer (some ⟨b, 0 + i * 3, none⟩), .pointer (some ⟨b, 0 + i * 3 + 2, none⟩), J1 34, J1 35, undef], []⟩) (by kernel_rfl) ?_
   refine wp_region_lit ?_
   refine wv (.int .i64 ((kk + 1) + 1)) ?_
   refine wi64 (((kk + 1) + 1) + 1) ?_
   refine wv (.int .i64 (((kk + 1) + 1) + 1)) ?_
   refine wpList_nil (block_normal (then_normal ?_))
   refine wp_region_lit ?_
   refine wv (.int .i64 (i : Int)) ?_
   refine wi64 ((i : Int) + 1) ?_
   refine wv (.int .i64 ((i : Int) + 1)) ?_
   refine wpList_nil (then_normal ?_)
   have H1 := ((HL1.trans X1).trans X2).trans X3
   refine ⟨_, ?_, i + 1, ((kk + 1) + 1) + 1, updC (updC (updC fm i 0 kk) i 1 (kk + 1)) i 2 ((kk + 1) + 1), (((cs_.setIfInBounds (0 + i * 3) (.int .i16 kk)).setIfInBounds (0 + i * 3 + 1) (.int .i16 (kk + 1))).setIfInBounds (0 + i * 3 + 2) (.int .i8 ((kk + 1) + 1))), rfl, ?_, ?_, ?_, ?_, H1, hb, exJ (by kernel_rfl)⟩
   · omega
   · omega
   · omega
   · exact S3
   · intro a c ha hc
     by_cases hai : a = i
     · subst hai
       rcases (by omega : c = 0 ∨ c = 1 ∨ c = 2) with rfl | rfl | rfl <;> simp [updC] <;> omega
     · simp only [updC, hai, false_and, if_false]
       exact hys a c (by omega) hc
 · skip
   have h1d := dF h1
   refine wp_exit ?_
   refine then_exit ?_
   refine then_exit ?_
   refine block_exit ?_
   refine then_normal ?_
   refine wsr ?_
   refine wv (.int .i64 kk) ?_
   refine wv (.int .i64 kk) ?_
   refine wpList_nil (then_normal ?_)
   refine wp_ret ?_
   refine ret1 (.int .i64 kk) rfl ?_ rfl ?_
   · exact resT (by kernel_rfl)
   have ek_ : kk = k + 3 * (n : Int) := by omega
   rw [ek_]
   exact ⟨_, _, rfl, hb, Sm, fun a c ha hc => hys a c (by omega) hc, HL1⟩


--# heldScarecrowS_any
theorem heldScarecrowS_any (n : Nat) (f : Nat → Nat → Int) (b cap : Nat) (cs : Array Value) (hS : SlX cs n cap 3 [.i16, .i16, .i8] f) (k : Int) (hx : n ≤ 20) (hk : 0 ≤ k ∧ k ≤ 1) (hm : ∀ a c, a < n → c < 3 → f a c = k + 3 * (a : Int) + (c : Int)) (w : World) (hb : Blk w b 63 cs) :
 Calls Tryd.prog 15 #[.slice (some ⟨b, 0, none⟩) n cap, .int .i64 k] w fun e w' => e = .returned (.int .i64 (k + 3 * (n : Int))) ∧ Ext w w' := by
 refine calls_of_wp Tryd.func15 rfl ?_
 refine wp_frame (a' := ⟨#[.slice (some ⟨b, 0, none⟩) n cap, .int .i64 k, undef, undef, undef, undef, undef, undef, undef, undef, undef, undef, undef, undef, undef, undef, undef, undef, undef, undef, undef, undef, undef, undef, undef, undef, undef, undef, undef, undef, undef, undef, undef, undef, undef, undef, undef, undef, undef, undef, undef, undef, undef], []⟩) (by kernel_rfl) ?_
 refine wsr ?_
 refine wv (.int .i64 0) ?_
 refine wpList_nil (then_normal ?_)
 refine wp_seq ?_
 refine wsr ?_
 refine wv (.int .i64 0) ?_
 refine wpList_nil (then_normal ?_)
 refine wp_block ?_
 refine wp_loop_k (fun m1 a wl1 => ∃ (i : Nat) (kk : Int), m1 = n - i ∧ i ≤ n ∧ kk = k + 3 * (i : Int) ∧ Ext w wl1 ∧ Blk wl1 b 63 cs ∧ (∃ J1 : Nat → Value, a = ⟨#[.slice (some ⟨b, 0, none⟩) n cap, .int .i64 kk, undef, undef, J1 4, .int .i64 (i : Int), J1 6, J1 7, J1 8, J1 9, J1 10, J1 11, J1 12, J1 13, J1 14, J1 15, J1 16, J1 17, J1 18, J1 19, J1 20, J1 21, J1 22, J1 23, J1 24, J1 25, J1 26, J1 27, J1 28, J1 29, J1 30, J1 31, J1 32, J1 33, J1 34, J1 35, J1 36, J1 37, J1 38, J1 39, J1 40, J1 41, undef], []⟩)) (n) ?_ ?_
 · refine ⟨0, k, rfl, ?_, ?_, (Ext.refl w), hb, exJ (by kernel_rfl)⟩
   · omega
   · omega
 intro m1 a wl1 hI
 obtain ⟨i, kk, rfl, hi_, hkk, HL1, hb, J1, rfl⟩ := hI
 have hm0_ := fun hi => hm i 0 hi (by omega)
 have hm1_ := fun hi => hm i 1 hi (by omega)
 have hm2_ := fun hi => hm i 2 hi (by omega)
 refine wp_seq ?_
 refine wsr ?_
 refine wv (.int .i64 (i : Int)) ?_
 refine wv (.slice (some ⟨b, 0, none⟩) n cap) ?_
 refine wv (.int .i64 (n : Int)) ?_
 refine wv (.bool (decide ((i : Int) < (n : Int)))) ?_
 refine wpList_nil (then_normal ?_)
 refine wsplit (decide ((i : Int) < (n : Int))) (fun h1 => ?_) (fun h1 => ?_)
 · skip
   have h1d := dT h1
   refine wp_skip ?_
   refine then_normal ?_
   refine wp_seq ?_
   refine wp_block ?_
   refine wp_seq ?_
   refine wsr ?_
   refine wv (.slice (some ⟨b, 0, none⟩) n cap) ?_
   refine wv (.int .i64 (i : Int)) ?_
   refine wsix b 0 n cap i .i64 slit__impl_Scarecrow ?_
   refine wv (.pointer (some ⟨b, 0 + i * 3, none⟩)) ?_
   refine wld b (0 + i * 3) scal_int16 (hb.get (hS.cell0 (i := i) (by omega) (by decide) rfl)) ?_
   refine wv (.int .i64 kk) ?_
   refine wi16 kk ?_
   refine wv (.bool ((f i 0) != kk)) ?_
   refine wpList_nil (then_normal ?_)
   refine wsplit ((f i 0) != kk) (fun h2 => ?_) (fun h2 => ?_)
   · skip
     have h2d := nT h2
     refine wsr ?_
     refine wv (.int .i64 (-1)) ?_
     refine wpList_nil (then_normal ?_)
     refine wp_ret ?_
     refine then_ret (block_ret (then_ret (then_ret (block_ret (then_ret ?_)))))
     refine ret1 (.int .i64 (k + 3 * (n : Int))) rfl ?_ rfl ?_
     · refine (resT (v := .int .i64 (-1)) (by kernel_rfl)).trans ?_
       refine congrArg (Value.int _) ?_
       first | omega | (exfalso; have q0_ := hm0_ (by omega); have q1_ := hm1_ (by omega); have q2_ := hm2_ (by omega); omega)
     exact ⟨rfl, HL1⟩
   · skip
     have h2d := nF h2
     refine wp_skip ?_
     refine then_normal ?_
     refine wsr ?_
     refine wv (.int .i64 kk) ?_
     refine wi64 (kk + 1) ?_
     refine wv (.int .i64 (kk + 1)) ?_
     refine wpList_nil (then_normal ?_)
     refine wp_seq ?_
     refine wsr ?_
     refine wv (.slice (some ⟨b, 0, none⟩) n cap) ?_
     refine wv (.int .i64 (i : Int)) ?_
     refine wsix b 0 n cap i .i64 slit__impl_Scarecrow ?_
     refine wv (.pointer (some ⟨b, 0 + i * 3 + 1, none⟩)) ?_
     refine wld b (0 + i * 3 + 1) scal_int16 (hb.get (hS.cell (i := i) (c := 1) (by omega) (by decide) rfl)) ?_
     refine wv (.int .i64 (kk + 1)) ?_
     refine wi16 (kk + 1) ?_
     refine wv (.bool ((f i 1) != (kk + 1))) ?_
     refine wpList_nil (then_normal ?_)
     refine wsplit ((f i 1) != (kk + 1)) (fun h3 => ?_) (fun h3 => ?_)
     · skip
       have h3d := nT h3
       refine wsr ?_
       refine wv (.int .i64 (-1)) ?_
       refine wpList_nil (then_normal ?_)
       refine wp_ret ?_
       refine then_ret (block_ret (then_ret (then_ret (block_ret (then_ret ?_)))))
       refine ret1 (.int .i64 (k + 3 * (n : Int))) rfl ?_ rfl ?_
       · refine (resT (v := .int .i64 (-1)) (by kernel_rfl)).trans ?_
         refine congrArg (Value.int _) ?_
         first | omega | (exfalso; have q0_ := hm0_ (by omega); have q1_ := hm1_ (by omega); have q2_ := hm2_ (by omega); omega)
       exact ⟨rfl, HL1⟩
     · skip
       have h3d := nF h3
       refine wp_skip ?_
       refine then_normal ?_
       refine wsr ?_
       refine wv (.int .i64 (kk + 1)) ?_
       refine wi64 ((kk + 1) + 1) ?_
       refine wv (.int .i64 ((kk + 1) + 1)) ?_
       refine wpList_nil (then_normal ?_)
       refine wp_seq ?_
       refine wsr ?_
       refine wv (.slice (some ⟨b, 0, none⟩) n cap) ?_
       refine wv (.int .i64 (i : Int)) ?_
       refine wsix b 0 n cap i .i64 slit__impl_Scarecrow ?_
       refine wv (.pointer (some ⟨b, 0 + i * 3 + 2, none⟩)) ?_
       refine wld b (0 + i * 3 + 2) scal_int8 (hb.get (hS.cell (i := i) (c := 2) (by omega) (by decide) rfl)) ?_
       refine wv (.int .i64 ((kk + 1) + 1)) ?_
       refine wi8 ((kk + 1) + 1) ?_
       refine wv (.bool ((f i 2) != ((kk + 1) + 1))) ?_
       refine wpList_nil (then_normal ?_)
       refine wp_frame (a' := ⟨#[.slice (some ⟨b, 0, none⟩) n cap, .int .i64 ((kk + 1) + 1), undef, undef, J1 4, .int .i64 (i : Int), .int .i64 (i : Int), .slice (some ⟨b, 0, none⟩) n cap, .int .i64 (n : Int), .bool (decide ((i : Int) < (n : Int))), J1 10, J1 11, .slice (some ⟨b, 0, none⟩) n cap, .int .i64 (i : Int), .pointer (some ⟨b, 0 + i * 3, none⟩), .pointer (some ⟨b, 0 + i * 3, none⟩), .int .i16 (f i 0), .int .i64 kk, .int .i16 kk, .bool ((f i 0) != kk), .int .i64 kk, .int .i64 (kk + 1), .slice (some ⟨b, 0, none⟩) n cap, .int .i64 (i : Int), .pointer (some ⟨b, 0 + i * 3, none⟩), .pointer (some ⟨b, 0 + i * 3 + 1, none⟩), .int .i16 (f i 1), .int .i64 (kk + 1), .int .i16 (kk + 1), .bool ((f i 1) != (kk + 1)), .int .i64 (kk + 1), .int .i64 ((kk + 1) + 1), .slice (some ⟨b, 0, none⟩) n cap, .int .i64 (i : Int), .pointer (some ⟨b, 0 + i * 3, none⟩), .pointer (some ⟨b, 0 + i * 3 + 2, none⟩), .int .i8 (f i 2), .int .i64 ((kk + 1) + 1), .int .i8 ((kk + 1) + 1), .bool ((f i 2) != ((kk + 1) + 1)), J1 40, J1 41, undef], []⟩) (by kernel_rfl) ?_
       refine wsplit ((f i 2) != ((kk + 1) + 1)) (fun h4 => ?_) (fun h4 => ?_)
       · skip
         have h4d := nT h4
         refine wsr ?_
         refine wv (.int .i64 (-1)) ?_
         refine wpList_nil (then_normal ?_)
         refine wp_ret ?_
         refine then_ret (block_ret (then_ret (then_ret (block_ret (then_ret ?_)))))
         refine ret1 (.int .i64 (k + 3 * (n : Int))) rfl ?_ rfl ?_
         · refine (resT (v := .int .i64 (-1)) (by kernel_rfl)).trans ?_
           refine congrArg (Value.int _) ?_
           first | omega | (exfalso; have q0_ := hm0_ (by omega); have q1_ := hm1_ (by omega); have q2_ := hm2_ (by omega); omega)
         exact ⟨rfl, HL1⟩
       · skip
         have h4d := nF h4
         refine wp_skip ?_
         refine then_normal ?_
         refine wp_region_lit ?_
         refine wv (.int .i64 ((kk + 1) + 1)) ?_
         refine wi64 (((kk + 1) + 1) + 1) ?_
         refine wv (.int .i64 (((kk + 1) + 1) + 1)) ?_
         refine wpList_nil (block_normal (then_normal ?_))
         refine wp_region_lit ?_
         refine wv (.int .i64 (i : Int)) ?_
         refine wi64 ((i : Int) + 1) ?_
         refine wv (.int .i64 ((i : Int) + 1)) ?_
         refine wpList_nil (then_normal ?_)
         refine ⟨_, ?_, i + 1, ((kk + 1) + 1) + 1, rfl, ?_, ?_, HL1, hb, exJ (by kernel_rfl)⟩
         · omega
         · omega
         · omega
 · skip
   have h1d := dF h1
   refine wp_exit ?_
   refine then_exit ?_
   refine then_exit ?_
   refine block_exit ?_
   refine then_normal ?_
   refine wsr ?_
   refine wv (.int .i64 kk) ?_
   refine wv (.int .i64 kk) ?_
   refine wpList_nil (then_normal ?_)
   refine wp_ret ?_
   refine ret1 (.int .i64 (k + 3 * (n : Int))) rfl ?_ rfl ?_
   · refine (resT (v := .int .i64 kk) (by kernel_rfl)).trans ?_
     refine congrArg (Value.int _) ?_
     first | omega | (exfalso; have q0_ := hm0_ (by omega); have q1_ := hm1_ (by omega); have q2_ := hm2_ (by omega); omega)
   exact ⟨rfl, HL1⟩

end Go.Proofs.YteiplklloajjaaaDoor
