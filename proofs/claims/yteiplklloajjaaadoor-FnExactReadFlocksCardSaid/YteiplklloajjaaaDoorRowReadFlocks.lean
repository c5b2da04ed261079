/-
  For all arguments, the law FnExactReadFlocks returns true; its arguments read as they did. No conditions. The tied card: the listed variables hold what the program lays.
-/
import Derived.Test.YteiplklloajjaaaDoorRows
import Derived.Test.YteiplklloajjaaaDoorCards
import Derived.Test.YteiplklloajjaaaDoorTie
import Derived.Test.YteiplklloajjaaaDoorFn31
import Derived.Test.YteiplklloajjaaaDoorCdk
import Derived.Test.YteiplklloajjaaaDoorRowk
import Derived.WalkKit
import Derived.ProofKit
import Derived.OpenShut
import Derived.ShutString
import Derived.ChangeOld
import Derived.Below
import Derived.SizedLaws
import Derived.SevenTiedAt
namespace Go.Proofs.YteiplklloajjaaaDoor
open Go.ChangeShapes Go.WideShapes Go.ChangeAt Go.RowKit
open Go.ChangeMaps (open_string shut_string)
set_option linter.unusedVariables false
theorem ownKnob_none : ownKnob Tryd.prog.godebug = none := by kernel_rfl
theorem laidOut_ : laidOutB Tryd.prog = true := by kernel_rfl
section
set_option maxHeartbeats 4000000
set_option maxRecDepth 100000
attribute [local irreducible] wpList Code.wp OpRun
--# walk FnExactReadFlocks
theorem FnExactReadFlocks_walk (l : List UInt8) (w : World) (hT : TW w) :
 Calls Tryd.prog 6 #[.string (bs l)] w fun e w' => e = .returned (.bool true) ∧ Ext w w' := by
 refine calls_of_wp Tryd.func6 rfl ?_
 refine wp_frame (a' := ⟨#[.string (bs l), undef, undef, undef, undef, undef, undef, undef, undef, undef, undef, undef, undef, undef, undef, undef, undef, undef, undef, undef, undef, undef, undef, undef, undef, undef, undef, undef, undef, undef, undef, undef, undef, undef, undef, undef, undef, undef, undef, undef, undef, undef, undef, undef, undef, undef, undef, undef, undef, undef, undef, undef, undef, undef, undef, undef, undef, undef, undef, undef, undef, undef, undef, undef, undef, undef], []⟩) (by kernel_rfl) ?_
 refine wsr ?_
 refine wv (.bool false) ?_
 refine wpList_nil (then_normal ?_)
 refine wp_seq ?_
 refine wsr ?_
 refine wv (.string (bs l)) ?_
 refine wlenS l Tryd.underlying9 ?_
 refine wv (.bool (decide (1048576 < (l.length : Int)))) ?_
 refine wpList_nil (then_normal ?_)
 refine wsplit (decide (1048576 < (l.length : Int))) (fun h1 => ?_) (fun h1 => ?_)
 · skip
   have h1d := dT h1
   refine wsr ?_
   refine wv (.bool true) ?_
   refine wpList_nil (then_normal ?_)
   refine wp_ret ?_
   refine then_ret ?_
   refine ret1 (.bool true) rfl ?_ rfl ?_
   · exact resT (by kernel_rfl)
   exact ⟨rfl, (Ext.refl w)⟩
 · skip
   have h1d := dF h1
   refine wp_skip ?_
   refine then_normal ?_
   refine wsr ?_
   refine wv (.string (bs l)) ?_
   refine split_bool (rdO 12 flW l) (fun h2 => ?_) (fun h2 => ?_)
   · skip
     refine wclX ((sReadFlocks_any l (by omega) _).mono fun _ _ h_ => h_.yes h2) ?_
     intro g1 cap1 cs1 w1 B1 S1 E1 hg_
     have lo_g1 := Nat.le_trans ((Ext.refl w)).size hg_
     have rn1 := rdN_le h2
     refine wv (.tuple #[.slice (some ⟨g1, 0, none⟩) (rdN l) cap1, .int .i64 0]) ?_
     refine wv (.slice (some ⟨g1, 0, none⟩) (rdN l) cap1) ?_
     refine wv (.int .i64 0) ?_
     refine wv (.slice (some ⟨g1, 0, none⟩) (rdN l) cap1) ?_
     refine wv (.int .i64 0) ?_
     refine wpList_nil (then_normal ?_)
     refine wsr ?_
     refine wv (.string (bs l)) ?_
     have H1 := (Ext.refl w).trans E1
     refine wclX ((iReadFlocks_any l (by omega) _ (TW.ext hT H1)).mono fun _ _ h_ => h_.yes h2) ?_
     intro g2 cap2 cs2 w2 B2 S2 E2 hg_
     have q_g1_g2 := Nat.ne_of_lt (Nat.lt_of_lt_of_le B1.lt hg_)
     have lo_g2 := Nat.le_trans (H1).size hg_
     have rn2 := rdN_le h2
     refine wv (.tuple #[.slice (some ⟨g2, 0, none⟩) (rdN l) cap2, .int .i64 0]) ?_
     refine wv (.slice (some ⟨g2, 0, none⟩) (rdN l) cap2) ?_
     refine wv (.int .i64 0) ?_
     refine wv (.slice (some ⟨g2, 0, none⟩) (rdN l) cap2) ?_
     refine wv (.int .i64 0) ?_
     refine wpList_nil (then_normal ?_)
     refine wp_seq ?_
     refine wsr ?_
     refine wv (.slice (some ⟨g2, 0, none⟩) (rdN l) cap2) ?_
     refine wv (.slice (some ⟨g1, 0, none⟩) (rdN l) cap1) ?_
     replace B1 := B1.ext E2
     refine wcl (eqFlockS_same (rdN l) (flF l) g2 cap2 cs2 S2 g1 cap1 cs1 S1 (by omega) _ B2 B1) ?_
     intro w3 E3
     refine wv (.bool false) ?_
     refine wv (.bool false) ?_
     refine wv (.int .i64 0) ?_
     refine wv (.int .i64 0) ?_
     refine wvv (.bool (0 != 0)) (.bool false) (by simp) ?_
     refine wv (.bool false) ?_
     refine wpList_nil (then_normal ?_)
     refine wcf ?_
     refine wp_skip ?_
     refine then_normal ?_
     refine wsr ?_
     refine wv (.int .i64 1) ?_
     refine wpList_nil (then_normal ?_)
     refine wsr ?_
     refine wv (.slice (some ⟨g2, 0, none⟩) (rdN l) cap2) ?_
     refine wv (.int .i64 1) ?_
     replace B2 := B2.ext E3
     refine wclx (fun v_ w_ => ∃ cs' f', v_ = .int .i64 (1 + 6 * ((rdN l) : Int)) ∧ Blk w_ g2 77 cs' ∧ SlX cs' (rdN l) cap2 6 [.i16, .i16, .i16, .i16, .i16, .i8] f' ∧ (∀ a c, a < (rdN l) → c < 6 → f' a c = 1 + 6 * (a : Int) + (c : Int)) ∧ Wr g2 w3 w_) (markFlockS_any (rdN l) (flF l) g2 cap2 cs2 S2 1 (by omega) (by omega) _ B2) (fun e_ w_ ⟨c_, f_, h_, r_⟩ => ⟨_, h_, c_, f_, rfl, r_⟩) ?_
     rintro v_ w4 ⟨cs3, fm1, rfl, B2_, S3, hm1, X1⟩
     clear B2; have B2 := B2_; clear B2_
     refine wv (.int .i64 (1 + 6 * ((rdN l) : Int))) ?_
     refine wpList_nil (then_normal ?_)
     refine wp_frame (a' := ⟨#[.string (bs l), undef, .bool false, .slice (some ⟨g1, 0, none⟩) (rdN l) cap1, .int .i64 0, .slice (some ⟨g2, 0, none⟩) (rdN l) cap2, .int .i64 0, .int .i64 (1 + 6 * ((rdN l) : Int)), undef, undef, undef, .string (bs l), .int .i64 (l.length : Int), .bool (decide (1048576 < (l.length : Int))), .tuple #[.slice (some ⟨g1, 0, none⟩) (rdN l) cap1, .int .i64 0], .string (bs l), .tuple #[.slice (some ⟨g1, 0, none⟩) (rdN l) cap1, .int .i64 0], .slice (some ⟨g1, 0, none⟩) (rdN l) cap1, .int .i64 0, .tuple #[.slice (some ⟨g2, 0, none⟩) (rdN l) cap2, .int .i64 0], .string (bs l), .tuple #[.slice (some ⟨g2, 0, none⟩) (rdN l) cap2, .int .i64 0], .slice (some ⟨g2, 0, none⟩) (rdN l) cap2, .int .i64 0, .slice (some ⟨g2, 0, none⟩) (rdN l) cap2, .slice (some ⟨g1, 0, none⟩) (rdN l) cap1, .bool true, .bool false, .bool false, .int .i64 0, .int .i64 0, .bool false, .bool false, .slice (some ⟨g2, 0, none⟩) (rdN l) cap2, .int .i64 1, .int .i64 (1 + 6 * ((rdN l) : Int)), undef, undef, undef, undef, undef, undef, undef, undef, undef, undef, undef, undef, undef, undef, undef, undef, undef, undef, undef, undef, undef, undef, undef, undef, undef, undef, undef, undef, undef, undef], []⟩) (by kernel_rfl) ?_
     refine wsr ?_
     refine wv (.int .i64 1) ?_
     refine wpList_nil (then_normal ?_)
     refine wsr ?_
     refine wv (.slice (some ⟨g2, 0, none⟩) (rdN l) cap2) ?_
     refine wv (.int .i64 1) ?_
     refine wcl (heldFlockS_any (rdN l) fm1 g2 cap2 cs3 S3 1 (by omega) (by omega) hm1 _ B2) ?_
     intro w5 E4
     refine wv (.int .i64 (1 + 6 * ((rdN l) : Int))) ?_
     refine wpList_nil (then_normal ?_)
     refine wp_seq ?_
     refine wsr ?_
     refine wv (.int .i64 (1 + 6 * ((rdN l) : Int))) ?_
     refine wv (.bool (decide ((1 + 6 * ((rdN l) : Int)) < 0))) ?_
     refine wpList_nil (then_normal ?_)
     have H2 := (X1.ext w lo_g2 ((H1.trans E2).trans E3)).trans E4
     refine wsplit (decide ((1 + 6 * ((rdN l) : Int)) < 0)) (fun h3 => ?_) (fun h3 => ?_)
     · skip
       have h3d := dT h3
       refine wsr ?_
       refine wv (.bool false) ?_
       refine wpList_nil (then_normal ?_)
       refine wp_ret ?_
       refine then_ret ?_
       refine ret1 (.bool true) rfl ?_ rfl ?_
       · refine (resT (v := .bool false) (by kernel_rfl)).trans ?_
         refine congrArg Value.bool ?_
         exfalso; omega
       exact ⟨rfl, H2⟩
     · skip
       have h3d := dF h3
       refine wp_skip ?_
       refine then_normal ?_
       refine wp_seq ?_
       refine wsr ?_
       refine wv (.int .i64 (1 + 6 * ((rdN l) : Int))) ?_
       refine wv (.int .i64 (1 + 6 * ((rdN l) : Int))) ?_
       refine wvv (.bool ((1 + 6 * ((rdN l) : Int)) != (1 + 6 * ((rdN l) : Int)))) (.bool false) (by simp) ?_
       refine wpList_nil (then_normal ?_)
       refine wcf ?_
       refine wp_skip ?_
       refine then_normal ?_
       refine wsr ?_
       refine wv (.string (bs l)) ?_
       replace B1 := (X1.blk (B1.ext E3) q_g1_g2).ext E4
       replace B2 := B2.ext E4
       refine wclX ((iReadFlocks_any l (by omega) _ (TW.ext hT H2)).mono fun _ _ h_ => h_.yes h2) ?_
       intro g3 cap3 cs4 w6 B3 S4 E5 hg_
       have q_g1_g3 := Nat.ne_of_lt (Nat.lt_of_lt_of_le B1.lt hg_)
       have q_g2_g3 := Nat.ne_of_lt (Nat.lt_of_lt_of_le B2.lt hg_)
       have lo_g3 := Nat.le_trans (H2).size hg_
       have rn3 := rdN_le h2
       refine wv (.tuple #[.slice (some ⟨g3, 0, none⟩) (rdN l) cap3, .int .i64 0]) ?_
       refine wv (.slice (some ⟨g3, 0, none⟩) (rdN l) cap3) ?_
       refine wv (.int .i64 0) ?_
       refine wv (.slice (some ⟨g3, 0, none⟩) (rdN l) cap3) ?_
       refine wv (.int .i64 0) ?_
       refine wpList_nil (then_normal ?_)
       refine wp_seq ?_
       refine wsr ?_
       refine wv (.slice (some ⟨g3, 0, none⟩) (rdN l) cap3) ?_
       refine wv (.slice (some ⟨g1, 0, none⟩) (rdN l) cap1) ?_
       replace B1 := B1.ext E5
       refine wcl (eqFlockS_same (rdN l) (flF l) g3 cap3 cs4 S4 g1 cap1 cs1 S1 (by omega) _ B3 B1) ?_
       intro w7 E6
       refine wv (.bool false) ?_
       refine wv (.bool false) ?_
       refine wv (.int .i64 0) ?_
       refine wv (.int .i64 0) ?_
       refine wvv (.bool (0 != 0)) (.bool false) (by simp) ?_
       refine wv (.bool false) ?_
       refine wpList_nil (then_normal ?_)
       refine wcf ?_
       refine wp_skip ?_
       refine then_normal ?_
       refine wsr ?_
       refine wv (.int .i64 1) ?_
       refine wpList_nil (then_normal ?_)
       refine wsr ?_
       refine wv (.slice (some ⟨g2, 0, none⟩) (rdN l) cap2) ?_
       refine wv (.int .i64 1) ?_
       replace B2 := (B2.ext E5).ext E6
       refine wcl (heldFlockS_any (rdN l) fm1 g2 cap2 cs3 S3 1 (by omega) (by omega) hm1 _ B2) ?_
       intro w8 E7
       refine wv (.int .i64 (1 + 6 * ((rdN l) : Int))) ?_
       refine wpList_nil (then_normal ?_)
       refine wp_frame (a' := ⟨#[.string (bs l), undef, .bool false, .slice (some ⟨g1, 0, none⟩) (rdN l) cap1, .int .i64 0, .slice (some ⟨g2, 0, none⟩) (rdN l) cap2, .int .i64 0, .int .i64 (1 + 6 * ((rdN l) : Int)), .int .i64 (1 + 6 * ((rdN l) : Int)), .slice (some ⟨g3, 0, none⟩) (rdN l) cap3, .int .i64 0, .string (bs l), .int .i64 (l.length : Int), .bool (decide (1048576 < (l.length : Int))), .tuple #[.slice (some ⟨g1, 0, none⟩) (rdN l) cap1, .int .i64 0], .string (bs l), .tuple #[.slice (some ⟨g1, 0, none⟩) (rdN l) cap1, .int .i64 0], .slice (some ⟨g1, 0, none⟩) (rdN l) cap1, .int .i64 0, .tuple #[.slice (some ⟨g2, 0, none⟩) (rdN l) cap2, .int .i64 0], .string (bs l), .tuple #[.slice (some ⟨g2, 0, none⟩) (rdN l) cap2, .int .i64 0], .slice (some ⟨g2, 0, none⟩) (rdN l) cap2, .int .i64 0, .slice (some ⟨g2, 0, none⟩) (rdN l) cap2, .slice (some ⟨g1, 0, none⟩) (rdN l) cap1, .bool true, .bool false, .bool false, .int .i64 0, .int .i64 0, .bool false, .bool false, .slice (some ⟨g2, 0, none⟩) (rdN l) cap2, .int .i64 1, .int .i64 (1 + 6 * ((rdN l) : Int)), .slice (some ⟨g2, 0, none⟩) (rdN l) cap2, .int .i64 1, .int .i64 (1 + 6 * ((rdN l) : Int)), .int .i64 (1 + 6 * ((rdN l) : Int)), .bool (decide ((1 + 6 * ((rdN l) : Int)) < 0)), .int .i64 (1 + 6 * ((rdN l) : Int)), .int .i64 (1 + 6 * ((rdN l) : Int)), .bool false, .tuple #[.slice (some ⟨g3, 0, none⟩) (rdN l) cap3, .int .i64 0], .string (bs l), .tuple #[.slice (some ⟨g3, 0, none⟩) (rdN l) cap3, .int .i64 0], .slice (some ⟨g3, 0, none⟩) (rdN l) cap3, .int .i64 0, .slice (some ⟨g3, 0, none⟩) (rdN l) cap3, .slice (some ⟨g1, 0, none⟩) (rdN l) cap1, .bool true, .bool false, .bool false, .int .i64 0, .int .i64 0, .bool false, .bool false, .slice (some ⟨g2, 0, none⟩) (rdN l) cap2, .int .i64 1, .int .i64 (1 + 6 * ((rdN l) : Int)), undef, undef, undef, undef, undef], []⟩) (by kernel_rfl) ?_
       refine wp_seq ?_
       refine wsr ?_
       refine wv (.int .i64 (1 + 6 * ((rdN l) : Int))) ?_
       refine wv (.bool (decide ((1 + 6 * ((rdN l) : Int)) < 0))) ?_
       refine wbl 62 false h3 ?_
       refine wpList_nil (then_normal ?_)
       refine wcf ?_
       refine wp_skip ?_
       refine then_normal ?_
       refine wp_seq ?_
       refine wsr ?_
       refine wv (.int .i64 (1 + 6 * ((rdN l) : Int))) ?_
       refine wv (.int .i64 (1 + 6 * ((rdN l) : Int))) ?_
       refine wvv (.bool ((1 + 6 * ((rdN l) : Int)) != (1 + 6 * ((rdN l) : Int)))) (.bool false) (by simp) ?_
       refine wpList_nil (then_normal ?_)
       refine wcf ?_
       refine wp_skip ?_
       refine then_normal ?_
       refine wsr ?_
       refine wv (.bool true) ?_
       refine wpList_nil (then_normal ?_)
       refine wp_ret ?_
       have H3 := ((H2.trans E5).trans E6).trans E7
       refine ret1 (.bool true) rfl ?_ rfl ?_
       · exact resT (by kernel_rfl)
       exact ⟨rfl, H3⟩
   · skip
     refine wclx (fun v_ w_ => ∃ g_ cap_, v_ = .tuple #[.slice (some ⟨g_, 0, none⟩) 0 cap_, .int .i64 5] ∧ Ext w w_) ((sReadFlocks_any l (by omega) _).mono fun _ _ h_ => h_.no h2) (fun e_ w_ ⟨g_, c_, h_, r_⟩ => ⟨_, h_, g_, c_, rfl, r_⟩) ?_
     rintro _ w9 ⟨g4, cap4, rfl, E8⟩
     refine wv (.tuple #[.slice (some ⟨g4, 0, none⟩) 0 cap4, .int .i64 5]) ?_
     refine wv (.slice (some ⟨g4, 0, none⟩) 0 cap4) ?_
     refine wv (.int .i64 5) ?_
     refine wv (.slice (some ⟨g4, 0, none⟩) 0 cap4) ?_
     refine wv (.int .i64 5) ?_
     refine wpList_nil (then_normal ?_)
     refine wsr ?_
     refine wv (.string (bs l)) ?_
     have H4 := (Ext.refl w).trans E8
     refine wcl ((iReadFlocks_any l (by omega) _ (TW.ext hT H4)).mono fun _ _ h_ => h_.no h2) ?_
     intro w10 E9
     refine wv (.tuple #[.slice none 0 0, .int .i64 5]) ?_
     refine wv (.slice none 0 0) ?_
     refine wv (.int .i64 5) ?_
     refine wv (.slice none 0 0) ?_
     refine wv (.int .i64 5) ?_
     refine wpList_nil (then_normal ?_)
     refine wp_seq ?_
     refine wsr ?_
     refine wv (.slice none 0 0) ?_
     refine wv (.slice (some ⟨g4, 0, none⟩) 0 cap4) ?_
     refine wcl (eqFlockS_nil g4 cap4 _) ?_
     intro w11 E10
     refine wv (.bool false) ?_
     refine wv (.bool false) ?_
     refine wv (.int .i64 5) ?_
     refine wv (.int .i64 5) ?_
     refine wvv (.bool (5 != 5)) (.bool false) (by simp) ?_
     refine wv (.bool false) ?_
     refine wpList_nil (then_normal ?_)
     refine wcf ?_
     refine wp_skip ?_
     refine then_normal ?_
     refine wsr ?_
     refine wv (.int .i64 1) ?_
     refine wpList_nil (then_normal ?_)
     refine wsr ?_
     refine wv (.slice none 0 0) ?_
     refine wv (.int .i64 1) ?_
     refine wcl (markFlockS_nil 1 _) ?_
     intro w12 E11
     refine wv (.int .i64 1) ?_
     refine wpList_nil (then_normal ?_)
     refine wp_frame (a' := ⟨#[.string (bs l), undef, .bool false, .slice (some ⟨g4, 0, none⟩) 0 cap4, .int .i64 5, .slice none 0 0, .int .i64 5, .int .i64 1, undef, undef, undef, .string (bs l), .int .i64 (l.length : Int), .bool (decide (1048576 < (l.length : Int))), .tuple #[.slice (some ⟨g4, 0, none⟩) 0 cap4, .int .i64 5], .string (bs l), .tuple #[.slice (some ⟨g4, 0, none⟩) 0 cap4, .int .i64 5], .slice (some ⟨g4, 0, none⟩) 0 cap4, .int .i64 5, .tuple #[.slice none 0 0, .int .i64 5], .string (bs l), .tuple #[.slice none 0 0, .int .i64 5], .slice none 0 0, .int .i64 5, .slice none 0 0, .slice (some ⟨g4, 0, none⟩) 0 cap4, .bool true, .bool false, .bool false, .int .i64 5, .int .i64 5, .bool false, .bool false, .slice none 0 0, .int .i64 1, .int .i64 1, undef, undef, undef, undef, undef, undef, undef, undef, undef, undef, undef, undef, undef, undef, undef, undef, undef, undef, undef, undef, undef, undef, undef, undef, undef, undef, undef, undef, undef, undef], []⟩) (by kernel_rfl) ?_
     refine wsr ?_
     refine wv (.int .i64 1) ?_
     refine wpList_nil (then_normal ?_)
     refine wsr ?_
     refine wv (.slice none 0 0) ?_
     refine wv (.int .i64 1) ?_
     refine wcl (heldFlockS_nil 1 _) ?_
     intro w13 E12
     refine wv (.int .i64 1) ?_
     refine wpList_nil (then_normal ?_)
     refine wp_seq ?_
     refine wsr ?_
     refine wv (.int .i64 1) ?_
     refine wv (.bool false) ?_
     refine wpList_nil (then_normal ?_)
     refine wcf ?_
     refine wp_skip ?_
     refine then_normal ?_
     refine wp_seq ?_
     refine wsr ?_
     refine wv (.int .i64 1) ?_
     refine wv (.int .i64 1) ?_
     refine wvv (.bool (1 != 1)) (.bool false) (by simp) ?_
     refine wpList_nil (then_normal ?_)
     refine wcf ?_
     refine wp_skip ?_
     refine then_normal ?_
     refine wsr ?_
     refine wv (.string (bs l)) ?_
     have H5 := (((H4.trans E9).trans E10).trans E11).trans E12
     refine wcl ((iReadFlocks_any l (by omega) _ (TW.ext hT H5)).mono fun _ _ h_ => h_.no h2) ?_
     intro w14 E13
     refine wv (.tuple #[.slice none 0 0, .int .i64 5]) ?_
     refine wv (.slice none 0 0) ?_
     refine wv (.int .i64 5) ?_
     refine wv (.slice none 0 0) ?_
     refine wv (.int .i64 5) ?_
     refine wpList_nil (then_normal ?_)
     refine wp_seq ?_
     refine wsr ?_
     refine wv (.slice none 0 0) ?_
     refine wv (.slice (some ⟨g4, 0, none⟩) 0 cap4) ?_
     refine wcl (eqFlockS_nil g4 cap4 _) ?_
     intro w15 E14
     refine wv (.bool false) ?_
     refine wv (.bool false) ?_
     refine wv (.int .i64 5) ?_
     refine wv (.int .i64 5) ?_
     refine wvv (.bool (5 != 5)) (.bool false) (by simp) ?_
     refine wv (.bool false) ?_
     refine wpList_nil (then_normal ?_)
     refine wcf ?_
     refine wp_skip ?_
     refine then_normal ?_
     refine wsr ?_
     refine wv (.int .i64 1) ?_
     refine wpList_nil (then_normal ?_)
     refine wsr ?_
     refine wv (.slice none 0 0) ?_
     refine wv (.int .i64 1) ?_
     refine wcl (heldFlockS_nil 1 _) ?_
     intro w16 E15
     refine wv (.int .i64 1) ?_
     refine wpList_nil (then_normal ?_)
     refine wp_frame (a' := ⟨#[.string (bs l), undef, .bool false, .slice (some ⟨g4, 0, none⟩) 0 cap4, .int .i64 5, .slice none 0 0, .int .i64 5, .int .i64 1, .int .i64 1, .slice none 0 0, .int .i64 5, .string (bs l), .int .i64 (l.length : Int), .bool (decide (1048576 < (l.length : Int))), .tuple #[.slice (some ⟨g4, 0, none⟩) 0 cap4, .int .i64 5], .string (bs l), .tuple #[.slice (some ⟨g4, 0, none⟩) 0 cap4, .int .i64 5], .slice (some ⟨g4, 0, none⟩) 0 cap4, .int .i64 5, .tuple #[.slice none 0 0, .int .i64 5], .string (bs l), .tuple #[.slice none 0 0, .int .i64 5], .slice none 0 0, .int .i64 5, .slice none 0 0, .slice (some ⟨g4, 0, none⟩) 0 cap4, .bool true, .bool false, .bool false, .int .i64 5, .int .i64 5, .bool false, .bool false, .slice none 0 0, .int .i64 1, .int .i64 1, .slice none 0 0, .int .i64 1, .int .i64 1, .int .i64 1, .bool false, .int .i64 1, .int .i64 1, .bool false, .tuple #[.slice none 0 0, .int .i64 5], .string (bs l), .tuple #[.slice none 0 0, .int .i64 5], .slice none 0 0, .int .i64 5, .slice none 0 0, .slice (some ⟨g4, 0, none⟩) 0 cap4, .bool true, .bool false, .bool false, .int .i64 5, .int .i64 5, .bool false, .bool false, .slice none 0 0, .int .i64 1, .int .i64 1, undef, undef, undef, undef, undef], []⟩) (by kernel_rfl) ?_
     refine wp_seq ?_
     refine wsr ?_
     refine wv (.int .i64 1) ?_
     refine wv (.bool false) ?_
     refine wpList_nil (then_normal ?_)
     refine wcf ?_
     refine wp_skip ?_
     refine then_normal ?_
     refine wp_seq ?_
     refine wsr ?_
     refine wv (.int .i64 1) ?_
     refine wv (.int .i64 1) ?_
     refine wvv (.bool (1 != 1)) (.bool false) (by simp) ?_
     refine wpList_nil (then_normal ?_)
     refine wcf ?_
     refine wp_skip ?_
     refine then_normal ?_
     refine wsr ?_
     refine wv (.bool true) ?_
     refine wpList_nil (then_normal ?_)
     refine wp_ret ?_
     have H6 := ((H5.trans E13).trans E14).trans E15
     refine ret1 (.bool true) rfl ?_ rfl ?_
     · exact resT (by kernel_rfl)
     exact ⟨rfl, H6⟩
end
--# row FnExactReadFlocks
set_option maxRecDepth 100000 in
theorem fnExactReadFlocks_lifted (os : Os) (started : os.Started) (H : Type) (enc : TypeId × Value → H) :
    ReturnsInHanded {} Tryd.checked os 6 .any (fun w args => (Rows.fnExactReadFlocksSpec.pre enc Tryd.prog Tryd.f6 Rows.fnExactReadFlocksRow.domain false w args ∧ laidMetH Tryd.prog Rows.fnExactReadFlocksRow.laid w) ∧ sizedMet enc Tryd.prog Tryd.f6 (OpenSpec.ofChange Rows.fnExactReadFlocksSpec) false w args) (Rows.fnExactReadFlocksSpec.post enc Tryd.prog Tryd.f6 false true false false) := by
  refine returns_and_shaped (C := Tryd.checked) (X := fun w _ => laidMetH Tryd.prog Rows.fnExactReadFlocksRow.laid w) (fun _ _ _ hh h => h.of_heap hh) ownKnob_none started (by kernel_rfl) Tryd.func6
    (ChangeSpec.witness_shaped (enc := enc) (C := Tryd.checked) (os := os) (X := fun w _ => laidMetH Tryd.prog Rows.fnExactReadFlocksRow.laid w) false (World.laidAll Tryd.prog os Rows.fnExactReadFlocksRow.laid) #[.string ⟨#[]⟩] 8 (World.laidAll_os _ _ _)
      (World.shaped_of_ZipB (by kernel_rfl) (by kernel_rfl)) (by kernel_rfl) (by kernel_rfl) (by kernel_rfl)
      (by rw [MakeChecks.laidMetH_plain _ _ _ (by kernel_rfl)]; exact laidMet_laidAll _ (by kernel_rfl) (by kernel_rfl))) ?_
  intro W base args ds gs before hval0 hW hL hsh
  have hval : ∀ (j : Nat) t v, Tryd.f6.params[j]? = some t → args[j]? = some v → Value.okWide Tryd.prog W .any base t v := hval0
  have hW' := hW
  obtain ⟨p, q, hA0, hV, rfl, hfz, hnd⟩ := hW
  have hA : DataW.TrodAll enc Tryd.prog W 0 (fun _ => true) true Tryd.f6.params.toList args.toList ds p := hA0
  rw [Tryd.params6] at hA hval
  rw [MakeChecks.laidMetH_plain _ _ _ (by kernel_rfl)] at hL
  have hT : TW W := tw_of hL hsh
  obtain ⟨v0, vs0, d0, ds0, p0, q0, hargs, rfl, rfl, h0, r0⟩ := trodAll_cons hA
  obtain ⟨rfl, rfl, rfl⟩ := trodAll_nil r0
  obtain rfl : args = #[v0] := by cases args; simp_all
  obtain ⟨rfl, rfl⟩ := trodVars_none hV
  have k0 := h0
  have lt0 : ∀ x ∈ p0, x.block < W.heap.size := by obtain ⟨m, hm⟩ := k0; exact DataW.trod_lt m _ _ _ hm
  obtain ⟨s0, rfl, _, _, _⟩ := open_string Tryd.underlying9 (hval 0 9 v0 rfl rfl) h0
  clear hA0 hval0
  refine (FnExactReadFlocks_walk s0.data.toList W hT).mono fun e W' ⟨he, hx⟩ => ?_
  have bel := hx.below
  subst he
  exact ⟨_, rfl, _, _, _, [], _, [], hW', trodAll_mk1 (shut_bool Tryd.underlying4 _), (trodAll_cons_mk (Below.trod laidOut_ (by kernel_rfl) (of_decide_eq_true (by kernel_rfl)) k0 bel lt0) trodAll_mk0), rfl, bel.frame _, fun h => by cases h⟩
theorem fnExactReadFlocks_row_holds : Rows.FnExactReadFlocksSaid :=
  OpenClaim.holds_of_wide 6 Tryd.f6 rfl rfl rfl rfl rfl rfl rfl ⟨rfl, rfl, rfl, rfl, rfl⟩ rfl rfl rfl rfl rfl (by kernel_rfl) Tryd.func6 (by kernel_rfl)
    (of_decide_eq_true (by kernel_rfl)) (by unfold Func.isWrapper; first | (rw [if_pos (by decide +kernel)]; kernel_rfl) | (rw [if_neg (by decide +kernel)]; exact ⟨rfl, rfl⟩))
    (fun os started H enc _ => fnExactReadFlocks_lifted os started H enc)
--# card FnExactReadFlocks
-- 6
theorem fnExactReadFlocks_holds : Rows.FnExactReadFlocksCardSaid :=
  Claim7.holds_tied_plain_at .later [] Rows.fnExactReadFlocksCard.laidKinds true Rows.fnExactReadFlocksCard.stood.harness true
    fnExactReadFlocks_row_holds (fun _ h => by cases h) (by kernel_rfl) (fun _ h => by cases h) fnExactReadFlocks_row_tie rfl ⟨rfl, rfl⟩ (by kernel_rfl) rfl
    (fun f fn hf hfn => by
      obtain rfl : f = 6 := Option.some.inj ((show Tryd.prog.funcNamed "loop.example/g01338/laws.FnExactReadFlocks" = some 6 by kernel_rfl).symm.trans hf) |>.symm
      obtain rfl : fn = Tryd.f6 := (Option.some.inj (Tryd.func6.symm.trans hfn)).symm
      exact ⟨by kernel_rfl, fun j t ht => by
        rw [Tryd.params6] at ht
        have hm : t ∈ [9] := by simpa using Array.mem_of_getElem? ht
        have hall : ([9].all fun u => !Tryd.prog.wantsStandIn u) = true := by kernel_rfl
        exact (show Tryd.prog.wantsStandIn t = false by simpa using List.all_eq_true.1 hall t hm)⟩)
    (by kernel_rfl)
end Go.Proofs.YteiplklloajjaaaDoor
