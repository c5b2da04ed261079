/-
  Contracts: fields as texts. Conditions: what the table of powers holds (TWt).
-/
import Derived.Test.YteiplklloajjaaaGreatDoorTy
import Derived.Test.YteiplklloajjaaaGreatDoorSl
import Derived.Test.YteiplklloajjaaaGreatDoorMth
import Derived.Test.YteiplklloajjaaaGreatDoorFn28
import Derived.Test.YteiplklloajjaaaGreatDoorFn5
import Derived.Test.YteiplklloajjaaaGreatDoorRf
import Derived.Test.YteiplklloajjaaaGreatDoorLb
namespace Go.Proofs.YteiplklloajjaaaGreatDoor
open Go.RowKit
set_option linter.unusedSimpArgs false
set_option linter.unusedVariables false
set_option maxHeartbeats 4000000
set_option maxRecDepth 100000
attribute [local irreducible] wpList Code.wp
--# sl bytes
theorem slt__uint8 : SlT Tryz.prog 22 5 1 1 (.int .u8 0) := ⟨Tryz.underlying22, by kernel_rfl, by kernel_rfl, by kernel_rfl, by decide⟩

--# row builder
theorem row_strings_Builder : RowT Tryz.prog 82 2 := ⟨_, Tryz.underlying82, rfl, by kernel_rfl⟩

--# iDecimal_any
theorem iDecimal_any (n : Int) (h0 : 0 ≤ n) (h9 : n ≤ 32767) (w : World) (hTt : TWt w) :
 Calls Tryz.prog 59 #[.int .i16 n] w fun e w' => e = .returned (.string (bs (Lib.decDigits n.toNat))) ∧ Ext w w' := by
 refine calls_of_wp Tryz.func59 rfl ?_
 refine wp_frame (a' := ⟨#[.int .i16 n, undef, undef, undef, undef, undef], []⟩) (by kernel_rfl) ?_
 refine wsr ?_
 refine wv (.string (bs ([] : List UInt8))) ?_
 refine wpList_nil (then_normal ?_)
 refine wsr ?_
 refine wv (.int .i16 n) ?_
 refine wi64 n ?_
 refine wcl (format_any n (by omega) _ (TWt.ext hTt (Ext.refl w))) ?_
 intro w1 E1
 refine wv (.string (bs (Lib.itoa n))) ?_
 refine wpList_nil (then_normal ?_)
 refine wp_ret ?_
 have H1 := (Ext.refl w).trans E1
 refine ret1 (.string (bs (Lib.decDigits n.toNat))) rfl ?_ rfl ?_
 · refine (resT (v := .string (bs (Lib.itoa n))) (by kernel_rfl)).trans ?_
   refine congrArg Value.string ?_
   first | exact congrArg bs (itoa_dec h0) | exact congrArg bs (itoa_dec h0).symm | exact itoa_dec h0 | exact (itoa_dec h0).symm
 exact ⟨rfl, H1⟩


--# ifieldText_any
theorem ifieldText_any (F : Fld) (hF : F.wf) (b : Nat) (t : TypeId) (hok : okB F = true) (w : World) (hb : Blk w b t F.cells) (hTt : TWt w) :
 Calls Tryz.prog 32 #[.pointer (some ⟨b, 0, none⟩)] w fun e w' => e = .returned (.string (bs (fieldT F))) ∧ Ext w w' := by
 have w1_ := hF.w1
 have w2_ := hF.w2
 have h1_ := hF.h1
 have h2_ := hF.h2
 have wh_ := ok_wh hok
 refine calls_of_wp Tryz.func32 rfl ?_
 refine wp_frame (a' := ⟨#[.pointer (some ⟨b, 0, none⟩), undef, undef, undef, undef, undef, undef, undef, undef, undef, undef, undef, undef, undef, undef, undef, undef, undef, undef, undef, undef, undef, undef, undef, undef, undef, undef, undef, undef, undef, undef, undef, undef, undef, undef, undef, undef, undef, undef, undef, undef, undef, undef, undef, undef, undef, undef, undef, undef, undef, undef, undef, undef, undef, undef, undef, undef, undef, undef, undef, undef, undef, undef, undef, undef, undef, undef, undef], []⟩) (by kernel_rfl) ?_
 refine wsr ?_
 refine wv (.string (bs ([] : List UInt8))) ?_
 refine wpList_nil (then_normal ?_)
 refine wsr ?_
 refine wv (.agg #[.pointer none, .slice none 0 0]) ?_
 refine wnew #[.pointer none, .slice none 0 0] Tryz.zeroValue82 rfl ?_
 intro g1 w1 B1 E1 hg_
 have q_b_g1 := Nat.ne_of_lt (Nat.lt_of_lt_of_le hb.lt hg_)
 have l_b_g1 := Nat.lt_of_lt_of_le hb.lt hg_
 have lo_g1 := Nat.le_trans ((Ext.refl w)).size hg_
 refine wput #[.pointer none, .slice none 0 0] row_strings_Builder B1 (by rfl) (by rfl) (by kernel_rfl) ?_
 intro w2 B1_ X1
 clear B1; have B1 := B1_; clear B1_
 replace B1 := Bld.new B1
 refine wpList_nil (then_normal ?_)
 refine wp_seq ?_
 refine wsr ?_
 refine wv (.pointer (some ⟨b, 0, none⟩)) ?_
 refine wv (.pointer (some ⟨b, 0, none⟩)) ?_
 refine wv (.pointer (some ⟨b, 1, none⟩)) ?_
 replace hb := X1.blk (hb.ext E1) q_b_g1
 refine wld b (1) scal_int8 (hb.get (Fld.get1 _)) ?_
 refine wi64 F.h ?_
 refine wv (.int .i64 0) ?_
 refine wpList_nil (then_normal ?_)
 refine wp_block ?_
 have H1 := X1.ext w lo_g1 ((Ext.refl w).trans E1)
 refine wp_loop_k (fun m1 a wl1 => ∃ (y : Nat), m1 = F.h.toNat - y ∧ y ≤ F.h.toNat ∧ Ext w wl1 ∧ Blk wl1 b t F.cells ∧ Bld wl1 g1 (fieldP F y) ∧ (∃ J1 : Nat → Value, a = ⟨#[.pointer (some ⟨b, 0, none⟩), undef, .string (bs ([] : List UInt8)), .pointer (some ⟨g1, 0, none⟩), J1 4, J1 5, J1 6, J1 7, .agg #[.pointer none, .slice none 0 0], .pointer (some ⟨b, 0, none⟩), .pointer (some ⟨b, 0, none⟩), .pointer (some ⟨b, 1, none⟩), .int .i8 F.h, .int .i64 F.h, .int .i64 (y : Int), J1 15, J1 16, J1 17, J1 18, J1 19, J1 20, J1 21, J1 22, J1 23, J1 24, J1 25, J1 26, J1 27, J1 28, J1 29, J1 30, J1 31, J1 32, J1 33, J1 34, J1 35, J1 36, J1 37, J1 38, J1 39, J1 40, J1 41, J1 42, J1 43, J1 44, J1 45, J1 46, J1 47, J1 48, J1 49, J1 50, J1 51, J1 52, J1 53, J1 54, J1 55, J1 56, J1 57, J1 58, J1 59, J1 60, J1 61, J1 62, J1 63, J1 64, J1 65, J1 66, undef], []⟩)) (F.h.toNat) ?_ ?_
 · refine ⟨0, rfl, ?_, H1, hb, B1, exJ (by kernel_rfl)⟩
   · omega
 intro m1 a wl1 hI
 obtain ⟨y, rfl, hi_, HL1, hb, B1, J1, rfl⟩ := hI
 refine wsr ?_
 refine wv (.bool (decide ((y : Int) < F.h))) ?_
 refine wpList_nil (then_normal ?_)
 refine wp_seq ?_
 refine wsplit (decide ((y : Int) < F.h)) (fun h1 => ?_) (fun h1 => ?_)
 · skip
   have h1d := dT h1
   refine wp_skip ?_
   refine then_normal ?_
   refine wp_seq ?_
   refine wp_block ?_
   refine wsr ?_
   refine wv (.int .i64 (y : Int)) ?_
   refine wv (.int .i64 (y : Int)) ?_
   refine wpList_nil (then_normal ?_)
   refine wsr ?_
   refine wbsl 0 #[] slt__string ?_
   intro g2 w3 B2 E2 hg_
   have q_b_g2 := Nat.ne_of_lt (Nat.lt_of_lt_of_le hb.lt hg_)
   have l_b_g2 := Nat.lt_of_lt_of_le hb.lt hg_
   have q_g1_g2 := Nat.ne_of_lt (Nat.lt_of_lt_of_le B1.lt hg_)
   have l_g1_g2 := Nat.lt_of_lt_of_le B1.lt hg_
   have lo_g2 := Nat.le_trans (HL1).size hg_
   have S1 : SlS #[] 0 0 [] := SlS.nil
   refine wv (.slice (some ⟨g2, 0, none⟩) 0 0) ?_
   refine wpList_nil (then_normal ?_)
   refine wp_seq ?_
   refine wsr ?_
   refine wv (.pointer (some ⟨b, 0, none⟩)) ?_
   refine wv (.pointer (some ⟨b, 0, none⟩)) ?_
   refine wv (.pointer (some ⟨b, 0, none⟩)) ?_
   replace hb := hb.ext E2
   refine wld b (0) scal_int8 (hb.get (Fld.get0 _)) ?_
   refine wi64 F.w ?_
   refine wv (.int .i64 0) ?_
   refine wpList_nil (then_normal ?_)
   refine wp_block ?_
   replace B1 := B1.ext E2
   have H2 := HL1.trans E2
   refine wp_loop_k (fun m2 a wl2 => ∃ (x : Nat) (go : Nat) (no : Nat) (capo : Nat) (cso : Array Value), m2 = F.w.toNat - x ∧ x ≤ F.w.toNat ∧ SlS cso no capo (rowC F y x) ∧ w.heap.size ≤ go ∧ b ≠ go ∧ g1 ≠ go ∧ Ext w wl2 ∧ Blk wl2 b t F.cells ∧ Bld wl2 g1 (fieldP F y) ∧ Blk wl2 go 9 cso ∧ (∃ J2 : Nat → Value, a = ⟨#[.pointer (some ⟨b, 0, none⟩), undef, .string (bs ([] : List UInt8)), .pointer (some ⟨g1, 0, none⟩), .int .i64 (y : Int), .slice (some ⟨go, 0, none⟩) no capo, J2 6, J2 7, .agg #[.pointer none, .slice none 0 0], .pointer (some ⟨b, 0, none⟩), .pointer (some ⟨b, 0, none⟩), .pointer (some ⟨b, 1, none⟩), .int .i8 F.h, .int .i64 F.h, .int .i64 (y : Int), .bool (decide ((y : Int) < F.h)), .int .i64 (y : Int), .slice (some ⟨g2, 0, none⟩) 0 0, .pointer (some ⟨b, 0, none⟩), .pointer (some ⟨b, 0, none⟩), .pointer (some ⟨b, 0, none⟩), .int .i8 F.w, .int .i64 F.w, .int .i64 (x : Int), J2 24, J2 25, J2 26, J2 27, J2 28, J2 29, J2 30, J2 31, J2 32, J2 33, J2 34, J2 35, J2 36, J2 37, J2 38, J2 39, J2 40, J2 41, J2 42, J2 43, J2 44, J2 45, J2 46, J2 47, J2 48, J2 49, J2 50, J2 51, J2 52, J2 53, J2 54, J2 55, J2 56, J2 57, J2 58, J2 59, J2 60, J2 61, J1 62, J1 63, J1 64, J1 65, J1 66, undef], []⟩)) (F.w.toNat) ?_ ?_
   · refine ⟨0, g2, 0, 0, #[], rfl, ?_, ?_, ?_, ?_, ?_, H2, hb, B1, B2, exJ (by kernel_rfl)⟩
     · omega
     · refine S1.of_eq ?_
       rfl
     · exact lo_g2
     · exact q_b_g2
     · exact q_g1_g2
   intro m2 a wl2 hI
   obtain ⟨x, go, no, capo, cso, rfl, hi_, So, lo_go, n_b_go, n_g1_go, HL2, hb, B1, Bo, J2, rfl⟩ := hI
   have rl_ := rowC_len (F := F) (y := y) (x := x)
   have len_So := So.len
   refine wsr ?_
   refine wv (.bool (decide ((x : Int) < F.w))) ?_
   refine wpList_nil (then_normal ?_)
   refine wp_seq ?_
   refine wsplit (decide ((x : Int) < F.w)) (fun h2 => ?_) (fun h2 => ?_)
   · skip
     have h2d := dT h2
     have cb_ := ok_cell hok (((x : Int) + 10 * (y : Int)).toNat) (by omega)
     refine wp_skip ?_
     refine then_normal ?_
     refine wp_seq ?_
     refine wp_block ?_
     refine wsr ?_
     refine wv (.int .i64 (x : Int)) ?_
     refine wv (.int .i64 (x : Int)) ?_
     refine wpList_nil (then_normal ?_)
     refine wsr ?_
     refine wv (.int .i64 (x : Int)) ?_
     refine wv (.int .i64 (y : Int)) ?_
     refine wi64 (10 * (y : Int)) ?_
     refine wi64 ((x : Int) + (10 * (y : Int))) ?_
     refine wv (.int .i64 ((x : Int) + (10 * (y : Int)))) ?_
     refine wpList_nil (then_normal ?_)
     refine wsr ?_
     refine wv (.pointer (some ⟨b, 0, none⟩)) ?_
     refine wv (.int .i64 ((x : Int) + (10 * (y : Int)))) ?_
     refine wv (.pointer (some ⟨b, 0, none⟩)) ?_
     refine wv (.pointer (some ⟨b, 2, none⟩)) ?_
     refine wix b 2 ((x : Int) + (10 * (y : Int))) .i64 arrt__100_uint8 ?_
     have ce1 := hF.k1 (((x : Int) + (10 * (y : Int))).toNat) (by omega)
     refine wld b (2 + ((x : Int) + (10 * (y : Int))).toNat) scal_uint8 (hb.get (Fld.getk _ _ (by omega))) ?_
     refine wpList_nil (then_normal ?_)
     refine wp_block ?_
     refine wsr ?_
     refine wv (.bool ((F.k (((x : Int) + (10 * (y : Int))).toNat)) == 0)) ?_
     refine wv (.bool ((F.k (((x : Int) + (10 * (y : Int))).toNat)) == 0)) ?_
     refine wpList_nil (then_normal ?_)
     refine wsplit ((F.k (((x : Int) + (10 * (y : Int))).toNat)) == 0) (fun h3 => ?_) (fun h3 => ?_)
     · skip
       have h3d := eT h3
       refine wp_region_lit ?_
       refine wv (.slice (some ⟨go, 0, none⟩) no capo) ?_
       refine wv (.pointer (some ⟨b, 0, none⟩)) ?_
       refine wv (.int .i64 ((x : Int) + (10 * (y : Int)))) ?_
       refine wv (.pointer (some ⟨b, 0, none⟩)) ?_
       refine wv (.pointer (some ⟨b, 102, none⟩)) ?_
       refine wix b 102 ((x : Int) + (10 * (y : Int))) .i64 arrt__100_int16 ?_
       have ce2 := hF.s1 (((x : Int) + (10 * (y : Int))).toNat) (by omega)
       refine wld b (102 + ((x : Int) + (10 * (y : Int))).toNat) scal_int16 (hb.get (Fld.gets _ _ (by omega))) ?_
       refine wcl (iDecimal_any (F.s (((x : Int) + (10 * (y : Int))).toNat)) (by omega) (by omega) _ (TWt.ext hTt HL2)) ?_
       intro w4 E3
       have H3 := HL2.trans E3
       replace hb := hb.ext E3
       replace B1 := B1.ext E3
       replace Bo := Bo.ext E3
       refine wbsl 1 #[.string (bs (Lib.decDigits (F.s (((x : Int) + (10 * (y : Int))).toNat)).toNat))] slt__string ?_
       intro g3 w5 B3 E4 hg_
       have q_b_g3 := Nat.ne_of_lt (Nat.lt_of_lt_of_le hb.lt hg_)
       have l_b_g3 := Nat.lt_of_lt_of_le hb.lt hg_
       have q_g1_g3 := Nat.ne_of_lt (Nat.lt_of_lt_of_le B1.lt hg_)
       have l_g1_g3 := Nat.lt_of_lt_of_le B1.lt hg_
       have q_go_g3 := Nat.ne_of_lt (Nat.lt_of_lt_of_le Bo.lt hg_)
       have l_go_g3 := Nat.lt_of_lt_of_le Bo.lt hg_
       have lo_g3 := Nat.le_trans (H3).size hg_
       replace hb := hb.ext E4
       replace B1 := B1.ext E4
       replace Bo := Bo.ext E4
       have H4 := H3.trans E4
       refine wapps (Lib.decDigits (F.s (((x : Int) + (10 * (y : Int))).toNat)).toNat) slt__string Bo So B3 ?_
       intro g4 cap1 cs1 w6 B4 S2 X2 or1
       have n_b_g4 := ne_app hb n_b_go or1
       have n_g1_g4 := ne_appL B1.lt n_g1_go or1
       have n_g3_g4 := ne_app B3 (Ne.symm q_go_g3) or1
       have lo_g4 := Wr.lo or1 lo_go (H4).size
       have t_X2 := NB.of Bo (by decide)
       refine wv (.slice (some ⟨g4, 0, none⟩) (no + 1) cap1) ?_
       refine wpList_nil (block_normal (block_normal (then_normal ?_)))
       refine wp_region_lit ?_
       refine wi64 ((x : Int) + 1) ?_
       refine wv (.int .i64 ((x : Int) + 1)) ?_
       refine wpList_nil (then_normal ?_)
       replace hb := X2.blk hb n_b_go
       replace B1 := X2.mld B1 n_g1_go t_X2
       have H5 := X2.ext w lo_go H4
       refine ⟨_, ?_, x + 1, g4, no + 1, cap1, cs1, rfl, ?_, ?_, ?_, ?_, ?_, H5, hb, B1, B4, exJ (by kernel_rfl)⟩
       · omega
       · omega
       · refine S2.of_eq ?_
         first | exact rc_a (cellT_0 (by assumption)) | exact rc_a (cellT_1 (by assumption)) | exact rc_a (cellT_2 (by assumption)) | exact rc_a (cellT_3 (by assumption) (by assumption) (by assumption))
       · exact lo_g4
       · exact n_b_g4
       · exact n_g1_g4
     · skip
       have h3d := eF h3
       refine wsr ?_
       refine wv (.bool ((F.k (((x : Int) + (10 * (y : Int))).toNat)) == 1)) ?_
       refine wv (.bool ((F.k (((x : Int) + (10 * (y : Int))).toNat)) == 1)) ?_
       refine wpList_nil (then_normal ?_)
       refine wsplit ((F.k (((x : Int) + (10 * (y : Int))).toNat)) == 1) (fun h4 => ?_) (fun h4 => ?_)
       · skip
         have h4d := eT h4
         refine wp_region_lit ?_
         refine wv (.slice (some ⟨go, 0, none⟩) no capo) ?_
         refine wbsl 1 #[.string (bs ([104]))] slt__string ?_
         intro g5 w7 B5 E5 hg_
         have q_b_g5 := Nat.ne_of_lt (Nat.lt_of_lt_of_le hb.lt hg_)
         have l_b_g5 := Nat.lt_of_lt_of_le hb.lt hg_
         have q_g1_g5 := Nat.ne_of_lt (Nat.lt_of_lt_of_le B1.lt hg_)
         have l_g1_g5 := Nat.lt_of_lt_of_le B1.lt hg_
         have q_go_g5 := Nat.ne_of_lt (Nat.lt_of_lt_of_le Bo.lt hg_)
         have l_go_g5 := Nat.lt_of_lt_of_le Bo.lt hg_
         have lo_g5 := Nat.le_trans (HL2).size hg_
         replace hb := hb.ext E5
         replace B1 := B1.ext E5
         replace Bo := Bo.ext E5
         have H6 := HL2.trans E5
         refine wapps ([104]) slt__string Bo So B5 ?_
         intro g6 cap2 cs2 w8 B6 S3 X3 or2
         have n_b_g6 := ne_app hb n_b_go or2
         have n_g1_g6 := ne_appL B1.lt n_g1_go or2
         have n_g5_g6 := ne_app B5 (Ne.symm q_go_g5) or2
         have lo_g6 := Wr.lo or2 lo_go (H6).size
         have t_X3 := NB.of Bo (by decide)
         refine wv (.slice (some ⟨g6, 0, none⟩) (no + 1) cap2) ?_
         refine wpList_nil (block_normal (block_normal (then_normal ?_)))
         refine wp_region_lit ?_
         refine wi64 ((x : Int) + 1) ?_
         refine wv (.int .i64 ((x : Int) + 1)) ?_
         refine wpList_nil (then_normal ?_)
         replace hb := X3.blk hb n_b_go
         replace B1 := X3.mld B1 n_g1_go t_X3
         have H7 := X3.ext w lo_go H6
         refine ⟨_, ?_, x + 1, g6, no + 1, cap2, cs2, rfl, ?_, ?_, ?_, ?_, ?_, H7, hb, B1, B6, exJ (by kernel_rfl)⟩
         · omega
         · omega
         · refine S3.of_eq ?_
           first | exact rc_a (cellT_0 (by assumption)) | exact rc_a (cellT_1 (by assumption)) | exact rc_a (cellT_2 (by assumption)) | exact rc_a (cellT_3 (by assumption) (by assumption) (by assumption))
         · exact lo_g6
         · exact n_b_g6
         · exact n_g1_g6
       · skip
         have h4d := eF h4
         refine wsr ?_
         refine wv (.bool ((F.k (((x : Int) + (10 * (y : Int))).toNat)) == 2)) ?_
         refine wv (.bool ((F.k (((x : Int) + (10 * (y : Int))).toNat)) == 2)) ?_
         refine wpList_nil (then_normal ?_)
         refine wsplit ((F.k (((x : Int) + (10 * (y : Int))).toNat)) == 2) (fun h5 => ?_) (fun h5 => ?_)
         · skip
           have h5d := eT h5
           refine wp_region_lit ?_
           refine wv (.slice (some ⟨go, 0, none⟩) no capo) ?_
           refine wbsl 1 #[.string (bs ([112]))] slt__string ?_
           intro g7 w9 B7 E6 hg_
           have q_b_g7 := Nat.ne_of_lt (Nat.lt_of_lt_of_le hb.lt hg_)
           have l_b_g7 := Nat.lt_of_lt_of_le hb.lt hg_
           have q_g1_g7 := Nat.ne_of_lt (Nat.lt_of_lt_of_le B1.lt hg_)
           have l_g1_g7 := Nat.lt_of_lt_of_le B1.lt hg_
           have q_go_g7 := Nat.ne_of_lt (Nat.lt_of_lt_of_le Bo.lt hg_)
           have l_go_g7 := Nat.lt_of_lt_of_le Bo.lt hg_
           have lo_g7 := Nat.le_trans (HL2).size hg_
           replace hb := hb.ext E6
           replace B1 := B1.ext E6
           replace Bo := Bo.ext E6
           have H8 := HL2.trans E6
           refine wapps ([112]) slt__string Bo So B7 ?_
           intro g8 cap3 cs3 w10 B8 S4 X4 or3
           have n_b_g8 := ne_app hb n_b_go or3
           have n_g1_g8 := ne_appL B1.lt n_g1_go or3
           have n_g7_g8 := ne_app B7 (Ne.symm q_go_g7) or3
           have lo_g8 := Wr.lo or3 lo_go (H8).size
           have t_X4 := NB.of Bo (by decide)
           refine wv (.slice (some ⟨g8, 0, none⟩) (no + 1) cap3) ?_
           refine wpList_nil (block_normal (block_normal (then_normal ?_)))
           refine wp_region_lit ?_
           refine wi64 ((x : Int) + 1) ?_
           refine wv (.int .i64 ((x : Int) + 1)) ?_
           refine wpList_nil (then_normal ?_)
           replace hb := X4.blk hb n_b_go
           replace B1 := X4.mld B1 n_g1_go t_X4
           have H9 := X4.ext w lo_go H8
           refine ⟨_, ?_, x + 1, g8, no + 1, cap3, cs3, rfl, ?_, ?_, ?_, ?_, ?_, H9, hb, B1, B8, exJ (by kernel_rfl)⟩
           · omega
           · omega
           · refine S4.of_eq ?_
             first | exact rc_a (cellT_0 (by assumption)) | exact rc_a (cellT_1 (by assumption)) | exact rc_a (cellT_2 (by assumption)) | exact rc_a (cellT_3 (by assumption) (by assumption) (by assumption))
           · exact lo_g8
           · exact n_b_g8
           · exact n_g1_g8
         · skip
           have h5d := eF h5
           refine wp_region_lit ?_
           refine wv (.slice (some ⟨go, 0, none⟩) no capo) ?_
           refine wbsl 1 #[.string (bs ([116]))] slt__string ?_
           intro g9 w11 B9 E7 hg_
           have q_b_g9 := Nat.ne_of_lt (Nat.lt_of_lt_of_le hb.lt hg_)
           have l_b_g9 := Nat.lt_of_lt_of_le hb.lt hg_
           have q_g1_g9 := Nat.ne_of_lt (Nat.lt_of_lt_of_le B1.lt hg_)
           have l_g1_g9 := Nat.lt_of_lt_of_le B1.lt hg_
           have q_go_g9 := Nat.ne_of_lt (Nat.lt_of_lt_of_le Bo.lt hg_)
           have l_go_g9 := Nat.lt_of_lt_of_le Bo.lt hg_
           have lo_g9 := Nat.le_trans (HL2).size hg_
           replace hb := hb.ext E7
           replace B1 := B1.ext E7
           replace Bo := Bo.ext E7
           have H10 := HL2.trans E7
           refine wapps ([116]) slt__string Bo So B9 ?_
           intro g10 cap4 cs4 w12 B10 S5 X5 or4
           have n_b_g10 := ne_app hb n_b_go or4
           have n_g1_g10 := ne_appL B1.lt n_g1_go or4
           have n_g9_g10 := ne_app B9 (Ne.symm q_go_g9) or4
           have lo_g10 := Wr.lo or4 lo_go (H10).size
           have t_X5 := NB.of Bo (by decide)
           refine wv (.slice (some ⟨g10, 0, none⟩) (no + 1) cap4) ?_
           refine wpList_nil (block_normal (block_normal (then_normal ?_)))
           refine wp_region_lit ?_
           refine wi64 ((x : Int) + 1) ?_
           refine wv (.int .i64 ((x : Int) + 1)) ?_
           refine wpList_nil (then_normal ?_)
           replace hb := X5.blk hb n_b_go
           replace B1 := X5.mld B1 n_g1_go t_X5
           have H11 := X5.ext w lo_go H10
           refine ⟨_, ?_, x + 1, g10, no + 1, cap4, cs4, rfl, ?_, ?_, ?_, ?_, ?_, H11, hb, B1, B10, exJ (by kernel_rfl)⟩
           · omega
           · omega
           · refine S5.of_eq ?_
             first | exact rc_a (cellT_0 (by assumption)) | exact rc_a (cellT_1 (by assumption)) | exact rc_a (cellT_2 (by assumption)) | exact rc_a (cellT_3 (by assumption) (by assumption) (by assumption))
           · exact lo_g10
           · exact n_b_g10
           · exact n_g1_g10
   · skip
     have h2d := dF h2
     refine wp_exit ?_
     refine then_exit ?_
     refine then_exit ?_
     refine block_exit ?_
     refine then_normal ?_
     refine wp_region_lit ?_
     refine wv (.slice (some ⟨go, 0, none⟩) no capo) ?_
     refine wcl (join_any (rowC F y x) 32 no go capo cso So (rowC_le (by omega)) (Nat.le_trans (glu_le hok (by omega) (by omega)) (by omega)) _ Bo) ?_
     intro w13 E8
     have gl_ := glu_le (F := F) (y := y) (x := x) hok (by omega) (by omega)
     refine waddS (gluL 32 (rowC F y x)) ([10]) ?_ (h1 := by first | omega | (simp only [List.length_append, List.length_cons, List.length_nil]; omega))
     replace B1 := B1.ext E8
     replace hb := hb.ext E8
     replace Bo := Bo.ext E8
     have H12 := HL2.trans E8
     refine wclx (fun v_ w_ => v_ = .tuple #[.int .i64 (((gluL 32 (rowC F y x)) ++ ([10])).length : Int), .nilIface] ∧ Bld w_ g1 ((fieldP F y) ++ ((gluL 32 (rowC F y x)) ++ ([10]))) ∧ Below g1 w13 w_) (bld_write (fieldP F y) ((gluL 32 (rowC F y x)) ++ ([10])) g1 (by have fl_ := fieldP_len hok y (by omega); simp only [List.length_append, List.length_cons, List.length_nil]; omega) _ B1) (fun e_ w_ ⟨h_, r_⟩ => ⟨_, h_, rfl, r_⟩) ?_
     rintro _ w14 ⟨rfl, B1_, E9⟩
     clear B1; have B1 := B1_; clear B1_
     replace hb := hb.low E9 l_b_g1
     have H13 := H12.low E9 lo_g1
     refine wpList_nil (block_normal (then_normal ?_))
     refine wp_region_lit ?_
     refine wi64 ((y : Int) + 1) ?_
     refine wv (.int .i64 ((y : Int) + 1)) ?_
     refine wpList_nil (then_normal ?_)
     refine ⟨_, ?_, y + 1, rfl, ?_, H13, hb, ?_, exJ (by kernel_rfl)⟩
     · omega
     · omega
     · have h_ := B1; rw [bl_c (by omega)] at h_; exact h_
 · skip
   have h1d := dF h1
   refine wp_exit ?_
   refine then_exit ?_
   refine then_exit ?_
   refine block_exit ?_
   refine then_normal ?_
   refine wsr ?_
   refine wclx (fun v_ w_ => v_ = .string (bs (fieldP F y)) ∧ Below g1 wl1 w_) (bld_str (fieldP F y) g1 _ B1) (fun e_ w_ ⟨h_, r_⟩ => ⟨_, h_, rfl, r_⟩) ?_
   rintro _ w15 ⟨rfl, E10⟩
   have H14 := HL1.low E10 lo_g1
   refine wv (.string (bs (fieldP F y))) ?_
   refine wpList_nil (then_normal ?_)
   refine wp_ret ?_
   refine ret1 (.string (bs (fieldT F))) rfl ?_ rfl ?_
   · refine (resT (v := .string (bs (fieldP F y))) (by kernel_rfl)).trans ?_
     refine congrArg Value.string ?_
     first | (rw [show y = F.h.toNat by omega]; rfl) | (exact congrArg bs (by rw [show y = F.h.toNat by omega]; rfl))
   exact ⟨rfl, H14⟩


--# ftT
/-- What both sides answer for a field. -/
def ftT (F : Fld) : List UInt8 := if okB F = true then fieldT F else []
theorem ftT_1 {F : Fld} (h : okB F = true) : ftT F = fieldT F := if_pos h
theorem ftT_0 {F : Fld} (h : okB F = false) : ftT F = [] := if_neg (by rw [h]; simp)

--# iFieldText_any
theorem iFieldText_any (F : Fld) (hF : F.wf) (w : World) (hTt : TWt w) :
 Calls Tryz.prog 8 #[.agg F.cells] w fun e w' => e = .returned (.string (bs (ftT F))) ∧ Ext w w' := by
 refine calls_of_wp Tryz.func8 rfl ?_
 refine wp_frame (a' := ⟨#[.agg F.cells, undef, undef, undef, undef, undef, undef], []⟩) (by kernel_rfl) ?_
 refine wsr ?_
 refine wbox F.cells ?_
 intro g1 w1 B1 E1 _
 refine wv (.string (bs ([] : List UInt8))) ?_
 refine wpList_nil (then_normal ?_)
 refine wp_seq ?_
 refine wsr ?_
 refine wrow row_impl_Field B1 (by exact Fld.size_cells _) ?_
 refine wcl (iValidField_any F hF _) ?_
 intro w2 E2
 refine wv (.bool (!(okB F))) ?_
 refine wpList_nil (then_normal ?_)
 have H1 := ((Ext.refl w).trans E1).trans E2
 refine wsplit (!(okB F)) (fun h1 => ?_) (fun h1 => ?_)
 · skip
   replace h1 := nbT h1
   refine wsr ?_
   refine wv (.string (bs ([] : List UInt8))) ?_
   refine wpList_nil (then_normal ?_)
   refine wp_ret ?_
   refine then_ret ?_
   refine ret1 (.string (bs (ftT F))) rfl ?_ rfl ?_
   · refine (resT (v := .string (bs ([] : List UInt8))) (by kernel_rfl)).trans ?_
     refine congrArg Value.string ?_
     first | exact congrArg bs (ftT_1 (by assumption)) | exact congrArg bs (ftT_0 (by assumption)) | exact congrArg bs (ftT_1 (by assumption)).symm | exact congrArg bs (ftT_0 (by assumption)).symm
   exact ⟨rfl, H1⟩
 · skip
   replace h1 := nbF h1
   refine wp_skip ?_
   refine then_normal ?_
   refine wsr ?_
   replace B1 := B1.ext E2
   refine wcl (ifieldText_any F hF g1 29 h1 _ B1 (TWt.ext hTt H1)) ?_
   intro w3 E3
   refine wv (.string (bs (fieldT F))) ?_
   refine wpList_nil (then_normal ?_)
   refine wp_ret ?_
   have H2 := H1.trans E3
   refine ret1 (.string (bs (ftT F))) rfl ?_ rfl ?_
   · refine (resT (v := .string (bs (fieldT F))) (by kernel_rfl)).trans ?_
     refine congrArg Value.string ?_
     first | exact congrArg bs (ftT_1 (by assumption)) | exact congrArg bs (ftT_0 (by assumption)) | exact congrArg bs (ftT_1 (by assumption)).symm | exact congrArg bs (ftT_0 (by assumption)).symm
   exact ⟨rfl, H2⟩


