/-
  Contracts: more functions. No conditions.
-/
import Derived.Test.YthiiampknelbjaaTy
import Derived.Test.YthiiampknelbjaaSl
import Derived.Test.YthiiampknelbjaaMth
import Derived.Test.YthiiampknelbjaaFn5
import Derived.Test.YthiiampknelbjaaMth2
namespace Go.Proofs.Ythiiampknelbjaa
open Go.RowKit
set_option linter.unusedSimpArgs false
set_option linter.unusedVariables false
set_option maxHeartbeats 4000000
set_option maxRecDepth 100000
attribute [local irreducible] wpList Code.wp
--# pin
theorem pin_1 {a b v : Int} (h : inB a 1 10 = false) : pin a b v = false := by unfold pin; rw [h]; rfl
theorem pin_2 {a b v : Int} (h : inB b 1 10 = false) : pin a b v = false := by unfold pin; rw [h, Bool.and_false]; rfl
theorem pin_3 {a b v : Int} (h : inB v 0 1000 = false) : pin a b v = false := by unfold pin; rw [h, Bool.and_false]
theorem pin_t {a b v : Int} (h : inB a 1 10 = true) (h2 : inB b 1 10 = true) (h3 : inB v 0 1000 = true) : pin a b v = true := by unfold pin; rw [h, h2, h3]; rfl


--# areFears_any
theorem areFears_any (F : Fld) (hF : F.wf) (b : Nat) (t : TypeId) (f : Nat → Int) (hf : ∀ i, i < 100 → -32768 ≤ f i ∧ f i ≤ 32767) (b2 : Nat) (t2 : TypeId) (w : World) (hb : Blk w b t F.cells) (hb2 : Blk w b2 t2 (arr 100 .i16 f)) :
 Calls Try.prog 88 #[.pointer (some ⟨b, 0, none⟩), .pointer (some ⟨b2, 0, none⟩)] w fun e w' => e = .returned (.bool (feaB F f)) ∧ Ext w w' := by
 refine calls_of_wp Try.func88 rfl ?_
 refine wp_frame (a' := ⟨#[.pointer (some ⟨b, 0, none⟩), .pointer (some ⟨b2, 0, none⟩), undef, undef, undef, undef, undef, undef, undef, undef, undef, undef, undef, undef, undef, undef, undef, undef, undef, undef, undef, undef, undef, undef, undef, undef, undef, undef, undef], []⟩) (by kernel_rfl) ?_
 refine wsr ?_
 refine wv (.bool false) ?_
 refine wpList_nil (then_normal ?_)
 refine wp_seq ?_
 refine wsr ?_
 refine wv (.pointer (some ⟨b2, 0, none⟩)) ?_
 refine wv (.int .i64 0) ?_
 refine wpList_nil (then_normal ?_)
 refine wp_block ?_
 refine wp_loop_k (fun m1 a wl1 => ∃ (i : Nat), m1 = 100 - i ∧ i ≤ 100 ∧ (∀ j, j < i → feaC F f j = true) ∧ Ext w wl1 ∧ Blk wl1 b t F.cells ∧ Blk wl1 b2 t2 (arr 100 .i16 f) ∧ (∃ J1 : Nat → Value, a = ⟨#[.pointer (some ⟨b, 0, none⟩), .pointer (some ⟨b2, 0, none⟩), undef, undef, J1 4, J1 5, J1 6, .pointer (some ⟨b2, 0, none⟩), .int .i64 (i : Int), J1 9, J1 10, J1 11, J1 12, J1 13, J1 14, J1 15, J1 16, J1 17, J1 18, J1 19, J1 20, J1 21, J1 22, J1 23, J1 24, J1 25, J1 26, J1 27, J1 28], []⟩)) (100) ?_ ?_
 · refine ⟨0, rfl, ?_, ?_, (Ext.refl w), hb, hb2, exJ (by kernel_rfl)⟩
   · omega
   · intro j hj; omega
 intro m1 a wl1 hI
 obtain ⟨i, rfl, hi_, hall, HL1, hb, hb2, J1, rfl⟩ := hI
 have hfi_ := hf i
 refine wsr ?_
 refine wv (.bool (decide ((i : Int) < 100))) ?_
 refine wpList_nil (then_normal ?_)
 refine wp_seq ?_
 refine wsplit (decide ((i : Int) < 100)) (fun h1 => ?_) (fun h1 => ?_)
 · skip
   have h1d := dT h1
   refine wp_skip ?_
   refine then_normal ?_
   refine wp_seq ?_
   refine wp_block ?_
   refine wp_seq ?_
   refine wp_frame (a' := ⟨#[.pointer (some ⟨b, 0, none⟩), .pointer (some ⟨b2, 0, none⟩), undef, undef, J1 4, J1 5, J1 6, .pointer (some ⟨b2, 0, none⟩), .int .i64 (i : Int), .bool (decide ((i : Int) < 100)), J1 10, J1 11, J1 12, J1 13, J1 14, J1 15, J1 16, J1 17, J1 18, J1 19, J1 20, J1 21, J1 22, J1 23, J1 24, J1 25, J1 26, J1 27, J1 28], []⟩) (by kernel_rfl) ?_
   refine region_go 6 [10, 11, 12, 13, 5, 6] [[], [], [1], [2], [0], [3]]
    (fun i_ => ([.val (.int .i64 (i : Int)), .val (.pointer (some ⟨b2, 0, none⟩)), .val (.pointer (some ⟨b2, 0 + i, none⟩)), .val (.int .i16 (f i)), .val (.int .i64 (i : Int)), .val (.int .i16 (f i))] : List Fct).getD i_ .any)
    (by kernel_rfl) (by kernel_rfl) (by decide) (by simp) rfl (all_succ (all_succ (all_succ (all_succ (all_succ (all_succ all_zero ?_) ?_) ?_) ?_) ?_) ?_) ?_
   · refine step0 rfl rfl rfl (fun wr hw => ?_)
     exact OpRun.val (.int .i64 (i : Int)) (.int .i64 (i : Int)) (by kernel_rfl) rfl ⟨Ext.refl _, rfl⟩
   · refine step0 rfl rfl rfl (fun wr hw => ?_)
     exact OpRun.val (.pointer (some ⟨b2, 0, none⟩)) (.pointer (some ⟨b2, 0, none⟩)) (by kernel_rfl) rfl ⟨Ext.refl _, rfl⟩
   · refine step1 rfl rfl rfl rfl (fun u0 wr hw h0 => ?_)
     cases h0
     exact OpRun.ixan (i := i) (k := .i64) (g := b2) (off := 0) arrt_impl_Fears rfl (by kernel_rfl) (by kernel_rfl) (by omega) ⟨Ext.refl _, rfl⟩
   · refine step1 rfl rfl rfl rfl (fun u0 wr hw h0 => ?_)
     cases h0
     exact OpRun.cell (g := b2) (off := 0 + i) (v := .int .i16 (f i)) scal_int16 rfl (by kernel_rfl) ((hb2.ext hw).get (get_arr0 (by omega))) ⟨Ext.refl _, rfl⟩
   · refine step1 rfl rfl rfl rfl (fun u0 wr hw h0 => ?_)
     cases h0
     exact OpRun.val (.int .i64 (i : Int)) (.int .i64 (i : Int)) (by kernel_rfl) rfl ⟨Ext.refl _, rfl⟩
   · refine step1 rfl rfl rfl rfl (fun u0 wr hw h0 => ?_)
     cases h0
     exact OpRun.val (.int .i16 (f i)) (.int .i16 (f i)) (by kernel_rfl) rfl ⟨Ext.refl _, rfl⟩
   refine end6 (fun u0 u1 u2 u3 u4 u5 w1 E1 f0 f1 f2 f3 f4 f5 => ?_)
   cases f0
   cases f1
   cases f2
   cases f3
   cases f4
   cases f5
   refine wpList_nil (then_normal ?_)
   refine wsr ?_
   refine wv (.int .i16 (f i)) ?_
   refine wi64 (f i) ?_
   refine wcl (within_any (f i) 0 1000 _) ?_
   intro w2 E2
   refine wv (.bool (!(inB (f i) 0 1000))) ?_
   refine wv (.bool (!(inB (f i) 0 1000))) ?_
   have H1 := (HL1.trans E1).trans E2
   refine split_bool (inB (f i) 0 1000) (fun h2 => ?_) (fun h2 => ?_)
   · skip
     refine wbl 18 false (bnT h2) ?_
     have h2d := inT h2
     refine wv (.pointer (some ⟨b, 0, none⟩)) ?_
     refine wv (.int .i64 (i : Int)) ?_
     replace hb := (hb.ext E1).ext E2
     refine wcl (has_any F hF b _ (i : Int) _ hb) ?_
     intro w3 E3
     refine wv (.bool (!(isB F (i : Int)))) ?_
     refine wv (.bool (!(isB F (i : Int)))) ?_
     refine split_bool (isB F (i : Int)) (fun h3 => ?_) (fun h3 => ?_)
     · skip
       refine wbl 23 false (bnT h3) ?_
       have h3d := isB_true.1 h3
       refine wsk ?_
       refine wsk ?_
       refine wv (.bool false) ?_
       refine wv (.bool false) ?_
       refine wpList_nil (then_normal ?_)
       refine wcf ?_
       refine wp_skip ?_
       refine block_normal (then_normal ?_)
       refine wp_region_lit ?_
       refine wi64 ((i : Int) + 1) ?_
       refine wv (.int .i64 ((i : Int) + 1)) ?_
       refine wpList_nil (then_normal ?_)
       replace hb := hb.ext E3
       replace hb2 := ((hb2.ext E1).ext E2).ext E3
       have H2 := H1.trans E3
       refine ⟨_, ?_, i + 1, rfl, ?_, ?_, H2, hb, hb2, exJ (by kernel_rfl)⟩
       · omega
       · omega
       · refine all_step hall ?_
         first | exact feaC_3 (by omega) (by assumption) | exact feaC_4 (by omega)
     · skip
       refine wbl 23 true (bnF h3) ?_
       refine wv (.int .i16 (f i)) ?_
       refine wv (.bool ((f i) != 0)) ?_
       refine wv (.bool ((f i) != 0)) ?_
       refine wv (.bool ((f i) != 0)) ?_
       refine wpList_nil (then_normal ?_)
       refine wsplit ((f i) != 0) (fun h4 => ?_) (fun h4 => ?_)
       · skip
         have h4d := nT h4
         refine wsr ?_
         refine wv (.bool false) ?_
         refine wpList_nil (then_normal ?_)
         refine wp_ret ?_
         refine block_ret (then_ret (then_ret (block_ret (then_ret ?_))))
         have H3 := H1.trans E3
         refine ret1 (.bool (feaB F f)) rfl ?_ rfl ?_
         · refine (resT (v := .bool false) (by kernel_rfl)).trans ?_
           refine congrArg Value.bool ?_
           first | exact (feaB_t (fun j hj => hall j (by omega))).symm | (refine (feaB_f i (by omega) ?_).symm; (first | exact feaC_1 (by omega) | exact feaC_2 (by assumption) (by omega)))
         exact ⟨rfl, H3⟩
       · skip
         have h4d := nF h4
         refine wp_skip ?_
         refine block_normal (then_normal ?_)
         refine wp_region_lit ?_
         refine wi64 ((i : Int) + 1) ?_
         refine wv (.int .i64 ((i : Int) + 1)) ?_
         refine wpList_nil (then_normal ?_)
         replace hb := hb.ext E3
         replace hb2 := ((hb2.ext E1).ext E2).ext E3
         have H4 := H1.trans E3
         refine ⟨_, ?_, i + 1, rfl, ?_, ?_, H4, hb, hb2, exJ (by kernel_rfl)⟩
         · omega
         · omega
         · refine all_step hall ?_
           first | exact feaC_3 (by omega) (by assumption) | exact feaC_4 (by omega)
   · skip
     refine wbl 18 true (bnF h2) ?_
     have h2d := inF h2
     refine wsk ?_
     refine wsk ?_
     refine wsk ?_
     refine wsk ?_
     refine wsk ?_
     refine wsk ?_
     refine wsk ?_
     refine wsk ?_
     refine wv (.bool true) ?_
     refine wpList_nil (then_normal ?_)
     refine wct ?_
     refine wsr ?_
     refine wv (.bool false) ?_
     refine wpList_nil (then_normal ?_)
     refine wp_ret ?_
     refine block_ret (then_ret (then_ret (block_ret (then_ret ?_))))
     refine ret1 (.bool (feaB F f)) rfl ?_ rfl ?_
     · refine (resT (v := .bool false) (by kernel_rfl)).trans ?_
       refine congrArg Value.bool ?_
       first | exact (feaB_t (fun j hj => hall j (by omega))).symm | (refine (feaB_f i (by omega) ?_).symm; (first | exact feaC_1 (by omega) | exact feaC_2 (by assumption) (by omega)))
     exact ⟨rfl, H1⟩
 · skip
   have h1d := dF h1
   refine wp_exit ?_
   refine then_exit ?_
   refine then_exit ?_
   refine block_exit ?_
   refine then_normal ?_
   refine wsr ?_
   refine wv (.bool true) ?_
   refine wpList_nil (then_normal ?_)
   refine wp_ret ?_
   refine ret1 (.bool (feaB F f)) rfl ?_ rfl ?_
   · refine (resT (v := .bool true) (by kernel_rfl)).trans ?_
     refine congrArg Value.bool ?_
     first | exact (feaB_t (fun j hj => hall j (by omega))).symm | (refine (feaB_f i (by omega) ?_).symm; (first | exact feaC_1 (by omega) | exact feaC_2 (by assumption) (by omega)))
   exact ⟨rfl, HL1⟩


--# l02Fears_any
theorem l02Fears_any (F : Fld) (hF : F.wf) (b : Nat) (t : TypeId) (f : Nat → Int) (hf : ∀ i, i < 100 → -32768 ≤ f i ∧ f i ≤ 32767) (b2 : Nat) (t2 : TypeId) (w : World) (hb : Blk w b t F.cells) (hb2 : Blk w b2 t2 (arr 100 .i16 f)) :
 Calls Try.prog 87 #[.pointer (some ⟨b, 0, none⟩), .pointer (some ⟨b2, 0, none⟩)] w fun e w' => e = .returned (.bool (okB F && feaB F f)) ∧ Ext w w' := by
 refine calls_of_wp Try.func87 rfl ?_
 refine wp_frame (a' := ⟨#[.pointer (some ⟨b, 0, none⟩), .pointer (some ⟨b2, 0, none⟩), undef, undef, undef, undef, undef, undef, undef, undef, undef, undef, undef, undef, undef, undef, undef, undef, undef, undef, undef, undef, undef, undef, undef, undef, undef, undef, undef, undef, undef, undef, undef, undef, undef, undef, undef, undef], []⟩) (by kernel_rfl) ?_
 refine wsr ?_
 refine wv (.bool false) ?_
 refine wpList_nil (then_normal ?_)
 refine wp_seq ?_
 refine wsr ?_
 refine wv (.pointer (some ⟨b, 0, none⟩)) ?_
 refine wcl (l01Ok_any F hF b _ _ hb) ?_
 intro w1 E1
 refine wv (.bool (!(okB F))) ?_
 refine wpList_nil (then_normal ?_)
 refine wsplit (!(okB F)) (fun h1 => ?_) (fun h1 => ?_)
 · skip
   replace h1 := nbT h1
   refine wsr ?_
   refine wv (.bool false) ?_
   refine wpList_nil (then_normal ?_)
   refine wp_ret ?_
   refine then_ret ?_
   have H1 := (Ext.refl w).trans E1
   refine ret1 (.bool (okB F && feaB F f)) rfl ?_ rfl ?_
   · refine (resT (v := .bool false) (by kernel_rfl)).trans ?_
     refine congrArg Value.bool ?_
     first | (rw [show okB F = false by assumption]; rfl) | (rw [show okB F = true by assumption, feaB_t (fun j hj => hall j (by omega))]; rfl) | (rw [feaB_f i (by omega) (by first | exact feaC_1 (by omega) | exact feaC_2 (by assumption) (by omega)), Bool.and_false])
   exact ⟨rfl, H1⟩
 · skip
   replace h1 := nbF h1
   refine wp_skip ?_
   refine then_normal ?_
   refine wp_seq ?_
   refine wsr ?_
   refine wv (.int .i64 0) ?_
   refine wpList_nil (then_normal ?_)
   refine wp_block ?_
   replace hb := hb.ext E1
   replace hb2 := hb2.ext E1
   have H2 := (Ext.refl w).trans E1
   refine wp_loop_k (fun m1 a wl1 => ∃ (i : Nat), m1 = 100 - i ∧ i ≤ 100 ∧ (∀ j, j < i → feaC F f j = true) ∧ Ext w wl1 ∧ Blk wl1 b t F.cells ∧ Blk wl1 b2 t2 (arr 100 .i16 f) ∧ (∃ J1 : Nat → Value, a = ⟨#[.pointer (some ⟨b, 0, none⟩), .pointer (some ⟨b2, 0, none⟩), undef, undef, J1 4, .int .i64 (i : Int), J1 6, .pointer (some ⟨b, 0, none⟩), .bool (okB F), .bool (!(okB F)), J1 10, J1 11, J1 12, J1 13, J1 14, J1 15, J1 16, J1 17, J1 18, J1 19, J1 20, J1 21, J1 22, J1 23, J1 24, J1 25, J1 26, J1 27, J1 28, J1 29, J1 30, J1 31, J1 32, J1 33, J1 34, J1 35, J1 36, J1 37], []⟩)) (100) ?_ ?_
   · refine ⟨0, rfl, ?_, ?_, H2, hb, hb2, exJ (by kernel_rfl)⟩
     · omega
     · intro j hj; omega
   intro m1 a wl1 hI
   obtain ⟨i, rfl, hi_, hall, HL1, hb, hb2, J1, rfl⟩ := hI
   have hfi_ := hf i
   refine wp_seq ?_
   refine wsr ?_
   refine wv (.int .i64 (i : Int)) ?_
   refine wv (.bool (decide ((i : Int) < 100))) ?_
   refine wpList_nil (then_normal ?_)
   refine wsplit (decide ((i : Int) < 100)) (fun h2 => ?_) (fun h2 => ?_)
   · skip
     have h2d := dT h2
     refine wp_skip ?_
     refine then_normal ?_
     refine wp_seq ?_
     refine wp_block ?_
     refine wsr ?_
     refine wv (.pointer (some ⟨b2, 0, none⟩)) ?_
     refine wv (.int .i64 (i : Int)) ?_
     refine wv (.pointer (some ⟨b2, 0, none⟩)) ?_
     refine wixn b2 0 i .i64 arrt_impl_Fears ?_
     refine wld b2 (0 + i) scal_int16 (hb2.get (get_arr0 (by omega))) ?_
     refine wi64 (f i) ?_
     refine wv (.int .i64 (f i)) ?_
     refine wpList_nil (then_normal ?_)
     refine wsr ?_
     refine wv (.pointer (some ⟨b, 0, none⟩)) ?_
     refine wv (.int .i64 (i : Int)) ?_
     refine wcl (l01Is_any F hF b _ (i : Int) _ hb) ?_
     intro w2 E2
     refine wv (.bool (isB F (i : Int))) ?_
     refine split_bool (isB F (i : Int)) (fun h3 => ?_) (fun h3 => ?_)
     · skip
       refine wbl 23 true h3 ?_
       have h3d := isB_true.1 h3
       refine wv (.int .i64 (f i)) ?_
       refine wcl (l00In_any (f i) 0 1000 _) ?_
       intro w3 E3
       refine wv (.bool (!(inB (f i) 0 1000))) ?_
       refine wv (.bool (!(inB (f i) 0 1000))) ?_
       refine wv (.bool (!(inB (f i) 0 1000))) ?_
       have H3 := (HL1.trans E2).trans E3
       refine split_bool (inB (f i) 0 1000) (fun h4 => ?_) (fun h4 => ?_)
       · skip
         refine wbl 28 false (bnT h4) ?_
         have h4d := inT h4
         refine wv (.pointer (some ⟨b, 0, none⟩)) ?_
         refine wv (.int .i64 (i : Int)) ?_
         replace hb := (hb.ext E2).ext E3
         refine wcl (l01Is_any F hF b _ (i : Int) _ hb) ?_
         intro w4 E4
         refine wbl 31 true h3 ?_
         refine wv (.bool false) ?_
         refine wv (.bool false) ?_
         refine wsk ?_
         refine wsk ?_
         refine wv (.bool false) ?_
         refine wv (.bool false) ?_
         refine wpList_nil (then_normal ?_)
         refine wcf ?_
         refine wp_skip ?_
         refine block_normal (then_normal ?_)
         refine wp_region_lit ?_
         refine wv (.int .i64 (i : Int)) ?_
         refine wi64 ((i : Int) + 1) ?_
         refine wv (.int .i64 ((i : Int) + 1)) ?_
         refine wpList_nil (then_normal ?_)
         replace hb := hb.ext E4
         replace hb2 := ((hb2.ext E2).ext E3).ext E4
         have H4 := H3.trans E4
         refine ⟨_, ?_, i + 1, rfl, ?_, ?_, H4, hb, hb2, exJ (by kernel_rfl)⟩
         · omega
         · omega
         · refine all_step hall ?_
           first | exact feaC_3 (by omega) (by assumption) | exact feaC_4 (by omega)
       · skip
         refine wbl 28 true (bnF h4) ?_
         have h4d := inF h4
         refine wsk ?_
         refine wsk ?_
         refine wsk ?_
         refine wsk ?_
         refine wsk ?_
         refine wsk ?_
         refine wsk ?_
         refine wsk ?_
         refine wv (.bool true) ?_
         refine wpList_nil (then_normal ?_)
         refine wct ?_
         refine wsr ?_
         refine wv (.bool false) ?_
         refine wpList_nil (then_normal ?_)
         refine wp_ret ?_
         refine block_ret (then_ret (then_ret (block_ret (then_ret ?_))))
         refine ret1 (.bool (okB F && feaB F f)) rfl ?_ rfl ?_
         · refine (resT (v := .bool false) (by kernel_rfl)).trans ?_
           refine congrArg Value.bool ?_
           first | (rw [show okB F = false by assumption]; rfl) | (rw [show okB F = true by assumption, feaB_t (fun j hj => hall j (by omega))]; rfl) | (rw [feaB_f i (by omega) (by first | exact feaC_1 (by omega) | exact feaC_2 (by assumption) (by omega)), Bool.and_false])
         exact ⟨rfl, H3⟩
     · skip
       refine wbl 23 false h3 ?_
       refine wsk ?_
       refine wsk ?_
       refine wsk ?_
       refine wv (.bool false) ?_
       refine wv (.bool false) ?_
       refine wv (.pointer (some ⟨b, 0, none⟩)) ?_
       refine wv (.int .i64 (i : Int)) ?_
       replace hb := hb.ext E2
       refine wcl (l01Is_any F hF b _ (i : Int) _ hb) ?_
       intro w5 E5
       refine wbl 31 false h3 ?_
       refine wv (.bool true) ?_
       refine wv (.bool true) ?_
       refine wv (.int .i64 (f i)) ?_
       refine wv (.bool ((f i) != 0)) ?_
       refine wv (.bool ((f i) != 0)) ?_
       refine wv (.bool ((f i) != 0)) ?_
       refine wpList_nil (then_normal ?_)
       have H5 := (HL1.trans E2).trans E5
       refine wsplit ((f i) != 0) (fun h5 => ?_) (fun h5 => ?_)
       · skip
         have h5d := nT h5
         refine wsr ?_
         refine wv (.bool false) ?_
         refine wpList_nil (then_normal ?_)
         refine wp_ret ?_
         refine block_ret (then_ret (then_ret (block_ret (then_ret ?_))))
         refine ret1 (.bool (okB F && feaB F f)) rfl ?_ rfl ?_
         · refine (resT (v := .bool false) (by kernel_rfl)).trans ?_
           refine congrArg Value.bool ?_
           first | (rw [show okB F = false by assumption]; rfl) | (rw [show okB F = true by assumption, feaB_t (fun j hj => hall j (by omega))]; rfl) | (rw [feaB_f i (by omega) (by first | exact feaC_1 (by omega) | exact feaC_2 (by assumption) (by omega)), Bool.and_false])
         exact ⟨rfl, H5⟩
       · skip
         have h5d := nF h5
         refine wp_skip ?_
         refine block_normal (then_normal ?_)
         refine wp_region_lit ?_
         refine wv (.int .i64 (i : Int)) ?_
         refine wi64 ((i : Int) + 1) ?_
         refine wv (.int .i64 ((i : Int) + 1)) ?_
         refine wpList_nil (then_normal ?_)
         replace hb := hb.ext E5
         replace hb2 := (hb2.ext E2).ext E5
         refine ⟨_, ?_, i + 1, rfl, ?_, ?_, H5, hb, hb2, exJ (by kernel_rfl)⟩
         · omega
         · omega
         · refine all_step hall ?_
           first | exact feaC_3 (by omega) (by assumption) | exact feaC_4 (by omega)
   · skip
     have h2d := dF h2
     refine wp_exit ?_
     refine then_exit ?_
     refine then_exit ?_
     refine block_exit ?_
     refine then_normal ?_
     refine wsr ?_
     refine wv (.bool true) ?_
     refine wpList_nil (then_normal ?_)
     refine wp_ret ?_
     refine ret1 (.bool (okB F && feaB F f)) rfl ?_ rfl ?_
     · refine (resT (v := .bool true) (by kernel_rfl)).trans ?_
       refine congrArg Value.bool ?_
       first | (rw [show okB F = false by assumption]; rfl) | (rw [show okB F = true by assumption, feaB_t (fun j hj => hall j (by omega))]; rfl) | (rw [feaB_f i (by omega) (by first | exact feaC_1 (by omega) | exact feaC_2 (by assumption) (by omega)), Bool.and_false])
     exact ⟨rfl, HL1⟩


--# sValidFears_any
theorem sValidFears_any (F : Fld) (hF : F.wf) (f : Nat → Int) (hf : ∀ i, i < 100 → -32768 ≤ f i ∧ f i ≤ 32767) (w : World) :
 Calls Try.prog 34 #[.agg F.cells, .agg (arr 100 .i16 f)] w fun e w' => e = .returned (.bool (okB F && feaB F f)) ∧ Ext w w' := by
 refine calls_of_wp Try.func34 rfl ?_
 refine wp_frame (a' := ⟨#[.agg F.cells, .agg (arr 100 .i16 f), undef, undef, undef, undef], []⟩) (by kernel_rfl) ?_
 refine wsr ?_
 refine wbox F.cells ?_
 intro g1 w1 B1 E1 _
 refine wbox (arr 100 .i16 f) ?_
 intro g2 w2 B2 E2 _
 refine wv (.bool false) ?_
 refine wpList_nil (then_normal ?_)
 refine wsr ?_
 replace B1 := B1.ext E2
 refine wcl (l02Fears_any F hF g1 _ f hf g2 _ _ B1 B2) ?_
 intro w3 E3
 refine wv (.bool (okB F && feaB F f)) ?_
 refine wpList_nil (then_normal ?_)
 refine wp_ret ?_
 have H1 := (((Ext.refl w).trans E1).trans E2).trans E3
 refine ret1 (.bool (okB F && feaB F f)) rfl ?_ rfl ?_
 · exact resT (by kernel_rfl)
 exact ⟨rfl, H1⟩


--# iValidFears_any
theorem iValidFears_any (F : Fld) (hF : F.wf) (f : Nat → Int) (hf : ∀ i, i < 100 → -32768 ≤ f i ∧ f i ≤ 32767) (w : World) :
 Calls Try.prog 36 #[.agg F.cells, .agg (arr 100 .i16 f)] w fun e w' => e = .returned (.bool (okB F && feaB F f)) ∧ Ext w w' := by
 refine calls_of_wp Try.func36 rfl ?_
 refine wp_frame (a' := ⟨#[.agg F.cells, .agg (arr 100 .i16 f), undef, undef, undef, undef, undef, undef, undef, undef], []⟩) (by kernel_rfl) ?_
 refine wsr ?_
 refine wbox F.cells ?_
 intro g1 w1 B1 E1 _
 refine wbox (arr 100 .i16 f) ?_
 intro g2 w2 B2 E2 _
 refine wv (.bool false) ?_
 refine wpList_nil (then_normal ?_)
 refine wsr ?_
 replace B1 := B1.ext E2
 refine wrow row_impl_Field B1 (by exact Fld.size_cells _) ?_
 refine wcl (iValidField_any F hF _) ?_
 intro w3 E3
 refine wv (.bool (okB F)) ?_
 have H1 := (((Ext.refl w).trans E1).trans E2).trans E3
 refine split_bool (okB F) (fun h1 => ?_) (fun h1 => ?_)
 · skip
   refine wbl 7 true h1 ?_
   replace B1 := B1.ext E3
   replace B2 := B2.ext E3
   refine wcl (areFears_any F hF g1 _ f hf g2 _ _ B1 B2) ?_
   intro w4 E4
   refine wv (.bool (feaB F f)) ?_
   refine wv (.bool (feaB F f)) ?_
   refine wpList_nil (then_normal ?_)
   refine wp_ret ?_
   have H2 := H1.trans E4
   refine ret1 (.bool (okB F && feaB F f)) rfl ?_ rfl ?_
   · refine (resT (v := .bool (feaB F f)) (by kernel_rfl)).trans ?_
     refine congrArg Value.bool ?_
     simp [*]
   exact ⟨rfl, H2⟩
 · skip
   refine wbl 7 false h1 ?_
   refine wsk ?_
   refine wv (.bool false) ?_
   refine wv (.bool false) ?_
   refine wpList_nil (then_normal ?_)
   refine wp_ret ?_
   refine ret1 (.bool (okB F && feaB F f)) rfl ?_ rfl ?_
   · refine (resT (v := .bool false) (by kernel_rfl)).trans ?_
     refine congrArg Value.bool ?_
     simp [*]
   exact ⟨rfl, H1⟩


--# neighbours_any
theorem neighbours_any (F : Fld) (hF : F.wf) (b : Nat) (t : TypeId) (c : Int) (hc : 0 ≤ c ∧ c ≤ 99) (w : World) (hb : Blk w b t F.cells) :
 Calls Try.prog 81 #[.pointer (some ⟨b, 0, none⟩), .int .i64 c] w fun e w' => RetI w 2 .i64 (nbL F c) id e w' := by
 refine calls_of_wp Try.func81 rfl ?_
 refine wp_frame (a' := ⟨#[.pointer (some ⟨b, 0, none⟩), .int .i64 c, undef, undef, undef, undef, undef, undef, undef, undef, undef, undef, undef, undef, undef, undef, undef, undef, undef, undef, undef, undef, undef, undef, undef, undef, undef, undef, undef, undef, undef, undef, undef, undef, undef, undef, undef, undef, undef, undef, undef, undef, undef, undef, undef, undef], []⟩) (by kernel_rfl) ?_
 refine wsr ?_
 refine wv (.slice none 0 0) ?_
 refine wpList_nil (then_normal ?_)
 refine wsr ?_
 refine wbsl 0 #[] slt__int64 ?_
 intro g1 w1 B1 E1 hg_
 have q_b_g1 := Nat.ne_of_lt (Nat.lt_of_lt_of_le hb.lt hg_)
 have lo_g1 := Nat.le_trans ((Ext.refl w)).size hg_
 have S1 : SlI #[] 0 0 .i64 [] := SlI.nil
 refine wv (.slice (some ⟨g1, 0, none⟩) 0 0) ?_
 refine wpList_nil (then_normal ?_)
 refine wsr ?_
 refine wv (.int .i64 c) ?_
 refine wrem c 10 ?_
 refine wv (.int .i64 (c % 10)) ?_
 refine wpList_nil (then_normal ?_)
 refine wp_seq ?_
 refine wsr ?_
 refine wvv (.agg #[.int .i64 (-10), .int .i64 (-1), .int .i64 1, .int .i64 10]) (.agg (arr 4 .i64 (listF4 (-10) (-1) 1 10))) (congrArg Value.agg (arr4 _ _ _ _ _)) ?_
 refine wv (.int .i64 0) ?_
 refine wpList_nil (then_normal ?_)
 refine wp_block ?_
 replace hb := hb.ext E1
 have H1 := (Ext.refl w).trans E1
 refine wp_loop_k (fun m1 a wl1 => ∃ (i : Nat) (go : Nat) (no : Nat) (capo : Nat) (cso : Array Value), m1 = 4 - i ∧ i ≤ 4 ∧ SlI cso no capo .i64 (nbN F c i) ∧ w.heap.size ≤ go ∧ b ≠ go ∧ Ext w wl1 ∧ Blk wl1 b t F.cells ∧ Blk wl1 go 2 cso ∧ (∃ J1 : Nat → Value, a = ⟨#[.pointer (some ⟨b, 0, none⟩), .int .i64 c, undef, undef, .slice none 0 0, .slice (some ⟨go, 0, none⟩) no capo, .int .i64 (c % 10), undef, J1 8, .slice (some ⟨g1, 0, none⟩) 0 0, .int .i64 c, .int .i64 (c % 10), .agg (arr 4 .i64 (listF4 (-10) (-1) 1 10)), .int .i64 (i : Int), J1 14, J1 15, J1 16, J1 17, J1 18, J1 19, J1 20, J1 21, J1 22, J1 23, J1 24, J1 25, J1 26, J1 27, J1 28, J1 29, J1 30, J1 31, J1 32, J1 33, J1 34, J1 35, J1 36, J1 37, J1 38, J1 39, J1 40, J1 41, J1 42, J1 43, J1 44, undef], []⟩)) (4) ?_ ?_
 · refine ⟨0, g1, 0, 0, #[], rfl, ?_, ?_, ?_, ?_, H1, hb, B1, exJ (by kernel_rfl)⟩
   · omega
   · refine S1.of_eq ?_
     exact (nbN_0 F c).symm
   · exact lo_g1
   · exact q_b_g1
 intro m1 a wl1 hI
 obtain ⟨i, go, no, capo, cso, rfl, hi_, So, lo_go, n_b_go, HL1, hb, Bo, J1, rfl⟩ := hI
 have lf_ := listF4_in (a := -10) (b := -1) (c := 1) (d := 10) (i := i)
 have nl_ := nbN_length F c i
 have len_So := So.len
 refine wsr ?_
 refine wv (.bool (decide ((i : Int) < 4))) ?_
 refine wpList_nil (then_normal ?_)
 refine wp_seq ?_
 refine wsplit (decide ((i : Int) < 4)) (fun h1 => ?_) (fun h1 => ?_)
 · skip
   have h1d := dT h1
   refine wp_skip ?_
   refine then_normal ?_
   refine wp_seq ?_
   refine wp_block ?_
   refine wsr ?_
   refine widx (ik := .i64) (f := (listF4 (-10) (-1) 1 10)) i .i64 arre__4_int64 ⟨_, _, rfl, by kernel_rfl, by kernel_rfl⟩ ?_
   refine wv (.int .i64 ((listF4 (-10) (-1) 1 10) i)) ?_
   refine wpList_nil (then_normal ?_)
   refine wp_seq ?_
   refine wsr ?_
   refine wv (.int .i64 ((listF4 (-10) (-1) 1 10) i)) ?_
   refine wv (.bool (((listF4 (-10) (-1) 1 10) i) == (-1))) ?_
   refine wv (.bool (((listF4 (-10) (-1) 1 10) i) == (-1))) ?_
   refine split_bool (((listF4 (-10) (-1) 1 10) i) == (-1)) (fun h2 => ?_) (fun h2 => ?_)
   · skip
     refine wbl 18 true h2 ?_
     have h2d := eT h2
     refine wv (.int .i64 (c % 10)) ?_
     refine wv (.bool ((c % 10) == 0)) ?_
     refine wv (.bool ((c % 10) == 0)) ?_
     refine wv (.bool ((c % 10) == 0)) ?_
     refine split_bool ((c % 10) == 0) (fun h3 => ?_) (fun h3 => ?_)
     · skip
       refine wbl 22 true h3 ?_
       have h3d := eT h3
       refine wsk ?_
       refine wsk ?_
       refine wsk ?_
       refine wsk ?_
       refine wsk ?_
       refine wsk ?_
       refine wv (.bool true) ?_
       refine wv (.bool true) ?_
       refine wsk ?_
       refine wsk ?_
       refine wsk ?_
       refine wsk ?_
       refine wsk ?_
       refine wsk ?_
       refine wv (.bool true) ?_
       refine wpList_nil (then_normal ?_)
       refine wct ?_
       refine wp_exit ?_
       refine then_exit ?_
       refine block_exit ?_
       refine then_normal ?_
       refine wp_region_lit ?_
       refine wi64 ((i : Int) + 1) ?_
       refine wv (.int .i64 ((i : Int) + 1)) ?_
       refine wpList_nil (then_normal ?_)
       refine ⟨_, ?_, i + 1, go, no, capo, cso, rfl, ?_, ?_, ?_, ?_, HL1, hb, Bo, exJ (by kernel_rfl)⟩
       · omega
       · omega
       · refine So.of_eq ?_
         first | (exfalso; omega) | exact (nbN_2 (nbP_a (by assumption) (by assumption))).symm | exact (nbN_2 (nbP_b (by assumption) (by assumption))).symm | exact (nbN_2 (nbP_c (by assumption))).symm | exact (nbN_1 (nbP_d (by first | exact .inl (by assumption) | exact .inr (by assumption)) (by first | exact .inl (by assumption) | exact .inr (by assumption)) (by assumption))).symm
       · exact lo_go
       · exact n_b_go
     · skip
       refine wbl 22 false h3 ?_
       have h3d := eF h3
       refine wv (.int .i64 ((listF4 (-10) (-1) 1 10) i)) ?_
       refine wv (.bool (((listF4 (-10) (-1) 1 10) i) == 1)) ?_
       refine wv (.bool (((listF4 (-10) (-1) 1 10) i) == 1)) ?_
       refine split_bool (((listF4 (-10) (-1) 1 10) i) == 1) (fun h4 => ?_) (fun h4 => ?_)
       · skip
         refine wbl 25 true h4 ?_
         have h4d := eT h4
         refine wv (.int .i64 (c % 10)) ?_
         refine wv (.bool ((c % 10) == 9)) ?_
         refine wv (.bool ((c % 10) == 9)) ?_
         refine wv (.bool ((c % 10) == 9)) ?_
         refine wv (.bool ((c % 10) == 9)) ?_
         refine split_bool ((c % 10) == 9) (fun h5 => ?_) (fun h5 => ?_)
         · skip
           refine wbl 30 true h5 ?_
           have h5d := eT h5
           refine wsk ?_
           refine wsk ?_
           refine wsk ?_
           refine wsk ?_
           refine wsk ?_
           refine wsk ?_
           refine wv (.bool true) ?_
           refine wpList_nil (then_normal ?_)
           refine wct ?_
           refine wp_exit ?_
           refine then_exit ?_
           refine block_exit ?_
           refine then_normal ?_
           refine wp_region_lit ?_
           refine wi64 ((i : Int) + 1) ?_
           refine wv (.int .i64 ((i : Int) + 1)) ?_
           refine wpList_nil (then_normal ?_)
           refine ⟨_, ?_, i + 1, go, no, capo, cso, rfl, ?_, ?_, ?_, ?_, HL1, hb, Bo, exJ (by kernel_rfl)⟩
           · omega
           · omega
           · refine So.of_eq ?_
             first | (exfalso; omega) | exact (nbN_2 (nbP_a (by assumption) (by assumption))).symm | exact (nbN_2 (nbP_b (by assumption) (by assumption))).symm | exact (nbN_2 (nbP_c (by assumption))).symm | exact (nbN_1 (nbP_d (by first | exact .inl (by assumption) | exact .inr (by assumption)) (by first | exact .inl (by assumption) | exact .inr (by assumption)) (by assumption))).symm
           · exact lo_go
           · exact n_b_go
         · skip
           refine wbl 30 false h5 ?_
           have h5d := eF h5
           refine wv (.pointer (some ⟨b, 0, none⟩)) ?_
           refine wv (.int .i64 c) ?_
           refine wv (.int .i64 ((listF4 (-10) (-1) 1 10) i)) ?_
           refine wi64 (c + ((listF4 (-10) (-1) 1 10) i)) ?_
           refine wcl (has_any F hF b _ (c + ((listF4 (-10) (-1) 1 10) i)) _ hb) ?_
           intro w2 E2
           refine wv (.bool (!(isB F (c + ((listF4 (-10) (-1) 1 10) i))))) ?_
           refine wv (.bool (!(isB F (c + ((listF4 (-10) (-1) 1 10) i))))) ?_
           refine wpList_nil (then_normal ?_)
           have H2 := HL1.trans E2
           refine wsplit (!(isB F (c + ((listF4 (-10) (-1) 1 10) i)))) (fun h6 => ?_) (fun h6 => ?_)
           · skip
             replace h6 := nbT h6
             refine wp_exit ?_
             refine then_exit ?_
             refine block_exit ?_
             refine then_normal ?_
             refine wp_region_lit ?_
             refine wi64 ((i : Int) + 1) ?_
             refine wv (.int .i64 ((i : Int) + 1)) ?_
             refine wpList_nil (then_normal ?_)
             replace hb := hb.ext E2
             replace Bo := Bo.ext E2
             refine ⟨_, ?_, i + 1, go, no, capo, cso, rfl, ?_, ?_, ?_, ?_, H2, hb, Bo, exJ (by kernel_rfl)⟩
             · omega
             · omega
             · refine So.of_eq ?_
               first | (exfalso; omega) | exact (nbN_2 (nbP_a (by assumption) (by assumption))).symm | exact (nbN_2 (nbP_b (by assumption) (by assumption))).symm | exact (nbN_2 (nbP_c (by assumption))).symm | exact (nbN_1 (nbP_d (by first | exact .inl (by assumption) | exact .inr (by assumption)) (by first | exact .inl (by assumption) | exact .inr (by assumption)) (by assumption))).symm
             · exact lo_go
             · exact n_b_go
           · skip
             replace h6 := nbF h6
             have h6d := isB_true.1 h6
             refine wp_skip ?_
             refine then_normal ?_
             refine wp_region_lit ?_
             refine wv (.slice (some ⟨go, 0, none⟩) no capo) ?_
             refine wv (.int .i64 c) ?_
             refine wv (.int .i64 ((listF4 (-10) (-1) 1 10) i)) ?_
             refine wi64 (c + ((listF4 (-10) (-1) 1 10) i)) ?_
             replace hb := hb.ext E2
             replace Bo := Bo.ext E2
             refine wbsl 1 #[.int .i64 (c + ((listF4 (-10) (-1) 1 10) i))] slt__int64 ?_
             intro g2 w3 B2 E3 hg_
             have q_b_g2 := Nat.ne_of_lt (Nat.lt_of_lt_of_le hb.lt hg_)
             have q_go_g2 := Nat.ne_of_lt (Nat.lt_of_lt_of_le Bo.lt hg_)
             have lo_g2 := Nat.le_trans (H2).size hg_
             replace hb := hb.ext E3
             replace Bo := Bo.ext E3
             have H3 := H2.trans E3
             refine wappi (c + ((listF4 (-10) (-1) 1 10) i)) slt__int64 Bo So B2 ?_
             intro g3 cap1 cs1 w4 B3 S2 X1 or1
             have n_b_g3 := ne_app hb n_b_go or1
             have n_g2_g3 := ne_app B2 (Ne.symm q_go_g2) or1
             have lo_g3 := Wr.lo or1 lo_go (H3).size
             refine wv (.slice (some ⟨g3, 0, none⟩) (no + 1) cap1) ?_
             refine wpList_nil (block_normal (then_normal ?_))
             refine wp_frame (a' := ⟨#[.pointer (some ⟨b, 0, none⟩), .int .i64 c, undef, undef, .slice none 0 0, .slice (some ⟨g3, 0, none⟩) (no + 1) cap1, .int .i64 (c % 10), undef, .int .i64 ((listF4 (-10) (-1) 1 10) i), .slice (some ⟨g1, 0, none⟩) 0 0, .int .i64 c, .int .i64 (c % 10), .agg (arr 4 .i64 (listF4 (-10) (-1) 1 10)), .int .i64 (i : Int), .bool (decide ((i : Int) < 4)), .int .i64 ((listF4 (-10) (-1) 1 10) i), .int .i64 ((listF4 (-10) (-1) 1 10) i), .bool (((listF4 (-10) (-1) 1 10) i) == (-1)), .bool true, .int .i64 (c % 10), .bool ((c % 10) == 0), .bool ((c % 10) == 0), .bool false, .int .i64 ((listF4 (-10) (-1) 1 10) i), .bool (((listF4 (-10) (-1) 1 10) i) == 1), .bool true, .int .i64 (c % 10), .bool ((c % 10) == 9), .bool ((c % 10) == 9), .bool ((c % 10) == 9), .bool false, .pointer (some ⟨b, 0, none⟩), .int .i64 c, .int .i64 ((listF4 (-10) (-1) 1 10) i), .int .i64 (c + ((listF4 (-10) (-1) 1 10) i)), .bool (isB F (c + ((listF4 (-10) (-1) 1 10) i))), .bool (!(isB F (c + ((listF4 (-10) (-1) 1 10) i)))), .bool (!(isB F (c + ((listF4 (-10) (-1) 1 10) i)))), .slice (some ⟨go, 0, none⟩) no capo, .int .i64 c, .int .i64 ((listF4 (-10) (-1) 1 10) i), .int .i64 (c + ((listF4 (-10) (-1) 1 10) i)), .slice (some ⟨g2, 0, none⟩) 1 1, .slice (some ⟨g3, 0, none⟩) (no + 1) cap1, J1 44, undef], []⟩) (by kernel_rfl) ?_
             refine wp_region_lit ?_
             refine wi64 ((i : Int) + 1) ?_
             refine wv (.int .i64 ((i : Int) + 1)) ?_
             refine wpList_nil (then_normal ?_)
             replace hb := X1.blk hb n_b_go
             have H4 := X1.ext w lo_go H3
             refine ⟨_, ?_, i + 1, g3, no + 1, cap1, cs1, rfl, ?_, ?_, ?_, ?_, H4, hb, B3, exJ (by kernel_rfl)⟩
             · omega
             · omega
             · refine S2.of_eq ?_
               first | (exfalso; omega) | exact (nbN_2 (nbP_a (by assumption) (by assumption))).symm | exact (nbN_2 (nbP_b (by assumption) (by assumption))).symm | exact (nbN_2 (nbP_c (by assumption))).symm | exact (nbN_1 (nbP_d (by first | exact .inl (by assumption) | exact .inr (by assumption)) (by first | exact .inl (by assumption) | exact .inr (by assumption)) (by assumption))).symm
             · exact lo_g3
             · exact n_b_g3
       · skip
         refine wbl 25 false h4 ?_
         have h4d := eF h4
         refine wsk ?_
         refine wsk ?_
         refine wv (.bool false) ?_
         refine wv (.bool false) ?_
         refine wv (.bool false) ?_
         refine wv (.pointer (some ⟨b, 0, none⟩)) ?_
         refine wv (.int .i64 c) ?_
         refine wv (.int .i64 ((listF4 (-10) (-1) 1 10) i)) ?_
         refine wi64 (c + ((listF4 (-10) (-1) 1 10) i)) ?_
         refine wcl (has_any F hF b _ (c + ((listF4 (-10) (-1) 1 10) i)) _ hb) ?_
         intro w5 E4
         refine wv (.bool (!(isB F (c + ((listF4 (-10) (-1) 1 10) i))))) ?_
         refine wv (.bool (!(isB F (c + ((listF4 (-10) (-1) 1 10) i))))) ?_
         refine wpList_nil (then_normal ?_)
         have H5 := HL1.trans E4
         refine wsplit (!(isB F (c + ((listF4 (-10) (-1) 1 10) i)))) (fun h7 => ?_) (fun h7 => ?_)
         · skip
           replace h7 := nbT h7
           refine wp_exit ?_
           refine then_exit ?_
           refine block_exit ?_
           refine then_normal ?_
           refine wp_region_lit ?_
           refine wi64 ((i : Int) + 1) ?_
           refine wv (.int .i64 ((i : Int) + 1)) ?_
           refine wpList_nil (then_normal ?_)
           replace hb := hb.ext E4
           replace Bo := Bo.ext E4
           refine ⟨_, ?_, i + 1, go, no, capo, cso, rfl, ?_, ?_, ?_, ?_, H5, hb, Bo, exJ (by kernel_rfl)⟩
           · omega
           · omega
           · refine So.of_eq ?_
             first | (exfalso; omega) | exact (nbN_2 (nbP_a (by assumption) (by assumption))).symm | exact (nbN_2 (nbP_b (by assumption) (by assumption))).symm | exact (nbN_2 (nbP_c (by assumption))).symm | exact (nbN_1 (nbP_d (by first | exact .inl (by assumption) | exact .inr (by assumption)) (by first | exact .inl (by assumption) | exact .inr (by assumption)) (by assumption))).symm
           · exact lo_go
           · exact n_b_go
         · skip
           replace h7 := nbF h7
           have h7d := isB_true.1 h7
           refine wp_skip ?_
           refine then_normal ?_
           refine wp_region_lit ?_
           refine wv (.slice (some ⟨go, 0, none⟩) no capo) ?_
           refine wv (.int .i64 c) ?_
           refine wv (.int .i64 ((listF4 (-10) (-1) 1 10) i)) ?_
           refine wi64 (c + ((listF4 (-10) (-1) 1 10) i)) ?_
           replace hb := hb.ext E4
           replace Bo := Bo.ext E4
           refine wbsl 1 #[.int .i64 (c + ((listF4 (-10) (-1) 1 10) i))] slt__int64 ?_
           intro g4 w6 B4 E5 hg_
           have q_b_g4 := Nat.ne_of_lt (Nat.lt_of_lt_of_le hb.lt hg_)
           have q_go_g4 := Nat.ne_of_lt (Nat.lt_of_lt_of_le Bo.lt hg_)
           have lo_g4 := Nat.le_trans (H5).size hg_
           replace hb := hb.ext E5
           replace Bo := Bo.ext E5
           have H6 := H5.trans E5
           refine wappi (c + ((listF4 (-10) (-1) 1 10) i)) slt__int64 Bo So B4 ?_
           intro g5 cap2 cs2 w7 B5 S3 X2 or2
           have n_b_g5 := ne_app hb n_b_go or2
           have n_g4_g5 := ne_app B4 (Ne.symm q_go_g4) or2
           have lo_g5 := Wr.lo or2 lo_go (H6).size
           refine wv (.slice (some ⟨g5, 0, none⟩) (no + 1) cap2) ?_
           refine wpList_nil (block_normal (then_normal ?_))
           refine wp_frame (a' := ⟨#[.pointer (some ⟨b, 0, none⟩), .int .i64 c, undef, undef, .slice none 0 0, .slice (some ⟨g5, 0, none⟩) (no + 1) cap2, .int .i64 (c % 10), undef, .int .i64 ((listF4 (-10) (-1) 1 10) i), .slice (some ⟨g1, 0, none⟩) 0 0, .int .i64 c, .int .i64 (c % 10), .agg (arr 4 .i64 (listF4 (-10) (-1) 1 10)), .int .i64 (i : Int), .bool (decide ((i : Int) < 4)), .int .i64 ((listF4 (-10) (-1) 1 10) i), .int .i64 ((listF4 (-10) (-1) 1 10) i), .bool (((listF4 (-10) (-1) 1 10) i) == (-1)), .bool true, .int .i64 (c % 10), .bool ((c % 10) == 0), .bool ((c % 10) == 0), .bool false, .int .i64 ((listF4 (-10) (-1) 1 10) i), .bool (((listF4 (-10) (-1) 1 10) i) == 1), .bool false, undef, undef, .bool false, .bool false, .bool false, .pointer (some ⟨b, 0, none⟩), .int .i64 c, .int .i64 ((listF4 (-10) (-1) 1 10) i), .int .i64 (c + ((listF4 (-10) (-1) 1 10) i)), .bool (isB F (c + ((listF4 (-10) (-1) 1 10) i))), .bool (!(isB F (c + ((listF4 (-10) (-1) 1 10) i)))), .bool (!(isB F (c + ((listF4 (-10) (-1) 1 10) i)))), .slice (some ⟨go, 0, none⟩) no capo, .int .i64 c, .int .i64 ((listF4 (-10) (-1) 1 10) i), .int .i64 (c + ((listF4 (-10) (-1) 1 10) i)), .slice (some ⟨g4, 0, none⟩) 1 1, .slice (some ⟨g5, 0, none⟩) (no + 1) cap2, J1 44, undef], []⟩) (by kernel_rfl) ?_
           refine wp_region_lit ?_
           refine wi64 ((i : Int) + 1) ?_
           refine wv (.int .i64 ((i : Int) + 1)) ?_
           refine wpList_nil (then_normal ?_)
           replace hb := X2.blk hb n_b_go
           have H7 := X2.ext w lo_go H6
           refine ⟨_, ?_, i + 1, g5, no + 1, cap2, cs2, rfl, ?_, ?_, ?_, ?_, H7, hb, B5, exJ (by kernel_rfl)⟩
           · omega
           · omega
           · refine S3.of_eq ?_
             first | (exfalso; omega) | exact (nbN_2 (nbP_a (by assumption) (by assumption))).symm | exact (nbN_2 (nbP_b (by assumption) (by assumption))).symm | exact (nbN_2 (nbP_c (by assumption))).symm | exact (nbN_1 (nbP_d (by first | exact .inl (by assumption) | exact .inr (by assumption)) (by first | exact .inl (by assumption) | exact .inr (by assumption)) (by assumption))).symm
           · exact lo_g5
           · exact n_b_g5
   · skip
     refine wbl 18 false h2 ?_
     have h2d := eF h2
     refine wsk ?_
     refine wsk ?_
     refine wv (.bool false) ?_
     refine wv (.bool false) ?_
     refine wv (.int .i64 ((listF4 (-10) (-1) 1 10) i)) ?_
     refine wv (.bool (((listF4 (-10) (-1) 1 10) i) == 1)) ?_
     refine wv (.bool (((listF4 (-10) (-1) 1 10) i) == 1)) ?_
     refine split_bool (((listF4 (-10) (-1) 1 10) i) == 1) (fun h8 => ?_) (fun h8 => ?_)
     · skip
       refine wbl 25 true h8 ?_
       have h8d := eT h8
       refine wv (.int .i64 (c % 10)) ?_
       refine wv (.bool ((c % 10) == 9)) ?_
       refine wv (.bool ((c % 10) == 9)) ?_
       refine wv (.bool ((c % 10) == 9)) ?_
       refine wv (.bool ((c % 10) == 9)) ?_
       refine split_bool ((c % 10) == 9) (fun h9 => ?_) (fun h9 => ?_)
       · skip
         refine wbl 30 true h9 ?_
         have h9d := eT h9
         refine wsk ?_
         refine wsk ?_
         refine wsk ?_
         refine wsk ?_
         refine wsk ?_
         refine wsk ?_
         refine wv (.bool true) ?_
         refine wpList_nil (then_normal ?_)
         refine wct ?_
         refine wp_exit ?_
         refine then_exit ?_
         refine block_exit ?_
         refine then_normal ?_
         refine wp_region_lit ?_
         refine wi64 ((i : Int) + 1) ?_
         refine wv (.int .i64 ((i : Int) + 1)) ?_
         refine wpList_nil (then_normal ?_)
         refine ⟨_, ?_, i + 1, go, no, capo, cso, rfl, ?_, ?_, ?_, ?_, HL1, hb, Bo, exJ (by kernel_rfl)⟩
         · omega
         · omega
         · refine So.of_eq ?_
           first | (exfalso; omega) | exact (nbN_2 (nbP_a (by assumption) (by assumption))).symm | exact (nbN_2 (nbP_b (by assumption) (by assumption))).symm | exact (nbN_2 (nbP_c (by assumption))).symm | exact (nbN_1 (nbP_d (by first | exact .inl (by assumption) | exact .inr (by assumption)) (by first | exact .inl (by assumption) | exact .inr (by assumption)) (by assumption))).symm
         · exact lo_go
         · exact n_b_go
       · skip
         refine wbl 30 false h9 ?_
         have h9d := eF h9
         refine wv (.pointer (some ⟨b, 0, none⟩)) ?_
         refine wv (.int .i64 c) ?_
         refine wv (.int .i64 ((listF4 (-10) (-1) 1 10) i)) ?_
         refine wi64 (c + ((listF4 (-10) (-1) 1 10) i)) ?_
         refine wcl (has_any F hF b _ (c + ((listF4 (-10) (-1) 1 10) i)) _ hb) ?_
         intro w8 E6
         refine wv (.bool (!(isB F (c + ((listF4 (-10) (-1) 1 10) i))))) ?_
         refine wv (.bool (!(isB F (c + ((listF4 (-10) (-1) 1 10) i))))) ?_
         refine wpList_nil (then_normal ?_)
         have H8 := HL1.trans E6
         refine wsplit (!(isB F (c + ((listF4 (-10) (-1) 1 10) i)))) (fun h10 => ?_) (fun h10 => ?_)
         · skip
           replace h10 := nbT h10
           refine wp_exit ?_
           refine then_exit ?_
           refine block_exit ?_
           refine then_normal ?_
           refine wp_region_lit ?_
           refine wi64 ((i : Int) + 1) ?_
           refine wv (.int .i64 ((i : Int) + 1)) ?_
           refine wpList_nil (then_normal ?_)
           replace hb := hb.ext E6
           replace Bo := Bo.ext E6
           refine ⟨_, ?_, i + 1, go, no, capo, cso, rfl, ?_, ?_, ?_, ?_, H8, hb, Bo, exJ (by kernel_rfl)⟩
           · omega
           · omega
           · refine So.of_eq ?_
             first | (exfalso; omega) | exact (nbN_2 (nbP_a (by assumption) (by assumption))).symm | exact (nbN_2 (nbP_b (by assumption) (by assumption))).symm | exact (nbN_2 (nbP_c (by assumption))).symm | exact (nbN_1 (nbP_d (by first | exact .inl (by assumption) | exact .inr (by assumption)) (by first | exact .inl (by assumption) | exact .inr (by assumption)) (by assumption))).symm
           · exact lo_go
           · exact n_b_go
         · skip
           replace h10 := nbF h10
           have h10d := isB_true.1 h10
           refine wp_skip ?_
           refine then_normal ?_
           refine wp_region_lit ?_
           refine wv (.slice (some ⟨go, 0, none⟩) no capo) ?_
           refine wv (.int .i64 c) ?_
           refine wv (.int .i64 ((listF4 (-10) (-1) 1 10) i)) ?_
           refine wi64 (c + ((listF4 (-10) (-1) 1 10) i)) ?_
           replace hb := hb.ext E6
           replace Bo := Bo.ext E6
           refine wbsl 1 #[.int .i64 (c + ((listF4 (-10) (-1) 1 10) i))] slt__int64 ?_
           intro g6 w9 B6 E7 hg_
           have q_b_g6 := Nat.ne_of_lt (Nat.lt_of_lt_of_le hb.lt hg_)
           have q_go_g6 := Nat.ne_of_lt (Nat.lt_of_lt_of_le Bo.lt hg_)
           have lo_g6 := Nat.le_trans (H8).size hg_
           replace hb := hb.ext E7
           replace Bo := Bo.ext E7
           have H9 := H8.trans E7
           refine wappi (c + ((listF4 (-10) (-1) 1 10) i)) slt__int64 Bo So B6 ?_
           intro g7 cap3 cs3 w10 B7 S4 X3 or3
           have n_b_g7 := ne_app hb n_b_go or3
           have n_g6_g7 := ne_app B6 (Ne.symm q_go_g6) or3
           have lo_g7 := Wr.lo or3 lo_go (H9).size
           refine wv (.slice (some ⟨g7, 0, none⟩) (no + 1) cap3) ?_
           refine wpList_nil (block_normal (then_normal ?_))
           refine wp_frame (a' := ⟨#[.pointer (some ⟨b, 0, none⟩), .int .i64 c, undef, undef, .slice none 0 0, .slice (some ⟨g7, 0, none⟩) (no + 1) cap3, .int .i64 (c % 10), undef, .int .i64 ((listF4 (-10) (-1) 1 10) i), .slice (some ⟨g1, 0, none⟩) 0 0, .int .i64 c, .int .i64 (c % 10), .agg (arr 4 .i64 (listF4 (-10) (-1) 1 10)), .int .i64 (i : Int), .bool (decide ((i : Int) < 4)), .int .i64 ((listF4 (-10) (-1) 1 10) i), .int .i64 ((listF4 (-10) (-1) 1 10) i), .bool (((listF4 (-10) (-1) 1 10) i) == (-1)), .bool false, undef, undef, .bool false, .bool false, .int .i64 ((listF4 (-10) (-1) 1 10) i), .bool (((listF4 (-10) (-1) 1 10) i) == 1), .bool true, .int .i64 (c % 10), .bool ((c % 10) == 9), .bool ((c % 10) == 9), .bool ((c % 10) == 9), .bool false, .pointer (some ⟨b, 0, none⟩), .int .i64 c, .int .i64 ((listF4 (-10) (-1) 1 10) i), .int .i64 (c + ((listF4 (-10) (-1) 1 10) i)), .bool (isB F (c + ((listF4 (-10) (-1) 1 10) i))), .bool (!(isB F (c + ((listF4 (-10) (-1) 1 10) i)))), .bool (!(isB F (c + ((listF4 (-10) (-1) 1 10) i)))), .slice (some ⟨go, 0, none⟩) no capo, .int .i64 c, .int .i64 ((listF4 (-10) (-1) 1 10) i), .int .i64 (c + ((listF4 (-10) (-1) 1 10) i)), .slice (some ⟨g6, 0, none⟩) 1 1, .slice (some ⟨g7, 0, none⟩) (no + 1) cap3, J1 44, undef], []⟩) (by kernel_rfl) ?_
           refine wp_region_lit ?_
           refine wi64 ((i : Int) + 1) ?_
           refine wv (.int .i64 ((i : Int) + 1)) ?_
           refine wpList_nil (then_normal ?_)
           replace hb := X3.blk hb n_b_go
           have H10 := X3.ext w lo_go H9
           refine ⟨_, ?_, i + 1, g7, no + 1, cap3, cs3, rfl, ?_, ?_, ?_, ?_, H10, hb, B7, exJ (by kernel_rfl)⟩
           · omega
           · omega
           · refine S4.of_eq ?_
             first | (exfalso; omega) | exact (nbN_2 (nbP_a (by assumption) (by assumption))).symm | exact (nbN_2 (nbP_b (by assumption) (by assumption))).symm | exact (nbN_2 (nbP_c (by assumption))).symm | exact (nbN_1 (nbP_d (by first | exact .inl (by assumption) | exact .inr (by assumption)) (by first | exact .inl (by assumption) | exact .inr (by assumption)) (by assumption))).symm
           · exact lo_g7
           · exact n_b_g7
     · skip
       refine wbl 25 false h8 ?_
       have h8d := eF h8
       refine wsk ?_
       refine wsk ?_
       refine wv (.bool false) ?_
       refine wv (.bool false) ?_
       refine wv (.bool false) ?_
       refine wv (.pointer (some ⟨b, 0, none⟩)) ?_
       refine wv (.int .i64 c) ?_
       refine wv (.int .i64 ((listF4 (-10) (-1) 1 10) i)) ?_
       refine wi64 (c + ((listF4 (-10) (-1) 1 10) i)) ?_
       refine wcl (has_any F hF b _ (c + ((listF4 (-10) (-1) 1 10) i)) _ hb) ?_
       intro w11 E8
       refine wv (.bool (!(isB F (c + ((listF4 (-10) (-1) 1 10) i))))) ?_
       refine wv (.bool (!(isB F (c + ((listF4 (-10) (-1) 1 10) i))))) ?_
       refine wpList_nil (then_normal ?_)
       have H11 := HL1.trans E8
       refine wsplit (!(isB F (c + ((listF4 (-10) (-1) 1 10) i)))) (fun h11 => ?_) (fun h11 => ?_)
       · skip
         replace h11 := nbT h11
         refine wp_exit ?_
         refine then_exit ?_
         refine block_exit ?_
         refine then_normal ?_
         refine wp_region_lit ?_
         refine wi64 ((i : Int) + 1) ?_
         refine wv (.int .i64 ((i : Int) + 1)) ?_
         refine wpList_nil (then_normal ?_)
         replace hb := hb.ext E8
         replace Bo := Bo.ext E8
         refine ⟨_, ?_, i + 1, go, no, capo, cso, rfl, ?_, ?_, ?_, ?_, H11, hb, Bo, exJ (by kernel_rfl)⟩
         · omega
         · omega
         · refine So.of_eq ?_
           first | (exfalso; omega) | exact (nbN_2 (nbP_a (by assumption) (by assumption))).symm | exact (nbN_2 (nbP_b (by assumption) (by assumption))).symm | exact (nbN_2 (nbP_c (by assumption))).symm | exact (nbN_1 (nbP_d (by first | exact .inl (by assumption) | exact .inr (by assumption)) (by first | exact .inl (by assumption) | exact .inr (by assumption)) (by assumption))).symm
         · exact lo_go
         · exact n_b_go
       · skip
         replace h11 := nbF h11
         have h11d := isB_true.1 h11
         refine wp_skip ?_
         refine then_normal ?_
         refine wp_region_lit ?_
         refine wv (.slice (some ⟨go, 0, none⟩) no capo) ?_
         refine wv (.int .i64 c) ?_
         refine wv (.int .i64 ((listF4 (-10) (-1) 1 10) i)) ?_
         refine wi64 (c + ((listF4 (-10) (-1) 1 10) i)) ?_
         replace hb := hb.ext E8
         replace Bo := Bo.ext E8
         refine wbsl 1 #[.int .i64 (c + ((listF4 (-10) (-1) 1 10) i))] slt__int64 ?_
         intro g8 w12 B8 E9 hg_
         have q_b_g8 := Nat.ne_of_lt (Nat.lt_of_lt_of_le hb.lt hg_)
         have q_go_g8 := Nat.ne_of_lt (Nat.lt_of_lt_of_le Bo.lt hg_)
         have lo_g8 := Nat.le_trans (H11).size hg_
         replace hb := hb.ext E9
         replace Bo := Bo.ext E9
         have H12 := H11.trans E9
         refine wappi (c + ((listF4 (-10) (-1) 1 10) i)) slt__int64 Bo So B8 ?_
         intro g9 cap4 cs4 w13 B9 S5 X4 or4
         have n_b_g9 := ne_app hb n_b_go or4
         have n_g8_g9 := ne_app B8 (Ne.symm q_go_g8) or4
         have lo_g9 := Wr.lo or4 lo_go (H12).size
         refine wv (.slice (some ⟨g9, 0, none⟩) (no + 1) cap4) ?_
         refine wpList_nil (block_normal (then_normal ?_))
         refine wp_frame (a' := ⟨#[.pointer (some ⟨b, 0, none⟩), .int .i64 c, undef, undef, .slice none 0 0, .slice (some ⟨g9, 0, none⟩) (no + 1) cap4, .int .i64 (c % 10), undef, .int .i64 ((listF4 (-10) (-1) 1 10) i), .slice (some ⟨g1, 0, none⟩) 0 0, .int .i64 c, .int .i64 (c % 10), .agg (arr 4 .i64 (listF4 (-10) (-1) 1 10)), .int .i64 (i : Int), .bool (decide ((i : Int) < 4)), .int .i64 ((listF4 (-10) (-1) 1 10) i), .int .i64 ((listF4 (-10) (-1) 1 10) i), .bool (((listF4 (-10) (-1) 1 10) i) == (-1)), .bool false, undef, undef, .bool false, .bool false, .int .i64 ((listF4 (-10) (-1) 1 10) i), .bool (((listF4 (-10) (-1) 1 10) i) == 1), .bool false, undef, undef, .bool false, .bool false, .bool false, .pointer (some ⟨b, 0, none⟩), .int .i64 c, .int .i64 ((listF4 (-10) (-1) 1 10) i), .int .i64 (c + ((listF4 (-10) (-1) 1 10) i)), .bool (isB F (c + ((listF4 (-10) (-1) 1 10) i))), .bool (!(isB F (c + ((listF4 (-10) (-1) 1 10) i)))), .bool (!(isB F (c + ((listF4 (-10) (-1) 1 10) i)))), .slice (some ⟨go, 0, none⟩) no capo, .int .i64 c, .int .i64 ((listF4 (-10) (-1) 1 10) i), .int .i64 (c + ((listF4 (-10) (-1) 1 10) i)), .slice (some ⟨g8, 0, none⟩) 1 1, .slice (some ⟨g9, 0, none⟩) (no + 1) cap4, J1 44, undef], []⟩) (by kernel_rfl) ?_
         refine wp_region_lit ?_
         refine wi64 ((i : Int) + 1) ?_
         refine wv (.int .i64 ((i : Int) + 1)) ?_
         refine wpList_nil (then_normal ?_)
         replace hb := X4.blk hb n_b_go
         have H13 := X4.ext w lo_go H12
         refine ⟨_, ?_, i + 1, g9, no + 1, cap4, cs4, rfl, ?_, ?_, ?_, ?_, H13, hb, B9, exJ (by kernel_rfl)⟩
         · omega
         · omega
         · refine S5.of_eq ?_
           first | (exfalso; omega) | exact (nbN_2 (nbP_a (by assumption) (by assumption))).symm | exact (nbN_2 (nbP_b (by assumption) (by assumption))).symm | exact (nbN_2 (nbP_c (by assumption))).symm | exact (nbN_1 (nbP_d (by first | exact .inl (by assumption) | exact .inr (by assumption)) (by first | exact .inl (by assumption) | exact .inr (by assumption)) (by assumption))).symm
         · exact lo_g9
         · exact n_b_g9
 · skip
   have h1d := dF h1
   refine wp_exit ?_
   refine then_exit ?_
   refine then_exit ?_
   refine block_exit ?_
   refine then_normal ?_
   refine wsr ?_
   refine wv (.slice (some ⟨go, 0, none⟩) no capo) ?_
   refine wv (.slice (some ⟨go, 0, none⟩) no capo) ?_
   refine wpList_nil (then_normal ?_)
   refine wp_ret ?_
   refine ret1 (.slice (some ⟨go, 0, none⟩) no capo) rfl ?_ rfl ?_
   · exact resT (by kernel_rfl)
   have hq : nbN F c i = nbL F c := by
     exact nbN_end (by omega) (by omega)
   exact ⟨go, no, capo, cso, rfl, Bo, So.of_eq hq, HL1, lo_go⟩


--# l01Beside_any
theorem l01Beside_any (F : Fld) (hF : F.wf) (b : Nat) (t : TypeId) (c : Int) (hc : 0 ≤ c ∧ c ≤ 99) (w : World) (hb : Blk w b t F.cells) :
 Calls Try.prog 79 #[.pointer (some ⟨b, 0, none⟩), .int .i64 c] w fun e w' => RetI w 2 .i64 (nbL F c) id e w' := by
 refine calls_of_wp Try.func79 rfl ?_
 refine wp_frame (a' := ⟨#[.pointer (some ⟨b, 0, none⟩), .int .i64 c, undef, undef, undef, undef, undef, undef, undef, undef, undef, undef, undef, undef, undef, undef, undef, undef, undef, undef, undef, undef, undef, undef, undef, undef, undef, undef, undef, undef, undef, undef, undef, undef, undef, undef, undef, undef, undef, undef, undef, undef], []⟩) (by kernel_rfl) ?_
 refine wsr ?_
 refine wv (.slice none 0 0) ?_
 refine wpList_nil (then_normal ?_)
 refine wsr ?_
 refine wv (.int .i64 c) ?_
 refine wi64 (c - 10) ?_
 refine wv (.int .i64 c) ?_
 refine wi64 (c - 1) ?_
 refine wv (.int .i64 c) ?_
 refine wi64 (c + 1) ?_
 refine wv (.int .i64 c) ?_
 refine wi64 (c + 10) ?_
 refine wvv (.agg #[.int .i64 (c - 10), .int .i64 (c - 1), .int .i64 (c + 1), .int .i64 (c + 10)]) (.agg (arr 4 .i64 (listF4 (c - 10) (c - 1) (c + 1) (c + 10)))) (congrArg Value.agg (arr4 _ _ _ _ _)) ?_
 refine wnew (arr 4 .i64 (fun _ => 0)) Try.zeroValue123 zero4 ?_
 intro g1 w1 B1 E1 hg_
 have q_b_g1 := Nat.ne_of_lt (Nat.lt_of_lt_of_le hb.lt hg_)
 have lo_g1 := Nat.le_trans ((Ext.refl w)).size hg_
 refine wput (arr 4 .i64 (listF4 (c - 10) (c - 1) (c + 1) (c + 10))) row__4_int64 B1 (by exact size_arr _ _ _) (by exact size_arr _ _ _) (by exact one_arr _ _ _) ?_
 intro w2 B1_ X1
 clear B1; have B1 := B1_; clear B1_
 refine wpList_nil (then_normal ?_)
 refine wsr ?_
 have H1 := X1.ext w lo_g1 ((Ext.refl w).trans E1)
 replace hb := X1.blk (hb.ext E1) q_b_g1
 refine wbsl 0 #[] slt__int64 ?_
 intro g2 w3 B2 E2 hg_
 have q_b_g2 := Nat.ne_of_lt (Nat.lt_of_lt_of_le hb.lt hg_)
 have q_g1_g2 := Nat.ne_of_lt (Nat.lt_of_lt_of_le B1.lt hg_)
 have lo_g2 := Nat.le_trans (H1).size hg_
 have S1 : SlI #[] 0 0 .i64 [] := SlI.nil
 refine wv (.slice (some ⟨g2, 0, none⟩) 0 0) ?_
 refine wpList_nil (then_normal ?_)
 refine wp_seq ?_
 refine wsr ?_
 refine wv (.int .i64 0) ?_
 refine wpList_nil (then_normal ?_)
 refine wp_block ?_
 replace hb := hb.ext E2
 replace B1 := B1.ext E2
 have H2 := H1.trans E2
 refine wp_loop_k (fun m1 a wl1 => ∃ (i : Nat) (go : Nat) (no : Nat) (capo : Nat) (cso : Array Value), m1 = 4 - i ∧ i ≤ 4 ∧ SlI cso no capo .i64 (nbN F c i) ∧ w.heap.size ≤ go ∧ b ≠ go ∧ g1 ≠ go ∧ Ext w wl1 ∧ Blk wl1 b t F.cells ∧ Blk wl1 g1 123 (arr 4 .i64 (listF4 (c - 10) (c - 1) (c + 1) (c + 10))) ∧ Blk wl1 go 2 cso ∧ (∃ J1 : Nat → Value, a = ⟨#[.pointer (some ⟨b, 0, none⟩), .int .i64 c, undef, undef, .slice none 0 0, .pointer (some ⟨g1, 0, none⟩), .slice (some ⟨go, 0, none⟩) no capo, .int .i64 (i : Int), .int .i64 c, .int .i64 (c - 10), .int .i64 c, .int .i64 (c - 1), .int .i64 c, .int .i64 (c + 1), .int .i64 c, .int .i64 (c + 10), .agg (arr 4 .i64 (listF4 (c - 10) (c - 1) (c + 1) (c + 10))), .slice (some ⟨g2, 0, none⟩) 0 0, J1 18, J1 19, J1 20, J1 21, J1 22, J1 23, J1 24, J1 25, J1 26, J1 27, J1 28, J1 29, J1 30, J1 31, J1 32, J1 33, J1 34, J1 35, J1 36, J1 37, J1 38, J1 39, J1 40, undef], []⟩)) (4) ?_ ?_
 · refine ⟨0, g2, 0, 0, #[], rfl, ?_, ?_, ?_, ?_, ?_, H2, hb, B1, B2, exJ (by kernel_rfl)⟩
   · omega
   · refine S1.of_eq ?_
     exact (nbN_0 F c).symm
   · exact lo_g2
   · exact q_b_g2
   · exact q_g1_g2
 intro m1 a wl1 hI
 obtain ⟨i, go, no, capo, cso, rfl, hi_, So, lo_go, n_b_go, n_g1_go, HL1, hb, B1, Bo, J1, rfl⟩ := hI
 have lf_ := listF4_in (a := c - 10) (b := c - 1) (c := c + 1) (d := c + 10) (i := i)
 have nl_ := nbN_length F c i
 have la_ : listF4 (c - 10) (c - 1) (c + 1) (c + 10) i = c + offI i := listF4_add c (-10) (-1) 1 10 i
 have len_So := So.len
 refine wp_seq ?_
 refine wsr ?_
 refine wv (.int .i64 (i : Int)) ?_
 refine wv (.bool (decide ((i : Int) < 4))) ?_
 refine wpList_nil (then_normal ?_)
 refine wsplit (decide ((i : Int) < 4)) (fun h1 => ?_) (fun h1 => ?_)
 · skip
   have h1d := dT h1
   refine wp_skip ?_
   refine then_normal ?_
   refine wp_seq ?_
   refine wp_block ?_
   refine wsr ?_
   refine wv (.pointer (some ⟨b, 0, none⟩)) ?_
   refine wv (.int .i64 (i : Int)) ?_
   refine wixn g1 0 i .i64 arrt__4_int64 ?_
   refine wld g1 (0 + i) scal_int64 (B1.get (get_arr0 (by omega))) ?_
   refine wcl (l01Is_any F hF b _ ((listF4 (c - 10) (c - 1) (c + 1) (c + 10)) i) _ hb) ?_
   intro w4 E3
   refine wv (.bool (isB F ((listF4 (c - 10) (c - 1) (c + 1) (c + 10)) i))) ?_
   have H3 := HL1.trans E3
   refine split_bool (isB F ((listF4 (c - 10) (c - 1) (c + 1) (c + 10)) i)) (fun h2 => ?_) (fun h2 => ?_)
   · skip
     refine wbl 27 true h2 ?_
     have h2d := isB_true.1 h2
     refine wv (.int .i64 c) ?_
     refine wv (.int .i64 (i : Int)) ?_
     refine wixn g1 0 i .i64 arrt__4_int64 ?_
     replace B1 := B1.ext E3
     refine wld g1 (0 + i) scal_int64 (B1.get (get_arr0 (by omega))) ?_
     refine wcl (l01Square_any c ((listF4 (c - 10) (c - 1) (c + 1) (c + 10)) i) (by omega) (by omega) _) ?_
     intro w5 E4
     refine wv (.bool ((sqr c ((listF4 (c - 10) (c - 1) (c + 1) (c + 10)) i)) == 1)) ?_
     refine wv (.bool ((sqr c ((listF4 (c - 10) (c - 1) (c + 1) (c + 10)) i)) == 1)) ?_
     refine wpList_nil (then_normal ?_)
     have H4 := H3.trans E4
     refine wsplit ((sqr c ((listF4 (c - 10) (c - 1) (c + 1) (c + 10)) i)) == 1) (fun h3 => ?_) (fun h3 => ?_)
     · skip
       have h3d := eT h3
       refine wp_region_lit ?_
       refine wv (.slice (some ⟨go, 0, none⟩) no capo) ?_
       refine wv (.int .i64 (i : Int)) ?_
       refine wixn g1 0 i .i64 arrt__4_int64 ?_
       replace B1 := B1.ext E4
       refine wld g1 (0 + i) scal_int64 (B1.get (get_arr0 (by omega))) ?_
       replace hb := (hb.ext E3).ext E4
       replace Bo := (Bo.ext E3).ext E4
       refine wbsl 1 #[.int .i64 ((listF4 (c - 10) (c - 1) (c + 1) (c + 10)) i)] slt__int64 ?_
       intro g3 w6 B3 E5 hg_
       have q_b_g3 := Nat.ne_of_lt (Nat.lt_of_lt_of_le hb.lt hg_)
       have q_g1_g3 := Nat.ne_of_lt (Nat.lt_of_lt_of_le B1.lt hg_)
       have q_go_g3 := Nat.ne_of_lt (Nat.lt_of_lt_of_le Bo.lt hg_)
       have lo_g3 := Nat.le_trans (H4).size hg_
       replace hb := hb.ext E5
       replace B1 := B1.ext E5
       replace Bo := Bo.ext E5
       have H5 := H4.trans E5
       refine wappi ((listF4 (c - 10) (c - 1) (c + 1) (c + 10)) i) slt__int64 Bo So B3 ?_
       intro g4 cap1 cs1 w7 B4 S2 X2 or1
       have n_b_g4 := ne_app hb n_b_go or1
       have n_g1_g4 := ne_app B1 n_g1_go or1
       have n_g3_g4 := ne_app B3 (Ne.symm q_go_g3) or1
       have lo_g4 := Wr.lo or1 lo_go (H5).size
       refine wv (.slice (some ⟨g4, 0, none⟩) (no + 1) cap1) ?_
       refine wpList_nil (block_normal (then_normal ?_))
       refine wp_region_lit ?_
       refine wv (.int .i64 (i : Int)) ?_
       refine wi64 ((i : Int) + 1) ?_
       refine wv (.int .i64 ((i : Int) + 1)) ?_
       refine wpList_nil (then_normal ?_)
       replace hb := X2.blk hb n_b_go
       replace B1 := X2.blk B1 n_g1_go
       have H6 := X2.ext w lo_go H5
       refine ⟨_, ?_, i + 1, g4, no + 1, cap1, cs1, rfl, ?_, ?_, ?_, ?_, ?_, H6, hb, B1, B4, exJ (by kernel_rfl)⟩
       · omega
       · omega
       · refine S2.of_eq ?_
         rw [la_] at *
         first | exact (nbN_1 (by rw [nbP_eq hc (by omega)]; simp [*])).symm | exact (nbN_2 (by rw [nbP_eq hc (by omega)]; simp [*])).symm
       · exact lo_g4
       · exact n_b_g4
       · exact n_g1_g4
     · skip
       have h3d := eF h3
       refine wp_skip ?_
       refine block_normal (then_normal ?_)
       refine wp_region_lit ?_
       refine wv (.int .i64 (i : Int)) ?_
       refine wi64 ((i : Int) + 1) ?_
       refine wv (.int .i64 ((i : Int) + 1)) ?_
       refine wpList_nil (then_normal ?_)
       replace hb := (hb.ext E3).ext E4
       replace B1 := B1.ext E4
       replace Bo := (Bo.ext E3).ext E4
       refine ⟨_, ?_, i + 1, go, no, capo, cso, rfl, ?_, ?_, ?_, ?_, ?_, H4, hb, B1, Bo, exJ (by kernel_rfl)⟩
       · omega
       · omega
       · refine So.of_eq ?_
         rw [la_] at *
         first | exact (nbN_1 (by rw [nbP_eq hc (by omega)]; simp [*])).symm | exact (nbN_2 (by rw [nbP_eq hc (by omega)]; simp [*])).symm
       · exact lo_go
       · exact n_b_go
       · exact n_g1_go
   · skip
     refine wbl 27 false h2 ?_
     refine wsk ?_
     refine wsk ?_
     refine wsk ?_
     refine wsk ?_
     refine wsk ?_
     refine wsk ?_
     refine wv (.bool false) ?_
     refine wpList_nil (then_normal ?_)
     refine wcf ?_
     refine wp_skip ?_
     refine block_normal (then_normal ?_)
     refine wp_region_lit ?_
     refine wv (.int .i64 (i : Int)) ?_
     refine wi64 ((i : Int) + 1) ?_
     refine wv (.int .i64 ((i : Int) + 1)) ?_
     refine wpList_nil (then_normal ?_)
     replace hb := hb.ext E3
     replace B1 := B1.ext E3
     replace Bo := Bo.ext E3
     refine ⟨_, ?_, i + 1, go, no, capo, cso, rfl, ?_, ?_, ?_, ?_, ?_, H3, hb, B1, Bo, exJ (by kernel_rfl)⟩
     · omega
     · omega
     · refine So.of_eq ?_
       rw [la_] at *
       first | exact (nbN_1 (by rw [nbP_eq hc (by omega)]; simp [*])).symm | exact (nbN_2 (by rw [nbP_eq hc (by omega)]; simp [*])).symm
     · exact lo_go
     · exact n_b_go
     · exact n_g1_go
 · skip
   have h1d := dF h1
   refine wp_exit ?_
   refine then_exit ?_
   refine then_exit ?_
   refine block_exit ?_
   refine then_normal ?_
   refine wsr ?_
   refine wv (.slice (some ⟨go, 0, none⟩) no capo) ?_
   refine wv (.slice (some ⟨go, 0, none⟩) no capo) ?_
   refine wpList_nil (then_normal ?_)
   refine wp_ret ?_
   refine ret1 (.slice (some ⟨go, 0, none⟩) no capo) rfl ?_ rfl ?_
   · exact resT (by kernel_rfl)
   have hq : nbN F c i = nbL F c := by
     exact nbN_end (by omega) (by omega)
   exact ⟨go, no, capo, cso, rfl, Bo, So.of_eq hq, HL1, lo_go⟩


--# sNeighboursOf_any
theorem sNeighboursOf_any (F : Fld) (hF : F.wf) (c : Int) (w : World) :
 Calls Try.prog 26 #[.agg F.cells, .int .i64 c] w fun e w' => (code F (isB F c) = 0 ∧ RetI w 2 .i64 (nbL F c) (fun v => .tuple #[v, .int .i64 0]) e w') ∨ (code F (isB F c) ≠ 0 ∧ RetI w 2 .i64 [] (fun v => .tuple #[v, .int .i64 (code F (isB F c))]) e w') := by
 refine calls_of_wp Try.func26 rfl ?_
 refine wp_frame (a' := ⟨#[.agg F.cells, .int .i64 c, undef, undef, undef, undef, undef, undef, undef, undef, undef, undef, undef, undef, undef], []⟩) (by kernel_rfl) ?_
 refine wsr ?_
 refine wbox F.cells ?_
 intro g1 w1 B1 E1 hg_
 have lo_g1 := Nat.le_trans ((Ext.refl w)).size hg_
 refine wv (.slice none 0 0) ?_
 refine wv (.int .i64 0) ?_
 refine wpList_nil (then_normal ?_)
 refine wp_seq ?_
 refine wsr ?_
 refine wv (.int .i64 c) ?_
 refine wcl (l01Asked_any F hF g1 _ c true (isB F c) (Bool.and_true _) _ B1) ?_
 intro w2 E2
 refine wv (.int .i64 (code F (isB F c))) ?_
 refine wpList_nil (then_normal ?_)
 refine wsr ?_
 refine wv (.int .i64 (code F (isB F c))) ?_
 refine wv (.bool ((code F (isB F c)) != 0)) ?_
 refine wpList_nil (then_normal ?_)
 have H1 := ((Ext.refl w).trans E1).trans E2
 refine wsplit ((code F (isB F c)) != 0) (fun h1 => ?_) (fun h1 => ?_)
 · skip
   have h1d := nT h1
   refine wsr ?_
   replace B1 := B1.ext E2
   refine wbsl 0 #[] slt__int64 ?_
   intro g2 w3 B2 E3 hg_
   have q_g1_g2 := Nat.ne_of_lt (Nat.lt_of_lt_of_le B1.lt hg_)
   have lo_g2 := Nat.le_trans (H1).size hg_
   have S1 : SlI #[] 0 0 .i64 [] := SlI.nil
   refine wv (.int .i64 (code F (isB F c))) ?_
   refine wv (.slice (some ⟨g2, 0, none⟩) 0 0) ?_
   refine wv (.int .i64 (code F (isB F c))) ?_
   refine wpList_nil (then_normal ?_)
   refine wp_ret ?_
   refine then_ret ?_
   refine ret2 (.slice (some ⟨g2, 0, none⟩) 0 0) (.int .i64 (code F (isB F c))) rfl ?_ ?_ rfl ?_
   · exact resT (by kernel_rfl)
   · exact resT (by kernel_rfl)
   have H2 := H1.trans E3
   exact .inr ⟨(by assumption), g2, 0, 0, #[], rfl, B2, S1, H2, lo_g2⟩
 · skip
   have h1d := nF h1
   have h1o := (code_zero h1d).1
   have h1z := (code_zero h1d).2
   have h1zd := isB_true.1 h1z
   refine wp_skip ?_
   refine then_normal ?_
   refine wsr ?_
   refine wv (.int .i64 c) ?_
   replace B1 := B1.ext E2
   refine wcli (l01Beside_any F hF g1 _ c (by omega) _ B1) ?_
   intro g3 cap1 cs1 w4 B3 S2 E4 hg_
   have q_g1_g3 := Nat.ne_of_lt (Nat.lt_of_lt_of_le B1.lt hg_)
   have lo_g3 := Nat.le_trans (H1).size hg_
   have nl1 := nbL_length F c
   refine wv (.slice (some ⟨g3, 0, none⟩) ((nbL F c).length) cap1) ?_
   refine wv (.int .i64 0) ?_
   refine wpList_nil (then_normal ?_)
   refine wp_ret ?_
   refine ret2 (.slice (some ⟨g3, 0, none⟩) ((nbL F c).length) cap1) (.int .i64 0) rfl ?_ ?_ rfl ?_
   · exact resT (by kernel_rfl)
   · exact resT (by kernel_rfl)
   have H3 := H1.trans E4
   have hq : nbL F c = nbL F c := by rfl
   exact .inl ⟨(by assumption), g3, (nbL F c).length, cap1, cs1, rfl, B3, S2.of_eq hq, H3, lo_g3⟩


--# sNeighboursOf_t
theorem sNeighboursOf_t (F : Fld) (hF : F.wf) (c : Int) (w : World) (hz : code F (isB F c) = 0) : Calls Try.prog 26 #[.agg F.cells, .int .i64 c] w (RetI w 2 .i64 (nbL F c) (fun v => .tuple #[v, .int .i64 0])) := by
  refine (sNeighboursOf_any F hF c w).mono fun e w' h => ?_
  rcases h with ⟨_, h⟩ | ⟨h, _⟩
  · exact h
  · exact absurd hz h

--# sNeighboursOf_f
theorem sNeighboursOf_f (F : Fld) (hF : F.wf) (c : Int) (w : World) (hz : code F (isB F c) ≠ 0) : Calls Try.prog 26 #[.agg F.cells, .int .i64 c] w fun e w' => RetI w 2 .i64 [] (fun v => .tuple #[v, .int .i64 (code F (isB F c))]) e w' := by
  refine (sNeighboursOf_any F hF c w).mono fun e w' h => ?_
  rcases h with ⟨h, _⟩ | ⟨_, h⟩
  · exact absurd h hz
  · exact h

--# iNeighboursOf_any
theorem iNeighboursOf_any (F : Fld) (hF : F.wf) (c : Int) (w : World) :
 Calls Try.prog 27 #[.agg F.cells, .int .i64 c] w fun e w' => (code F (isB F c) = 0 ∧ RetI w 2 .i64 (nbL F c) (fun v => .tuple #[v, .int .i64 0]) e w') ∨ (code F (isB F c) ≠ 0 ∧ e = .returned (.tuple #[.slice none 0 0, .int .i64 (code F (isB F c))]) ∧ Ext w w') := by
 refine calls_of_wp Try.func27 rfl ?_
 refine wp_frame (a' := ⟨#[.agg F.cells, .int .i64 c, undef, undef, undef, undef, undef, undef, undef, undef, undef, undef, undef, undef], []⟩) (by kernel_rfl) ?_
 refine wsr ?_
 refine wbox F.cells ?_
 intro g1 w1 B1 E1 hg_
 have lo_g1 := Nat.le_trans ((Ext.refl w)).size hg_
 have H1 := (Ext.refl w).trans E1
 refine wboxv (.int .i64 c) ?_
 intro g2 w2 B2 E2 hg_
 have q_g1_g2 := Nat.ne_of_lt (Nat.lt_of_lt_of_le B1.lt hg_)
 have lo_g2 := Nat.le_trans (H1).size hg_
 refine wv (.slice none 0 0) ?_
 refine wv (.int .i64 0) ?_
 refine wpList_nil (then_normal ?_)
 refine wp_seq ?_
 refine wsr ?_
 refine wv (.func (.func 80) #[] #[.pointer (some ⟨g1, 0, none⟩), .pointer (some ⟨g2, 0, none⟩)]) ?_
 replace B1 := B1.ext E2
 refine wcl (fieldCode_any F hF g1 _ (.func (.func 80) #[] #[.pointer (some ⟨g1, 0, none⟩), .pointer (some ⟨g2, 0, none⟩)]) 80 #[.pointer (some ⟨g1, 0, none⟩), .pointer (some ⟨g2, 0, none⟩)] (fun _ => by kernel_rfl) (isB F c) _ B1 (fun _ E_ => NeighboursOf1_any F hF g1 _ c g2 _ _ (B1.ext E_) (B2.ext E_))) ?_
 intro w3 E3
 refine wv (.int .i64 (code F (isB F c))) ?_
 refine wpList_nil (then_normal ?_)
 refine wsr ?_
 refine wv (.int .i64 (code F (isB F c))) ?_
 refine wv (.bool ((code F (isB F c)) != 0)) ?_
 refine wpList_nil (then_normal ?_)
 have H2 := (H1.trans E2).trans E3
 refine wsplit ((code F (isB F c)) != 0) (fun h1 => ?_) (fun h1 => ?_)
 · skip
   have h1d := nT h1
   refine wsr ?_
   refine wv (.int .i64 (code F (isB F c))) ?_
   refine wv (.slice none 0 0) ?_
   refine wv (.int .i64 (code F (isB F c))) ?_
   refine wpList_nil (then_normal ?_)
   refine wp_ret ?_
   refine then_ret ?_
   refine ret2 (.slice none 0 0) (.int .i64 (code F (isB F c))) rfl ?_ ?_ rfl ?_
   · exact resT (by kernel_rfl)
   · exact resT (by kernel_rfl)
   exact .inr ⟨(by assumption), rfl, H2⟩
 · skip
   have h1d := nF h1
   have h1o := (code_zero h1d).1
   have h1z := (code_zero h1d).2
   have h1zd := isB_true.1 h1z
   refine wp_skip ?_
   refine then_normal ?_
   refine wsr ?_
   replace B2 := B2.ext E3
   refine wld (v := .int .i64 c) g2 (0) scal_int64 (B2.get (rfl)) ?_
   replace B1 := B1.ext E3
   refine wcli (neighbours_any F hF g1 _ c (by omega) _ B1) ?_
   intro g3 cap1 cs1 w4 B3 S1 E4 hg_
   have q_g1_g3 := Nat.ne_of_lt (Nat.lt_of_lt_of_le B1.lt hg_)
   have q_g2_g3 := Nat.ne_of_lt (Nat.lt_of_lt_of_le B2.lt hg_)
   have lo_g3 := Nat.le_trans (H2).size hg_
   have nl1 := nbL_length F c
   refine wv (.slice (some ⟨g3, 0, none⟩) ((nbL F c).length) cap1) ?_
   refine wv (.int .i64 0) ?_
   refine wpList_nil (then_normal ?_)
   refine wp_ret ?_
   refine ret2 (.slice (some ⟨g3, 0, none⟩) ((nbL F c).length) cap1) (.int .i64 0) rfl ?_ ?_ rfl ?_
   · exact resT (by kernel_rfl)
   · exact resT (by kernel_rfl)
   have H3 := H2.trans E4
   have hq : nbL F c = nbL F c := by rfl
   exact .inl ⟨(by assumption), g3, (nbL F c).length, cap1, cs1, rfl, B3, S1.of_eq hq, H3, lo_g3⟩


--# iNeighboursOf_t
theorem iNeighboursOf_t (F : Fld) (hF : F.wf) (c : Int) (w : World) (hz : code F (isB F c) = 0) : Calls Try.prog 27 #[.agg F.cells, .int .i64 c] w (RetI w 2 .i64 (nbL F c) (fun v => .tuple #[v, .int .i64 0])) := by
  refine (iNeighboursOf_any F hF c w).mono fun e w' h => ?_
  rcases h with ⟨_, h⟩ | ⟨h, _⟩
  · exact h
  · exact absurd hz h

--# iNeighboursOf_f
theorem iNeighboursOf_f (F : Fld) (hF : F.wf) (c : Int) (w : World) (hz : code F (isB F c) ≠ 0) : Calls Try.prog 27 #[.agg F.cells, .int .i64 c] w fun e w' => e = .returned (.tuple #[.slice none 0 0, .int .i64 (code F (isB F c))]) ∧ Ext w w' := by
  refine (iNeighboursOf_any F hF c w).mono fun e w' h => ?_
  rcases h with ⟨h, _⟩ | ⟨_, h⟩
  · exact absurd h hz
  · exact h

--# eqInt64S_nil
theorem eqInt64S_nil (b cap : Nat) (w : World) :
 Calls Try.prog 28 #[.slice none 0 0, .slice (some ⟨b, 0, none⟩) 0 cap] w fun e w' => e = .returned (.bool true) ∧ Ext w w' := by
 refine calls_of_wp Try.func28 rfl ?_
 refine wp_frame (a' := ⟨#[.slice none 0 0, .slice (some ⟨b, 0, none⟩) 0 cap, undef, undef, undef, undef, undef, undef, undef, undef, undef, undef, undef, undef, undef, undef, undef, undef, undef, undef, undef, undef, undef, undef, undef, undef], []⟩) (by kernel_rfl) ?_
 refine wsr ?_
 refine wv (.bool false) ?_
 refine wpList_nil (then_normal ?_)
 refine wp_seq ?_
 refine wsr ?_
 refine wv (.slice none 0 0) ?_
 refine wv (.int .i64 0) ?_
 refine wv (.slice (some ⟨b, 0, none⟩) 0 cap) ?_
 refine wv (.int .i64 0) ?_
 refine wvv (.bool (0 != 0)) (.bool false) (by simp) ?_
 refine wpList_nil (then_normal ?_)
 refine wcf ?_
 refine wp_skip ?_
 refine then_normal ?_
 refine wp_seq ?_
 refine wsr ?_
 refine wv (.int .i64 0) ?_
 refine wpList_nil (then_normal ?_)
 refine wp_block ?_
 refine wp_loop_rounds 1 ?_
 refine rounds_s ?_
 refine wp_seq ?_
 refine wsr ?_
 refine wv (.int .i64 0) ?_
 refine wv (.slice none 0 0) ?_
 refine wv (.int .i64 0) ?_
 refine wv (.bool false) ?_
 refine wpList_nil (then_normal ?_)
 refine wcf ?_
 refine wp_exit ?_
 refine then_exit ?_
 refine then_exit ?_
 refine block_exit ?_
 refine then_normal ?_
 refine wsr ?_
 refine wv (.bool true) ?_
 refine wpList_nil (then_normal ?_)
 refine wp_ret ?_
 refine ret1 (.bool true) rfl ?_ rfl ?_
 · exact resT (by kernel_rfl)
 exact ⟨rfl, (Ext.refl w)⟩


--# markInt64S_nil
theorem markInt64S_nil (k : Int) (w : World) :
 Calls Try.prog 29 #[.slice none 0 0, .int .i64 k] w fun e w' => e = .returned (.int .i64 k) ∧ Ext w w' := by
 refine calls_of_wp Try.func29 rfl ?_
 refine wp_frame (a' := ⟨#[.slice none 0 0, .int .i64 k, undef, undef, undef, undef, undef, undef, undef, undef, undef, undef, undef, undef, undef, undef, undef, undef, undef], []⟩) (by kernel_rfl) ?_
 refine wsr ?_
 refine wv (.int .i64 0) ?_
 refine wpList_nil (then_normal ?_)
 refine wp_seq ?_
 refine wsr ?_
 refine wv (.int .i64 0) ?_
 refine wpList_nil (then_normal ?_)
 refine wp_block ?_
 refine wp_loop_rounds 1 ?_
 refine rounds_s ?_
 refine wp_seq ?_
 refine wsr ?_
 refine wv (.int .i64 0) ?_
 refine wv (.slice none 0 0) ?_
 refine wv (.int .i64 0) ?_
 refine wv (.bool false) ?_
 refine wpList_nil (then_normal ?_)
 refine wcf ?_
 refine wp_exit ?_
 refine then_exit ?_
 refine then_exit ?_
 refine block_exit ?_
 refine then_normal ?_
 refine wsr ?_
 refine wv (.int .i64 k) ?_
 refine wv (.int .i64 k) ?_
 refine wpList_nil (then_normal ?_)
 refine wp_ret ?_
 refine ret1 (.int .i64 k) rfl ?_ rfl ?_
 · exact resT (by kernel_rfl)
 exact ⟨rfl, (Ext.refl w)⟩


--# heldInt64S_nil
theorem heldInt64S_nil (k : Int) (w : World) :
 Calls Try.prog 30 #[.slice none 0 0, .int .i64 k] w fun e w' => e = .returned (.int .i64 k) ∧ Ext w w' := by
 refine calls_of_wp Try.func30 rfl ?_
 refine wp_frame (a' := ⟨#[.slice none 0 0, .int .i64 k, undef, undef, undef, undef, undef, undef, undef, undef, undef, undef, undef, undef, undef, undef, undef, undef, undef, undef, undef], []⟩) (by kernel_rfl) ?_
 refine wsr ?_
 refine wv (.int .i64 0) ?_
 refine wpList_nil (then_normal ?_)
 refine wp_seq ?_
 refine wsr ?_
 refine wv (.int .i64 0) ?_
 refine wpList_nil (then_normal ?_)
 refine wp_block ?_
 refine wp_loop_rounds 1 ?_
 refine rounds_s ?_
 refine wp_seq ?_
 refine wsr ?_
 refine wv (.int .i64 0) ?_
 refine wv (.slice none 0 0) ?_
 refine wv (.int .i64 0) ?_
 refine wv (.bool false) ?_
 refine wpList_nil (then_normal ?_)
 refine wcf ?_
 refine wp_exit ?_
 refine then_exit ?_
 refine then_exit ?_
 refine block_exit ?_
 refine then_normal ?_
 refine wsr ?_
 refine wv (.int .i64 k) ?_
 refine wv (.int .i64 k) ?_
 refine wpList_nil (then_normal ?_)
 refine wp_ret ?_
 refine ret1 (.int .i64 k) rfl ?_ rfl ?_
 · exact resT (by kernel_rfl)
 exact ⟨rfl, (Ext.refl w)⟩


