/-
  Contracts: the cover of a cell. No conditions.
-/
import Derived.Test.YtldlaohefgianaaTy
import Derived.Test.YtldlaohefgianaaSl
import Derived.Test.YtldlaohefgianaaMth
import Derived.Test.YtldlaohefgianaaFn9
namespace Go.Proofs.Ytldlaohefgianaa
open Go.RowKit
set_option linter.unusedSimpArgs false
set_option linter.unusedVariables false
set_option maxHeartbeats 4000000
set_option maxRecDepth 100000
attribute [local irreducible] wpList Code.wp
--# max0
theorem max0 {x : Int} (h : 0 ≤ x) : (if x > 0 then x else 0) = x := by split <;> omega
theorem slt__impl_Scarecrow : SlT Try.prog 97 96 3 6 (.agg #[.int .i16 0, .int .i16 0, .int .i8 0]) := ⟨Try.underlying97, by kernel_rfl, by kernel_rfl, by kernel_rfl, by decide⟩
theorem scal__impl_Scarecrow : ScalT Try.prog 97 := ⟨_, Try.underlying97, rfl, by kernel_rfl⟩

--# cvU
def cvU (F : Fld) (p c w l : Int) : Bool := (F.k c.toNat == 0) && decide (l ≤ w / (1 + sqr p c))
section
variable {F : Fld} {p c w l : Int}
theorem cvU_1 (h : (F.k c.toNat == 0) = false) : cvU F p c w l = false := by unfold cvU; rw [h]; rfl
theorem cvU_t (h : (F.k c.toNat == 0) = true) : cvU F p c w l = decide (l ≤ w / (1 + sqr p c)) := by unfold cvU; rw [h]; rfl
theorem cvU_eq (hp : isB F p = true) (h3 : (F.k p.toNat != 3) = true) : (isB F p && cvR F p c w l) = (isB F c && cvU F p c w l) := by
  rw [hp, Bool.true_and]
  cases hc : isB F c with
  | false => rw [cvR_2 hc]; rfl
  | true =>
    rw [Bool.true_and]
    cases hk : (F.k c.toNat == 0) with
    | false => rw [cvR_3 hk, cvU_1 hk]
    | true => rw [cvR_t h3 hc hk, cvU_t hk]
def cvoC (F : Fld) (p w l : Int) : Int := if code F (isB F p && (inB w 1 1000 && inB l 1 1000)) = 0 then (if (F.k p.toNat == 3) = true then 4 else 0) else code F (isB F p && (inB w 1 1000 && inB l 1 1000))
def cvoS (F : Fld) (p w l : Int) : Int × Int := if cvoC F p w l = 0 then setC F (fun c_ => cvU F p c_ w l) 100 else (0, 0)
theorem cvoC_1 (h : code F (isB F p && (inB w 1 1000 && inB l 1 1000)) ≠ 0) : cvoC F p w l = code F (isB F p && (inB w 1 1000 && inB l 1 1000)) := if_neg h
theorem cvoC_2 (h : code F (isB F p && (inB w 1 1000 && inB l 1 1000)) = 0) (h2 : (F.k p.toNat == 3) = true) : cvoC F p w l = 4 := by unfold cvoC; rw [if_pos h, if_pos h2]
theorem cvoC_3 (h : code F (isB F p && (inB w 1 1000 && inB l 1 1000)) = 0) (h2 : (F.k p.toNat == 3) = false) : cvoC F p w l = 0 := by unfold cvoC; rw [if_pos h, if_neg (by rw [h2]; decide)]
theorem cvoS_1 (h : code F (isB F p && (inB w 1 1000 && inB l 1 1000)) ≠ 0) : cvoS F p w l = (0, 0) := by unfold cvoS; rw [if_neg (by rw [cvoC_1 h]; exact h)]
theorem cvoS_2 (h : code F (isB F p && (inB w 1 1000 && inB l 1 1000)) = 0) (h2 : (F.k p.toNat == 3) = true) : cvoS F p w l = (0, 0) := by unfold cvoS; rw [if_neg (by rw [cvoC_2 h h2]; decide)]
theorem cvoS_3 (h : code F (isB F p && (inB w 1 1000 && inB l 1 1000)) = 0) (h2 : (F.k p.toNat == 3) = false) : cvoS F p w l = setC F (fun c_ => cvU F p c_ w l) 100 := by unfold cvoS; rw [if_pos (cvoC_3 h h2)]
theorem beqT {x y : Int} (h : (x != y) = true) : (x == y) = false := by unfold bne at h; cases hb : (x == y) <;> simp_all
theorem beqF {x y : Int} (h : (x != y) = false) : (x == y) = true := by unfold bne at h; cases hb : (x == y) <;> simp_all
theorem plcT {x : Int} (hp : isB F p = true) (h : (isB F p && (x != 3)) = false) : (x == 3) = true := by rw [hp, Bool.true_and] at h; exact beqF h
end
attribute [irreducible] cvU cvoC cvoS


--# fearOf_one
theorem fearOf_one (p w0 : Int) (bs : Nat) (c : Int) (hp : 0 ≤ p ∧ p ≤ 99) (hw0 : 0 ≤ w0 ∧ w0 ≤ 1000) (hc : 0 ≤ c ∧ c ≤ 99) (w : World) (hs : Blk w bs 96 #[.int .i16 p, .int .i16 w0, .int .i8 0]) :
 Calls Try.prog 72 #[.slice (some ⟨bs, 0, none⟩) 1 1, .int .i64 c] w fun e w' => e = .returned (.int .i64 (w0 / (1 + sqr p c))) ∧ Ext w w' := by
 have sb_ := sqr_b p c (by omega) (by omega)
 have ed_ := Int.ediv_nonneg (show 0 ≤ w0 by omega) (show 0 ≤ 1 + sqr p c by omega)
 refine calls_of_wp Try.func72 rfl ?_
 refine wp_frame (a' := ⟨#[.slice (some ⟨bs, 0, none⟩) 1 1, .int .i64 c, undef, undef, undef, undef, undef, undef, undef, undef, undef, undef, undef, undef, undef, undef, undef, undef, undef, undef, undef], []⟩) (by kernel_rfl) ?_
 refine wsr ?_
 refine wv (.int .i64 0) ?_
 refine wpList_nil (then_normal ?_)
 refine wsr ?_
 refine wv (.int .i64 0) ?_
 refine wpList_nil (then_normal ?_)
 refine wp_seq ?_
 refine wsr ?_
 refine wv (.slice (some ⟨bs, 0, none⟩) 1 1) ?_
 refine wv (.int .i64 1) ?_
 refine wv (.int .i64 0) ?_
 refine wpList_nil (then_normal ?_)
 refine wp_block ?_
 refine wp_loop_rounds 2 ?_
 refine rounds_s ?_
 refine wsr ?_
 refine wv (.bool true) ?_
 refine wpList_nil (then_normal ?_)
 refine wp_seq ?_
 refine wct ?_
 refine wp_skip ?_
 refine then_normal ?_
 refine wp_seq ?_
 refine wp_block ?_
 refine wsr ?_
 refine wsix bs 0 1 1 0 .i64 slit__impl_Scarecrow ?_
 refine wrow row_impl_Scarecrow hs (by rfl) ?_
 refine wnew #[.int .i16 0, .int .i16 0, .int .i8 0] Try.zeroValue96 rfl ?_
 intro g1 w1 B1 E1 hg_
 have q_bs_g1 := Nat.ne_of_lt (Nat.lt_of_lt_of_le hs.lt hg_)
 have lo_g1 := Nat.le_trans ((Ext.refl w)).size hg_
 refine wput #[.int .i16 p, .int .i16 w0, .int .i8 0] row_impl_Scarecrow B1 (by rfl) (by rfl) (by kernel_rfl) ?_
 intro w2 B1_ X1
 clear B1; have B1 := B1_; clear B1_
 refine wpList_nil (then_normal ?_)
 refine wp_region_lit ?_
 refine wv (.int .i64 0) ?_
 refine wrow row_impl_Scarecrow B1 (by rfl) ?_
 refine wv (.int .i64 c) ?_
 refine wcl (fear_any p w0 c (by omega) (by omega) (by omega) _) ?_
 intro w3 E2
 have sb1 := sqr_b p c (by omega) (by omega)
 refine wvv (.int .i64 (if (w0 / (1 + sqr p c)) > 0 then (w0 / (1 + sqr p c)) else 0)) (.int .i64 (w0 / (1 + sqr p c))) (congrArg _ (max0 (by omega))) ?_
 refine wv (.int .i64 (w0 / (1 + sqr p c))) ?_
 refine wpList_nil (block_normal (then_normal ?_))
 refine wp_region_lit ?_
 refine wv (.int .i64 1) ?_
 refine wv (.int .i64 1) ?_
 refine wpList_nil (then_normal ?_)
 refine rounds_s ?_
 refine wp_frame (a' := ⟨#[.slice (some ⟨bs, 0, none⟩) 1 1, .int .i64 c, undef, undef, .int .i64 0, .int .i64 (w0 / (1 + sqr p c)), undef, .pointer (some ⟨g1, 0, none⟩), .slice (some ⟨bs, 0, none⟩) 1 1, .int .i64 1, .int .i64 1, .bool true, .pointer (some ⟨bs, 0, none⟩), .agg #[.int .i16 p, .int .i16 w0, .int .i8 0], .int .i64 0, .agg #[.int .i16 p, .int .i16 w0, .int .i8 0], .int .i64 c, .int .i64 (w0 / (1 + sqr p c)), .int .i64 (w0 / (1 + sqr p c)), .int .i64 1, undef], []⟩) (by kernel_rfl) ?_
 refine wsr ?_
 refine wv (.bool false) ?_
 refine wpList_nil (then_normal ?_)
 refine wp_seq ?_
 refine wcf ?_
 refine wp_exit ?_
 refine then_exit ?_
 refine then_exit ?_
 refine block_exit ?_
 refine then_normal ?_
 refine wsr ?_
 refine wv (.int .i64 (w0 / (1 + sqr p c))) ?_
 refine wv (.int .i64 (w0 / (1 + sqr p c))) ?_
 refine wpList_nil (then_normal ?_)
 refine wp_ret ?_
 have H1 := (X1.ext w lo_g1 ((Ext.refl w).trans E1)).trans E2
 refine ret1 (.int .i64 (w0 / (1 + sqr p c))) rfl ?_ rfl ?_
 · exact resT (by kernel_rfl)
 exact ⟨rfl, H1⟩


--# safeCells1_any
theorem safeCells1_any (c : Int) (F : Fld) (hF : F.wf) (b0 : Nat) (t0 : TypeId) (bf : Nat) (tf : TypeId) (p w0 : Int) (bs b1 : Nat) (t1 : TypeId) (l : Int) (b2 : Nat) (t2 : TypeId) (hp : 0 ≤ p ∧ p ≤ 99) (hw0 : 0 ≤ w0 ∧ w0 ≤ 1000) (hc : 0 ≤ c ∧ c ≤ 99) (w : World) (hb0 : Blk w b0 t0 #[.pointer (some ⟨bf, 0, none⟩)]) (hbf : Blk w bf tf F.cells) (hb1 : Blk w b1 t1 #[.slice (some ⟨bs, 0, none⟩) 1 1]) (hs : Blk w bs 96 #[.int .i16 p, .int .i16 w0, .int .i8 0]) (hb2 : Blk w b2 t2 #[.int .i64 l]) :
 Calls Try.prog 71 #[.int .i64 c, .pointer (some ⟨b0, 0, none⟩), .pointer (some ⟨b1, 0, none⟩), .pointer (some ⟨b2, 0, none⟩)] w fun e w' => e = .returned (.bool (cvU F p c w0 l)) ∧ Ext w w' := by
 have sb_ := sqr_b p c (by omega) (by omega)
 refine calls_of_wp Try.func71 rfl ?_
 refine wp_frame (a' := ⟨#[.int .i64 c, .pointer (some ⟨b0, 0, none⟩), .pointer (some ⟨b1, 0, none⟩), .pointer (some ⟨b2, 0, none⟩), undef, undef, undef, undef, undef, undef, undef, undef, undef, undef, undef, undef, undef, undef, undef, undef], []⟩) (by kernel_rfl) ?_
 refine wsr ?_
 refine wv (.bool false) ?_
 refine wpList_nil (then_normal ?_)
 refine wp_seq ?_
 refine wp_frame (a' := ⟨#[.int .i64 c, .pointer (some ⟨b0, 0, none⟩), .pointer (some ⟨b1, 0, none⟩), .pointer (some ⟨b2, 0, none⟩), undef, .bool false, undef, undef, undef, undef, undef, undef, undef, undef, undef, undef, undef, undef, undef, undef], []⟩) (by kernel_rfl) ?_
 refine split_bool ((F.k ((c).toNat)) == 0) (fun h1 => ?_) (fun h1 => ?_)
 · skip
   have h1d := eT h1
   have ce1 := hF.k1 ((c).toNat) (by omega)
   refine region_go 15 [6, 7, 8, 9, 10, 11, 12, 13, 14, 15, 16, 17, 18, 19, 5] [[], [], [0], [2], [3, 1], [4], [5], [6], [7], [7], [7, 8, 9], [7], [7, 10, 11], [7, 12], [13]]
    (fun i_ => ([.val (.pointer (some ⟨bf, 0, none⟩)), .val (.int .i64 c), .val (.pointer (some ⟨bf, 0, none⟩)), .val (.pointer (some ⟨bf, 2, none⟩)), .val (.pointer (some ⟨bf, 2 + (c).toNat, none⟩)), .val (.int .u8 (F.k ((c).toNat))), .val (.bool true), .val (.bool true), .val (.slice (some ⟨bs, 0, none⟩) 1 1), .val (.int .i64 c), .val (.int .i64 (w0 / (1 + sqr p c))), .val (.int .i64 l), .val (.bool (decide (l ≤ w0 / (1 + sqr p c)))), .val (.bool (decide (l ≤ w0 / (1 + sqr p c)))), .val (.bool (decide (l ≤ w0 / (1 + sqr p c))))] : List Fct).getD i_ .any)
    (by kernel_rfl) (by kernel_rfl) (by decide) (by simp) rfl (all_succ (all_succ (all_succ (all_succ (all_succ (all_succ (all_succ (all_succ (all_succ (all_succ (all_succ (all_succ (all_succ (all_succ (all_succ all_zero ?_) ?_) ?_) ?_) ?_) ?_) ?_) ?_) ?_) ?_) ?_) ?_) ?_) ?_) ?_) ?_
   · refine step0 rfl rfl rfl (fun wr hw => ?_)
     exact OpRun.cell (g := b0) (off := 0) (v := .pointer (some ⟨bf, 0, none⟩)) scal__impl_Field rfl (by kernel_rfl) ((hb0.ext hw).get (rfl)) ⟨Ext.refl _, rfl⟩
   · refine step0 rfl rfl rfl (fun wr hw => ?_)
     exact OpRun.val (.int .i64 c) (.int .i64 c) (by kernel_rfl) rfl ⟨Ext.refl _, rfl⟩
   · refine step1 rfl rfl rfl rfl (fun u0 wr hw h0 => ?_)
     cases h0
     exact OpRun.val (.pointer (some ⟨bf, 0, none⟩)) (.pointer (some ⟨bf, 0, none⟩)) (by kernel_rfl) rfl ⟨Ext.refl _, rfl⟩
   · refine step1 rfl rfl rfl rfl (fun u0 wr hw h0 => ?_)
     cases h0
     exact OpRun.val (.pointer (some ⟨bf, 2, none⟩)) (.pointer (some ⟨bf, 2, none⟩)) (by kernel_rfl) rfl ⟨Ext.refl _, rfl⟩
   · refine step2 rfl rfl rfl rfl rfl (fun u0 u1 wr hw h0 h1 => ?_)
     cases h0
     cases h1
     exact OpRun.ixa (i := c) (k := .i64) (g := bf) (off := 2) arrt__100_uint8 rfl (by kernel_rfl) (by kernel_rfl) (by omega) (by omega) ⟨Ext.refl _, rfl⟩
   · refine step1 rfl rfl rfl rfl (fun u0 wr hw h0 => ?_)
     cases h0
     exact OpRun.cell (g := bf) (off := 2 + (c).toNat) (v := .int .u8 (F.k ((c).toNat))) scal_uint8 rfl (by kernel_rfl) ((hbf.ext hw).get (Fld.getk _ _ (by omega))) ⟨Ext.refl _, rfl⟩
   · refine step1 rfl rfl rfl rfl (fun u0 wr hw h0 => ?_)
     cases h0
     exact OpRun.val (.bool ((F.k ((c).toNat)) == 0)) (.bool true) (by kernel_rfl) (congrArg Value.bool h1) ⟨Ext.refl _, rfl⟩
   · refine step1 rfl rfl rfl rfl (fun u0 wr hw h0 => ?_)
     cases h0
     exact OpRun.val (.bool true) (.bool true) (by kernel_rfl) rfl ⟨Ext.refl _, rfl⟩
   · refine gstep1 rfl rfl rfl rfl (fun u wr h => by cases h; rfl) (fun u0 wr hw h0 => ?_)
     cases h0
     exact OpRun.cell (g := b1) (off := 0) (v := .slice (some ⟨bs, 0, none⟩) 1 1) scal__impl_Scarecrow rfl (by kernel_rfl) ((hb1.ext hw).get (rfl)) ⟨Ext.refl _, rfl⟩
   · refine gstep1 rfl rfl rfl rfl (fun u wr h => by cases h; rfl) (fun u0 wr hw h0 => ?_)
     cases h0
     exact OpRun.val (.int .i64 c) (.int .i64 c) (by kernel_rfl) rfl ⟨Ext.refl _, rfl⟩
   · refine gstep3 rfl rfl rfl rfl rfl rfl (fun u wr h => by cases h; rfl) (fun u0 u1 u2 wr hw h0 h1 h2 => ?_)
     cases h0
     cases h1
     cases h2
     exact OpRun.call 72 #[.slice (some ⟨bs, 0, none⟩) 1 1, .int .i64 c] (by kernel_rfl) ((fearOf_one p w0 bs c (by omega) (by omega) (by omega) _ (hs.ext hw)).mono fun e w1 ⟨he, hb⟩ => ⟨_, he, hb, rfl⟩)
   · refine gstep1 rfl rfl rfl rfl (fun u wr h => by cases h; rfl) (fun u0 wr hw h0 => ?_)
     cases h0
     exact OpRun.cell (g := b2) (off := 0) (v := .int .i64 l) scal_int64 rfl (by kernel_rfl) ((hb2.ext hw).get (rfl)) ⟨Ext.refl _, rfl⟩
   · refine gstep3 rfl rfl rfl rfl rfl rfl (fun u wr h => by cases h; rfl) (fun u0 u1 u2 wr hw h0 h1 h2 => ?_)
     cases h0
     cases h1
     cases h2
     exact OpRun.val (.bool (decide (l ≤ w0 / (1 + sqr p c)))) (.bool (decide (l ≤ w0 / (1 + sqr p c)))) (by kernel_rfl) rfl ⟨Ext.refl _, rfl⟩
   · refine step2 rfl rfl rfl rfl rfl (fun u0 u1 wr hw h0 h1 => ?_)
     cases h0
     cases h1
     exact OpRun.val (.bool (decide (l ≤ w0 / (1 + sqr p c)))) (.bool (decide (l ≤ w0 / (1 + sqr p c)))) (by kernel_rfl) rfl ⟨Ext.refl _, rfl⟩
   · refine step1 rfl rfl rfl rfl (fun u0 wr hw h0 => ?_)
     cases h0
     exact OpRun.val (.bool (decide (l ≤ w0 / (1 + sqr p c)))) (.bool (decide (l ≤ w0 / (1 + sqr p c)))) (by kernel_rfl) rfl ⟨Ext.refl _, rfl⟩
   refine end15 (fun u0 u1 u2 u3 u4 u5 u6 u7 u8 u9 u10 u11 u12 u13 u14 w1 E1 f0 f1 f2 f3 f4 f5 f6 f7 f8 f9 f10 f11 f12 f13 f14 => ?_)
   cases f0
   cases f1
   cases f2
   cases f3
   cases f4
   cases f5
   cases f6
   cases f7
   cases f8
   cases f9
   cases f10
   cases f11
   cases f12
   cases f13
   cases f14
   refine wpList_nil (then_normal ?_)
   refine wp_ret ?_
   have H1 := (Ext.refl w).trans E1
   refine ret1 (.bool (cvU F p c w0 l)) rfl ?_ rfl ?_
   · refine (resT (v := .bool (decide (l ≤ w0 / (1 + sqr p c)))) (by kernel_rfl)).trans ?_
     refine congrArg Value.bool ?_
     first | exact (cvU_1 (by assumption)).symm | exact (cvU_t (by assumption)).symm
   exact ⟨rfl, H1⟩
 · skip
   have h1d := eF h1
   have ce2 := hF.k1 ((c).toNat) (by omega)
   refine region_go 15 [6, 7, 8, 9, 10, 11, 12, 13, 14, 15, 16, 17, 18, 19, 5] [[], [], [0], [2], [3, 1], [4], [5], [6], [7], [7], [7, 8, 9], [7], [7, 10, 11], [7, 12], [13]]
    (fun i_ => ([.val (.pointer (some ⟨bf, 0, none⟩)), .val (.int .i64 c), .val (.pointer (some ⟨bf, 0, none⟩)), .val (.pointer (some ⟨bf, 2, none⟩)), .val (.pointer (some ⟨bf, 2 + (c).toNat, none⟩)), .val (.int .u8 (F.k ((c).toNat))), .val (.bool false), .val (.bool false), .val undef, .val undef, .val undef, .val undef, .val undef, .val (.bool false), .val (.bool false)] : List Fct).getD i_ .any)
    (by kernel_rfl) (by kernel_rfl) (by decide) (by simp) rfl (all_succ (all_succ (all_succ (all_succ (all_succ (all_succ (all_succ (all_succ (all_succ (all_succ (all_succ (all_succ (all_succ (all_succ (all_succ all_zero ?_) ?_) ?_) ?_) ?_) ?_) ?_) ?_) ?_) ?_) ?_) ?_) ?_) ?_) ?_) ?_
   · refine step0 rfl rfl rfl (fun wr hw => ?_)
     exact OpRun.cell (g := b0) (off := 0) (v := .pointer (some ⟨bf, 0, none⟩)) scal__impl_Field rfl (by kernel_rfl) ((hb0.ext hw).get (rfl)) ⟨Ext.refl _, rfl⟩
   · refine step0 rfl rfl rfl (fun wr hw => ?_)
     exact OpRun.val (.int .i64 c) (.int .i64 c) (by kernel_rfl) rfl ⟨Ext.refl _, rfl⟩
   · refine step1 rfl rfl rfl rfl (fun u0 wr hw h0 => ?_)
     cases h0
     exact OpRun.val (.pointer (some ⟨bf, 0, none⟩)) (.pointer (some ⟨bf, 0, none⟩)) (by kernel_rfl) rfl ⟨Ext.refl _, rfl⟩
   · refine step1 rfl rfl rfl rfl (fun u0 wr hw h0 => ?_)
     cases h0
     exact OpRun.val (.pointer (some ⟨bf, 2, none⟩)) (.pointer (some ⟨bf, 2, none⟩)) (by kernel_rfl) rfl ⟨Ext.refl _, rfl⟩
   · refine step2 rfl rfl rfl rfl rfl (fun u0 u1 wr hw h0 h1 => ?_)
     cases h0
     cases h1
     exact OpRun.ixa (i := c) (k := .i64) (g := bf) (off := 2) arrt__100_uint8 rfl (by kernel_rfl) (by kernel_rfl) (by omega) (by omega) ⟨Ext.refl _, rfl⟩
   · refine step1 rfl rfl rfl rfl (fun u0 wr hw h0 => ?_)
     cases h0
     exact OpRun.cell (g := bf) (off := 2 + (c).toNat) (v := .int .u8 (F.k ((c).toNat))) scal_uint8 rfl (by kernel_rfl) ((hbf.ext hw).get (Fld.getk _ _ (by omega))) ⟨Ext.refl _, rfl⟩
   · refine step1 rfl rfl rfl rfl (fun u0 wr hw h0 => ?_)
     cases h0
     exact OpRun.val (.bool ((F.k ((c).toNat)) == 0)) (.bool false) (by kernel_rfl) (congrArg Value.bool h1) ⟨Ext.refl _, rfl⟩
   · refine step1 rfl rfl rfl rfl (fun u0 wr hw h0 => ?_)
     cases h0
     exact OpRun.val (.bool false) (.bool false) (by kernel_rfl) rfl ⟨Ext.refl _, rfl⟩
   · refine skip_ rfl rfl rfl (fun u wr h => by cases h; rfl) (fun _ => rfl)
   · refine skip_ rfl rfl rfl (fun u wr h => by cases h; rfl) (fun _ => rfl)
   · refine skip_ rfl rfl rfl (fun u wr h => by cases h; rfl) (fun _ => rfl)
   · refine skip_ rfl rfl rfl (fun u wr h => by cases h; rfl) (fun _ => rfl)
   · refine skip_ rfl rfl rfl (fun u wr h => by cases h; rfl) (fun _ => rfl)
   · refine step2 rfl rfl rfl rfl rfl (fun u0 u1 wr hw h0 h1 => ?_)
     cases h0
     cases h1
     exact OpRun.val (.bool false) (.bool false) (by kernel_rfl) rfl ⟨Ext.refl _, rfl⟩
   · refine step1 rfl rfl rfl rfl (fun u0 wr hw h0 => ?_)
     cases h0
     exact OpRun.val (.bool false) (.bool false) (by kernel_rfl) rfl ⟨Ext.refl _, rfl⟩
   refine end15 (fun u0 u1 u2 u3 u4 u5 u6 u7 u8 u9 u10 u11 u12 u13 u14 w2 E2 f0 f1 f2 f3 f4 f5 f6 f7 f8 f9 f10 f11 f12 f13 f14 => ?_)
   cases f0
   cases f1
   cases f2
   cases f3
   cases f4
   cases f5
   cases f6
   cases f7
   cases f8
   cases f9
   cases f10
   cases f11
   cases f12
   cases f13
   cases f14
   refine wpList_nil (then_normal ?_)
   refine wp_ret ?_
   have H2 := (Ext.refl w).trans E2
   refine ret1 (.bool (cvU F p c w0 l)) rfl ?_ rfl ?_
   · refine (resT (v := .bool false) (by kernel_rfl)).trans ?_
     refine congrArg Value.bool ?_
     first | exact (cvU_1 (by assumption)).symm | exact (cvU_t (by assumption)).symm
   exact ⟨rfl, H2⟩


--# safeCells_one
theorem safeCells_one (F : Fld) (hF : F.wf) (b : Nat) (t : TypeId) (p w0 : Int) (bs : Nat) (l : Int) (hp : 0 ≤ p ∧ p ≤ 99) (hw0 : 0 ≤ w0 ∧ w0 ≤ 1000) (w : World) (hb : Blk w b t F.cells) (hs : Blk w bs 96 #[.int .i16 p, .int .i16 w0, .int .i8 0]) :
 Calls Try.prog 66 #[.pointer (some ⟨b, 0, none⟩), .slice (some ⟨bs, 0, none⟩) 1 1, .int .i64 l] w fun e w' => e = .returned (.agg #[.int .u64 ((setC F (fun c_ => cvU F p c_ w0 l) 100).1), .int .u64 ((setC F (fun c_ => cvU F p c_ w0 l) 100).2)]) ∧ Ext w w' := by
 refine calls_of_wp Try.func66 rfl ?_
 refine wp_frame (a' := ⟨#[.pointer (some ⟨b, 0, none⟩), .slice (some ⟨bs, 0, none⟩) 1 1, .int .i64 l, undef, undef, undef, undef, undef, undef, undef], []⟩) (by kernel_rfl) ?_
 refine wsr ?_
 refine wboxv (.pointer (some ⟨b, 0, none⟩)) ?_
 intro g1 w1 B1 E1 hg_
 have q_b_g1 := Nat.ne_of_lt (Nat.lt_of_lt_of_le hb.lt hg_)
 have q_bs_g1 := Nat.ne_of_lt (Nat.lt_of_lt_of_le hs.lt hg_)
 have lo_g1 := Nat.le_trans ((Ext.refl w)).size hg_
 have H1 := (Ext.refl w).trans E1
 replace hb := hb.ext E1
 replace hs := hs.ext E1
 refine wboxv (.slice (some ⟨bs, 0, none⟩) 1 1) ?_
 intro g2 w2 B2 E2 hg_
 have q_b_g2 := Nat.ne_of_lt (Nat.lt_of_lt_of_le hb.lt hg_)
 have q_bs_g2 := Nat.ne_of_lt (Nat.lt_of_lt_of_le hs.lt hg_)
 have q_g1_g2 := Nat.ne_of_lt (Nat.lt_of_lt_of_le B1.lt hg_)
 have lo_g2 := Nat.le_trans (H1).size hg_
 have H2 := H1.trans E2
 replace hb := hb.ext E2
 replace hs := hs.ext E2
 replace B1 := B1.ext E2
 refine wboxv (.int .i64 l) ?_
 intro g3 w3 B3 E3 hg_
 have q_b_g3 := Nat.ne_of_lt (Nat.lt_of_lt_of_le hb.lt hg_)
 have q_bs_g3 := Nat.ne_of_lt (Nat.lt_of_lt_of_le hs.lt hg_)
 have q_g1_g3 := Nat.ne_of_lt (Nat.lt_of_lt_of_le B1.lt hg_)
 have q_g2_g3 := Nat.ne_of_lt (Nat.lt_of_lt_of_le B2.lt hg_)
 have lo_g3 := Nat.le_trans (H2).size hg_
 have H3 := H2.trans E3
 replace hb := hb.ext E3
 replace hs := hs.ext E3
 replace B1 := B1.ext E3
 replace B2 := B2.ext E3
 refine wnew #[.int .u64 0, .int .u64 0] Try.zeroValue43 rfl ?_
 intro g4 w4 B4 E4 hg_
 have q_b_g4 := Nat.ne_of_lt (Nat.lt_of_lt_of_le hb.lt hg_)
 have q_bs_g4 := Nat.ne_of_lt (Nat.lt_of_lt_of_le hs.lt hg_)
 have q_g1_g4 := Nat.ne_of_lt (Nat.lt_of_lt_of_le B1.lt hg_)
 have q_g2_g4 := Nat.ne_of_lt (Nat.lt_of_lt_of_le B2.lt hg_)
 have q_g3_g4 := Nat.ne_of_lt (Nat.lt_of_lt_of_le B3.lt hg_)
 have lo_g4 := Nat.le_trans (H3).size hg_
 refine wpList_nil (then_normal ?_)
 refine wsr ?_
 replace B1 := B1.ext E4
 refine wld (v := .pointer (some ⟨b, 0, none⟩)) g1 (0) scal__impl_Field (B1.get (rfl)) ?_
 refine wv (.func (.func 71) #[] #[.pointer (some ⟨g1, 0, none⟩), .pointer (some ⟨g2, 0, none⟩), .pointer (some ⟨g3, 0, none⟩)]) ?_
 replace hb := hb.ext E4
 replace B2 := B2.ext E4
 replace hs := hs.ext E4
 replace B3 := B3.ext E4
 refine wcl (those_any F hF b _ (.func (.func 71) #[] #[.pointer (some ⟨g1, 0, none⟩), .pointer (some ⟨g2, 0, none⟩), .pointer (some ⟨g3, 0, none⟩)]) 71 (fun c_ => #[.int .i64 c_, .pointer (some ⟨g1, 0, none⟩), .pointer (some ⟨g2, 0, none⟩), .pointer (some ⟨g3, 0, none⟩)]) (fun c_ => cvU F p c_ w0 l) (fun _ _ => by kernel_rfl) _ hb (fun c_ _ I_ E_ => by have J_ := isB_true.1 I_; exact safeCells1_any c_ F hF g1 _ b _ p w0 bs g2 _ l g3 _ (by omega) (by omega) (by omega) _ (B1.ext E_) (hb.ext E_) (B2.ext E_) (hs.ext E_) (B3.ext E_))) ?_
 intro w5 E5
 replace B4 := B4.ext E5
 refine wput #[.int .u64 ((setC F (fun c_ => cvU F p c_ w0 l) 100).1), .int .u64 ((setC F (fun c_ => cvU F p c_ w0 l) 100).2)] row_impl_Cells B4 (by rfl) (by rfl) (by kernel_rfl) ?_
 intro w6 B4_ X1
 clear B4; have B4 := B4_; clear B4_
 refine wpList_nil (then_normal ?_)
 refine wp_ret ?_
 have H4 := X1.ext w lo_g4 ((H3.trans E4).trans E5)
 refine ret1 (.agg #[.int .u64 ((setC F (fun c_ => cvU F p c_ w0 l) 100).1), .int .u64 ((setC F (fun c_ => cvU F p c_ w0 l) 100).2)]) rfl ?_ rfl ?_
 · refine ⟨g4, 43, #[.int .u64 ((setC F (fun c_ => cvU F p c_ w0 l) 100).1), .int .u64 ((setC F (fun c_ => cvU F p c_ w0 l) 100).2)], _, by kernel_rfl, B4, row_impl_Cells, ?_, ?_⟩
   · rfl
   · rfl
 exact ⟨rfl, H4⟩


--# cover_any
theorem cover_any (F : Fld) (hF : F.wf) (b : Nat) (t : TypeId) (p : Int) (w0 : Int) (l : Int) (hp : 0 ≤ p ∧ p ≤ 99) (hw0 : 0 ≤ w0 ∧ w0 ≤ 1000) (w : World) (hb : Blk w b t F.cells) :
 Calls Try.prog 52 #[.pointer (some ⟨b, 0, none⟩), .int .i64 p, .int .i64 w0, .int .i64 l] w fun e w' => e = .returned (.agg #[.int .u64 ((setC F (fun c_ => cvU F p c_ w0 l) 100).1), .int .u64 ((setC F (fun c_ => cvU F p c_ w0 l) 100).2)]) ∧ Ext w w' := by
 refine calls_of_wp Try.func52 rfl ?_
 refine wp_frame (a' := ⟨#[.pointer (some ⟨b, 0, none⟩), .int .i64 p, .int .i64 w0, .int .i64 l, undef, undef, undef, undef, undef, undef, undef, undef, undef, undef, undef, undef, undef, undef], []⟩) (by kernel_rfl) ?_
 refine wsr ?_
 refine wnew #[.int .u64 0, .int .u64 0] Try.zeroValue43 rfl ?_
 intro g1 w1 B1 E1 hg_
 have q_b_g1 := Nat.ne_of_lt (Nat.lt_of_lt_of_le hb.lt hg_)
 have lo_g1 := Nat.le_trans ((Ext.refl w)).size hg_
 refine wpList_nil (then_normal ?_)
 refine wsr ?_
 refine wv (.pointer (some ⟨b, 0, none⟩)) ?_
 refine wv (.int .i64 p) ?_
 refine wi16 p ?_
 refine wv (.int .i64 w0) ?_
 refine wi16 w0 ?_
 refine wv (.agg #[.int .i16 p, .int .i16 w0, .int .i8 0]) ?_
 have H1 := (Ext.refl w).trans E1
 replace hb := hb.ext E1
 refine wbsl 1 #[.int .i16 p, .int .i16 w0, .int .i8 0] slt__impl_Scarecrow ?_
 intro g2 w2 B2 E2 hg_
 have q_b_g2 := Nat.ne_of_lt (Nat.lt_of_lt_of_le hb.lt hg_)
 have q_g1_g2 := Nat.ne_of_lt (Nat.lt_of_lt_of_le B1.lt hg_)
 have lo_g2 := Nat.le_trans (H1).size hg_
 refine wv (.int .i64 l) ?_
 replace hb := hb.ext E2
 refine wcl (safeCells_one F hF b _ p w0 g2 l (by omega) (by omega) _ hb B2) ?_
 intro w3 E3
 replace B1 := (B1.ext E2).ext E3
 refine wput #[.int .u64 ((setC F (fun c_ => cvU F p c_ w0 l) 100).1), .int .u64 ((setC F (fun c_ => cvU F p c_ w0 l) 100).2)] row_impl_Cells B1 (by rfl) (by rfl) (by kernel_rfl) ?_
 intro w4 B1_ X1
 clear B1; have B1 := B1_; clear B1_
 refine wpList_nil (then_normal ?_)
 refine wp_ret ?_
 have H2 := X1.ext w lo_g1 ((H1.trans E2).trans E3)
 refine ret1 (.agg #[.int .u64 ((setC F (fun c_ => cvU F p c_ w0 l) 100).1), .int .u64 ((setC F (fun c_ => cvU F p c_ w0 l) 100).2)]) rfl ?_ rfl ?_
 · refine ⟨g1, 43, #[.int .u64 ((setC F (fun c_ => cvU F p c_ w0 l) 100).1), .int .u64 ((setC F (fun c_ => cvU F p c_ w0 l) 100).2)], _, by kernel_rfl, B1, row_impl_Cells, ?_, ?_⟩
   · rfl
   · rfl
 exact ⟨rfl, H2⟩


--# l03Cover_any
theorem l03Cover_any (F : Fld) (hF : F.wf) (b : Nat) (t : TypeId) (p : Int) (w0 : Int) (l : Int) (hw0 : 0 ≤ w0 ∧ w0 ≤ 1000) (hpb : isB F p = true) (h3 : (F.k p.toNat != 3) = true) (w : World) (hb : Blk w b t F.cells) :
 Calls Try.prog 26 #[.pointer (some ⟨b, 0, none⟩), .int .i64 p, .int .i64 w0, .int .i64 l] w fun e w' => e = .returned (.agg #[.int .u64 ((setC F (fun c_ => cvU F p c_ w0 l) 100).1), .int .u64 ((setC F (fun c_ => cvU F p c_ w0 l) 100).2)]) ∧ Ext w w' := by
 have hp2_ := isB_true.1 hpb
 refine calls_of_wp Try.func26 rfl ?_
 refine wp_frame (a' := ⟨#[.pointer (some ⟨b, 0, none⟩), .int .i64 p, .int .i64 w0, .int .i64 l, undef, undef, undef, undef, undef, undef, undef, undef, undef, undef, undef, undef, undef, undef, undef, undef, undef, undef, undef, undef, undef], []⟩) (by kernel_rfl) ?_
 refine wsr ?_
 refine wnew #[.int .u64 0, .int .u64 0] Try.zeroValue43 rfl ?_
 intro g1 w1 B1 E1 hg_
 have q_b_g1 := Nat.ne_of_lt (Nat.lt_of_lt_of_le hb.lt hg_)
 have lo_g1 := Nat.le_trans ((Ext.refl w)).size hg_
 refine wpList_nil (then_normal ?_)
 refine wsr ?_
 refine wv (.agg #[.int .u64 0, .int .u64 0]) ?_
 have H1 := (Ext.refl w).trans E1
 replace hb := hb.ext E1
 refine wnew #[.int .u64 0, .int .u64 0] Try.zeroValue43 rfl ?_
 intro g2 w2 B2 E2 hg_
 have q_b_g2 := Nat.ne_of_lt (Nat.lt_of_lt_of_le hb.lt hg_)
 have q_g1_g2 := Nat.ne_of_lt (Nat.lt_of_lt_of_le B1.lt hg_)
 have lo_g2 := Nat.le_trans (H1).size hg_
 refine wput #[.int .u64 0, .int .u64 0] row_impl_Cells B2 (by rfl) (by rfl) (by kernel_rfl) ?_
 intro w3 B2_ X1
 clear B2; have B2 := B2_; clear B2_
 refine wpList_nil (then_normal ?_)
 refine wp_seq ?_
 refine wsr ?_
 refine wv (.int .i64 0) ?_
 refine wpList_nil (then_normal ?_)
 refine wp_block ?_
 replace hb := X1.blk (hb.ext E2) q_b_g2
 replace B1 := X1.blk (B1.ext E2) q_g1_g2
 have H2 := X1.ext w lo_g2 (H1.trans E2)
 refine wp_loop_k (fun m1 a wl1 => ∃ (i : Nat), m1 = 100 - i ∧ i ≤ 100 ∧ Ext w wl1 ∧ Blk wl1 b t F.cells ∧ Blk wl1 g1 43 #[.int .u64 0, .int .u64 0] ∧ Blk wl1 g2 43 #[.int .u64 ((setC F (fun c_ => cvU F p c_ w0 l) i).1), .int .u64 ((setC F (fun c_ => cvU F p c_ w0 l) i).2)] ∧ (∃ J1 : Nat → Value, a = ⟨#[.pointer (some ⟨b, 0, none⟩), .int .i64 p, .int .i64 w0, .int .i64 l, undef, undef, undef, undef, .pointer (some ⟨g1, 0, none⟩), .pointer (some ⟨g2, 0, none⟩), .int .i64 (i : Int), .agg #[.int .u64 0, .int .u64 0], J1 12, J1 13, J1 14, J1 15, J1 16, J1 17, J1 18, J1 19, J1 20, J1 21, J1 22, J1 23, undef], []⟩)) (100) ?_ ?_
 · refine ⟨0, rfl, ?_, H2, hb, B1, ?_, exJ (by kernel_rfl)⟩
   · omega
   · unfold setC; rw [foldC_0]; exact B2
 intro m1 a wl1 hI
 obtain ⟨i, rfl, hi_, HL1, hb, B1, B2, J1, rfl⟩ := hI
 refine wp_seq ?_
 refine wsr ?_
 refine wv (.int .i64 (i : Int)) ?_
 refine wv (.bool (decide ((i : Int) < 100))) ?_
 refine wpList_nil (then_normal ?_)
 refine wsplit (decide ((i : Int) < 100)) (fun h1 => ?_) (fun h1 => ?_)
 · skip
   have h1d := dT h1
   refine wp_skip ?_
   refine then_normal ?_
   refine wp_seq ?_
   refine wp_block ?_
   refine wsr ?_
   refine wv (.pointer (some ⟨b, 0, none⟩)) ?_
   refine wv (.int .i64 p) ?_
   refine wv (.int .i64 (i : Int)) ?_
   refine wv (.int .i64 w0) ?_
   refine wv (.int .i64 l) ?_
   refine wcl (l03Covers_any F hF b _ p (i : Int) w0 l (by omega) (by omega) _ hb) ?_
   intro w4 E3
   refine wpList_nil (then_normal ?_)
   have H3 := HL1.trans E3
   refine wsplit (isB F p && cvR F p (i : Int) w0 l) (fun h2 => ?_) (fun h2 => ?_)
   · skip
     obtain ⟨h2a, h2b⟩ := andT h2
     have h2ad := isB_true.1 h2a
     refine wp_region_lit ?_
     refine wv (.int .i64 (i : Int)) ?_
     replace B2 := B2.ext E3
     refine wcl (l01Put_any ((setC F (fun c_ => cvU F p c_ w0 l) i).1) ((setC F (fun c_ => cvU F p c_ w0 l) i).2) g2 _ (i : Int) (by omega) _ B2) ?_
     rintro w5 ⟨B2_, X2⟩
     clear B2; have B2 := B2_; clear B2_
     refine wpList_nil (block_normal (then_normal ?_))
     refine wp_region_lit ?_
     refine wv (.int .i64 (i : Int)) ?_
     refine wi64 ((i : Int) + 1) ?_
     refine wv (.int .i64 ((i : Int) + 1)) ?_
     refine wpList_nil (then_normal ?_)
     replace hb := X2.blk (hb.ext E3) q_b_g2
     replace B1 := X2.blk (B1.ext E3) q_g1_g2
     have H4 := X2.ext w lo_g2 H3
     refine ⟨_, ?_, i + 1, rfl, ?_, H4, hb, B1, ?_, exJ (by kernel_rfl)⟩
     · omega
     · omega
     · first | (rw [setC_4 (by rw [← cvU_eq hpb h3]; assumption)]; exact B2) | (rw [setC_5 (by rw [← cvU_eq hpb h3]; assumption)]; exact B2)
   · skip
     refine wp_skip ?_
     refine block_normal (then_normal ?_)
     refine wp_region_lit ?_
     refine wv (.int .i64 (i : Int)) ?_
     refine wi64 ((i : Int) + 1) ?_
     refine wv (.int .i64 ((i : Int) + 1)) ?_
     refine wpList_nil (then_normal ?_)
     replace hb := hb.ext E3
     replace B1 := B1.ext E3
     replace B2 := B2.ext E3
     refine ⟨_, ?_, i + 1, rfl, ?_, H3, hb, B1, ?_, exJ (by kernel_rfl)⟩
     · omega
     · omega
     · first | (rw [setC_4 (by rw [← cvU_eq hpb h3]; assumption)]; exact B2) | (rw [setC_5 (by rw [← cvU_eq hpb h3]; assumption)]; exact B2)
 · skip
   have h1d := dF h1
   refine wp_exit ?_
   refine then_exit ?_
   refine then_exit ?_
   refine block_exit ?_
   refine then_normal ?_
   refine wsr ?_
   refine wrow row_impl_Cells B2 (by rfl) ?_
   refine wput #[.int .u64 ((setC F (fun c_ => cvU F p c_ w0 l) i).1), .int .u64 ((setC F (fun c_ => cvU F p c_ w0 l) i).2)] row_impl_Cells B1 (by rfl) (by rfl) (by kernel_rfl) ?_
   intro w6 B1_ X3
   clear B1; have B1 := B1_; clear B1_
   refine wpList_nil (then_normal ?_)
   refine wp_ret ?_
   have H5 := X3.ext w lo_g1 HL1
   refine ret1 (.agg #[.int .u64 ((setC F (fun c_ => cvU F p c_ w0 l) 100).1), .int .u64 ((setC F (fun c_ => cvU F p c_ w0 l) 100).2)]) rfl ?_ rfl ?_
   · refine ⟨g1, 43, #[.int .u64 ((setC F (fun c_ => cvU F p c_ w0 l) i).1), .int .u64 ((setC F (fun c_ => cvU F p c_ w0 l) i).2)], _, by kernel_rfl, B1, row_impl_Cells, ?_, ?_⟩
     · rfl
     · show (.agg #[.int .u64 ((setC F (fun c_ => cvU F p c_ w0 l) 100).1), .int .u64 ((setC F (fun c_ => cvU F p c_ w0 l) 100).2)] : Value) = (.agg #[.int .u64 ((setC F (fun c_ => cvU F p c_ w0 l) i).1), .int .u64 ((setC F (fun c_ => cvU F p c_ w0 l) i).2)])
       refine congrArg Value.agg ?_
       rw [show i = 100 by omega]
   exact ⟨rfl, H5⟩


