/-
  Contracts: valid fields. Conditions: what the variables hold (TW).
-/
import Derived.Test.YteiplklloajjaaaGreatDoorTy
import Derived.Test.YteiplklloajjaaaGreatDoorSl
import Derived.Test.YteiplklloajjaaaGreatDoorMth
import Derived.Test.YteiplklloajjaaaGreatDoorFn33
import Derived.Test.YteiplklloajjaaaGreatDoorFn26
import Derived.Test.YteiplklloajjaaaGreatDoorFn12
import Derived.Test.YteiplklloajjaaaGreatDoorFn10
import Derived.Test.YteiplklloajjaaaGreatDoorMy
import Derived.Test.YteiplklloajjaaaGreatDoorRr
namespace Go.Proofs.YteiplklloajjaaaGreatDoor
open Go.RowKit
set_option linter.unusedSimpArgs false
set_option linter.unusedVariables false
set_option maxHeartbeats 4000000
set_option maxRecDepth 100000
attribute [local irreducible] wpList Code.wp
--# l03Soil_any
theorem l03Soil_any (F : Fld) (hF : F.wf) (b : Nat) (t : TypeId) (c : Int) (w : World) (hb : Blk w b t F.cells) :
 Calls Tryz.prog 49 #[.pointer (some ⟨b, 0, none⟩), .int .i64 c] w fun e w' => e = .returned (.bool (isB F c && (F.k c.toNat == 0))) ∧ Ext w w' := by
 refine calls_of_wp Tryz.func49 rfl ?_
 refine wp_frame (a' := ⟨#[.pointer (some ⟨b, 0, none⟩), .int .i64 c, undef, undef, undef, undef, undef, undef, undef, undef, undef, undef, undef, undef, undef, undef, undef], []⟩) (by kernel_rfl) ?_
 refine wsr ?_
 refine wv (.bool false) ?_
 refine wpList_nil (then_normal ?_)
 refine wsr ?_
 refine wv (.pointer (some ⟨b, 0, none⟩)) ?_
 refine wv (.int .i64 c) ?_
 refine wcl (l01Is_any F hF b _ c _ hb) ?_
 intro w1 E1
 refine wv (.bool (isB F c)) ?_
 refine split_bool (isB F c) (fun h1 => ?_) (fun h1 => ?_)
 · skip
   refine wbl 8 true h1 ?_
   have h1d := isB_true.1 h1
   refine wv (.pointer (some ⟨b, 0, none⟩)) ?_
   refine wv (.int .i64 c) ?_
   refine wv (.pointer (some ⟨b, 0, none⟩)) ?_
   refine wv (.pointer (some ⟨b, 2, none⟩)) ?_
   refine wix b 2 c .i64 arrt__100_uint8 ?_
   replace hb := hb.ext E1
   have ce1 := hF.k1 ((c).toNat) (by omega)
   refine wld b (2 + (c).toNat) scal_uint8 (hb.get (Fld.getk _ _ (by omega))) ?_
   refine wv (.bool ((F.k ((c).toNat)) == 0)) ?_
   refine wv (.bool ((F.k ((c).toNat)) == 0)) ?_
   refine wv (.bool ((F.k ((c).toNat)) == 0)) ?_
   refine wpList_nil (then_normal ?_)
   refine wp_ret ?_
   have H1 := (Ext.refl w).trans E1
   refine ret1 (.bool (isB F c && (F.k c.toNat == 0))) rfl ?_ rfl ?_
   · refine (resT (v := .bool ((F.k ((c).toNat)) == 0)) (by kernel_rfl)).trans ?_
     refine congrArg Value.bool ?_
     simp [*]
   exact ⟨rfl, H1⟩
 · skip
   refine wbl 8 false h1 ?_
   refine wsk ?_
   refine wsk ?_
   refine wsk ?_
   refine wsk ?_
   refine wsk ?_
   refine wsk ?_
   refine wsk ?_
   refine wv (.bool false) ?_
   refine wv (.bool false) ?_
   refine wpList_nil (then_normal ?_)
   refine wp_ret ?_
   have H2 := (Ext.refl w).trans E1
   refine ret1 (.bool (isB F c && (F.k c.toNat == 0))) rfl ?_ rfl ?_
   · refine (resT (v := .bool false) (by kernel_rfl)).trans ?_
     refine congrArg Value.bool ?_
     simp [*]
   exact ⟨rfl, H2⟩


--# IsSoil_any
theorem IsSoil_any (F : Fld) (hF : F.wf) (c : Int) (w : World) :
 Calls Tryz.prog 22 #[.agg F.cells, .int .i64 c] w fun e w' => e = .returned (.bool (isB F c && (F.k c.toNat == 0))) ∧ Ext w w' := by
 have w1_ := hF.w1
 have w2_ := hF.w2
 have h1_ := hF.h1
 have h2_ := hF.h2
 refine calls_of_wp Tryz.func22 rfl ?_
 refine wp_frame (a' := ⟨#[.agg F.cells, .int .i64 c, undef, undef, undef, undef, undef], []⟩) (by kernel_rfl) ?_
 refine wsr ?_
 refine wbox F.cells ?_
 intro g1 w1 B1 E1 _
 refine wv (.bool false) ?_
 refine wpList_nil (then_normal ?_)
 refine wsr ?_
 refine wv (.int .i64 c) ?_
 refine wcl (l03Soil_any F hF g1 _ c _ B1) ?_
 intro w2 E2
 refine wv (.bool (isB F c && (F.k c.toNat == 0))) ?_
 refine wpList_nil (then_normal ?_)
 refine wp_ret ?_
 have H1 := ((Ext.refl w).trans E1).trans E2
 refine ret1 (.bool (isB F c && (F.k c.toNat == 0))) rfl ?_ rfl ?_
 · exact resT (by kernel_rfl)
 exact ⟨rfl, H1⟩


--# eqs
theorem mul_b {a b m : Int} (ha : 0 ≤ a ∧ a ≤ m) (hb : 0 ≤ b ∧ b ≤ 10) : 0 ≤ a * b ∧ a * b ≤ m * 10 := ⟨Int.mul_nonneg ha.1 hb.1, Int.mul_le_mul ha.2 hb.2 hb.1 (by omega)⟩
theorem eqFld_s (F : Fld) : eqFld F F = true := by
  have e : ∀ (f : Nat → Int) n, eqN n f f = true := fun f n => by unfold eqN; simp
  unfold eqFld
  rw [e, e]; simp

--# P6Pick_r
-- 16
theorem P6Pick_r (xs : List Int) (v : Value) (n : Int) (hx : xs.length ≤ 4096) (hn : 2 ≤ n ∧ n ≤ 200) (hxb : ∀ i, i < xs.length → 0 ≤ atI xs i ∧ atI xs i ≤ 255) (w : World) (h : SlIn w v .u8 xs) : Calls Tryz.prog 16 #[v, .int .i64 n] w (NumR w n) :=
  (P6Pick_any xs v n hx hn hxb w h).mono fun e w' h => ⟨_, h.1, ⟨by omega, drM_in hn.1⟩, h.2⟩

--# iMirror_ok
-- 9
theorem iMirror_ok (F : Fld) (hF : F.wf) (hk : okB F = true) {cs : Array Value} (hc : (mirF F).cells = cs) (w : World) : Calls Tryz.prog 9 #[.agg F.cells] w fun e w' => e = .returned (.tuple #[.agg cs, .int .i64 0]) ∧ Ext w w' := by
  have h := iMirrorField_any F hF w
  rw [hc, okC_t hk] at h
  exact h

--# iTurn_ok
-- 14
theorem iTurn_ok (F : Fld) (hF : F.wf) (hk : okB F = true) {cs : Array Value} (hc : (turF F).cells = cs) (w : World) : Calls Tryz.prog 14 #[.agg F.cells] w fun e w' => e = .returned (.tuple #[.agg cs, .int .i64 0]) ∧ Ext w w' := by
  have h := iTurnField_any F hF w
  rw [hc, okC_t hk] at h
  exact h

--# iTake_ok
-- 17
theorem iTake_ok (F : Fld) (hF : F.wf) (hk : okB F = true) (c n : Int) (hc : isB F c = true) (hn : 0 ≤ n) (w : World) : Calls Tryz.prog 17 #[.agg F.cells, .int .i64 c, .int .i64 n] w fun e w' => e = .returned (.tuple #[.agg (tookF F c n).cells, .int .i64 (minI n (F.s c.toNat)), .int .i64 0]) ∧ Ext w w' := by
  have h := iTakeSeeds_any F hF c n w
  rw [tookN_2 (cd_n hk hc hn), cd_n hk hc hn] at h
  exact h

--# iWithKind_ok
-- 23
theorem iWithKind_ok (F : Fld) (hF : F.wf) (hk : okB F = true) (c : Int) (hc : isB F c = true) (w : World) : Calls Tryz.prog 23 #[.agg F.cells, .int .i64 c, .int .i64 2] w fun e w' => e = .returned (.tuple #[.agg (withK F c 2).cells, .int .i64 0]) ∧ Ext w w' := by
  have h := iWithKind_any F hF c 2 w
  rw [cd_b hk hc (by decide)] at h
  exact h

--# sMirror_ok
-- 10
theorem sMirror_ok (F : Fld) (hF : F.wf) (hk : okB F = true) {cs : Array Value} (hc : (mirF F).cells = cs) (w : World) : Calls Tryz.prog 10 #[.agg F.cells] w fun e w' => e = .returned (.tuple #[.agg cs, .int .i64 0]) ∧ Ext w w' := by
  have h := sMirrorField_any F hF w
  rw [hc, okC_t hk] at h
  exact h

--# sTurn_ok
-- 15
theorem sTurn_ok (F : Fld) (hF : F.wf) (hk : okB F = true) {cs : Array Value} (hc : (turF F).cells = cs) (w : World) : Calls Tryz.prog 15 #[.agg F.cells] w fun e w' => e = .returned (.tuple #[.agg cs, .int .i64 0]) ∧ Ext w w' := by
  have h := sTurnField_any F hF w
  rw [hc, okC_t hk] at h
  exact h

--# sTake_ok
-- 18
theorem sTake_ok (F : Fld) (hF : F.wf) (hk : okB F = true) (c n : Int) (hc : isB F c = true) (hn : 0 ≤ n) (w : World) : Calls Tryz.prog 18 #[.agg F.cells, .int .i64 c, .int .i64 n] w fun e w' => e = .returned (.tuple #[.agg (tookF F c n).cells, .int .i64 (minI n (F.s c.toNat)), .int .i64 0]) ∧ Ext w w' := by
  have h := sTakeSeeds_any F hF c n w
  rw [tookN_2 (cd_n hk hc hn), cd_n hk hc hn] at h
  exact h

--# sWithKind_ok
-- 24
theorem sWithKind_ok (F : Fld) (hF : F.wf) (hk : okB F = true) (c : Int) (hc : isB F c = true) (w : World) : Calls Tryz.prog 24 #[.agg F.cells, .int .i64 c, .int .i64 2] w fun e w' => e = .returned (.tuple #[.agg (withK F c 2).cells, .int .i64 0]) ∧ Ext w w' := by
  have h := sWithKind_any F hF c 2 w
  rw [cd_b hk hc (by decide)] at h
  exact h

--# iSeedsIn_ok
-- 11
theorem iSeedsIn_ok (F : Fld) (hF : F.wf) (hk : okB F = true) {v : Int} (hv : sumN F.s 100 = v) (w : World) : Calls Tryz.prog 11 #[.agg F.cells] w fun e w' => e = .returned (.tuple #[.int .i64 v, .int .i64 0]) ∧ Ext w w' := by
  have h := iSeedsIn_any F hF w
  rw [if_pos hk, hv, okC_t hk] at h
  exact h

--# iSeedsAt_ok
-- 19
theorem iSeedsAt_ok (F : Fld) (hF : F.wf) (hk : okB F = true) (c : Int) (hc : isB F c = true) (w : World) : Calls Tryz.prog 19 #[.agg F.cells, .int .i64 c] w fun e w' => e = .returned (.tuple #[.int .i64 (F.s c.toNat), .int .i64 0]) ∧ Ext w w' := by
  have h := iSeedsAt_any F hF c w
  rw [if_pos (cd_t hk hc), cd_t hk hc] at h
  exact h

--# iKindAt_ok
-- 20
theorem iKindAt_ok (F : Fld) (hF : F.wf) (hk : okB F = true) (c : Int) (hc : isB F c = true) (w : World) : Calls Tryz.prog 20 #[.agg F.cells, .int .i64 c] w fun e w' => e = .returned (.tuple #[.int .i64 (F.k c.toNat), .int .i64 0]) ∧ Ext w w' := by
  have h := iKindAt_any F hF c w
  rw [if_pos (cd_t hk hc), cd_t hk hc] at h
  exact h

--# iSow_0
-- 21
theorem iSow_0 (F : Fld) (hF : F.wf) (hk : okB F = true) (c n : Int) (hc : isB F c = true) (hn : 0 ≤ n) (h0 : F.k c.toNat = 0) (w : World) : Calls Tryz.prog 21 #[.agg (tookF F c n).cells, .int .i64 c, .int .i64 (minI n (F.s c.toNat))] w fun e w' => e = .returned (.tuple #[.agg F.cells, .int .i64 0]) ∧ Ext w w' := by
  have h := iSowCell_any (tookF F c n) (took_wf hF hk hc hn) c (minI n (F.s c.toNat)) w
  rw [(sow_0 hk hc hn h0).1, (sow_0 hk hc hn h0).2] at h
  exact h

--# iSow_4
-- 21
theorem iSow_4 (F : Fld) (hF : F.wf) (hk : okB F = true) (c n : Int) (hc : isB F c = true) (hn : 0 ≤ n) (h0 : F.k c.toNat ≠ 0) (w : World) : Calls Tryz.prog 21 #[.agg (tookF F c n).cells, .int .i64 c, .int .i64 (minI n (F.s c.toNat))] w fun e w' => e = .returned (.tuple #[.agg Fld.zero.cells, .int .i64 4]) ∧ Ext w w' := by
  have h := iSowCell_any (tookF F c n) (took_wf hF hk hc hn) c (minI n (F.s c.toNat)) w
  rw [(sow_4 hk hc hn h0).1, (sow_4 hk hc hn h0).2] at h
  exact h

--# iPlain_ok
-- 25
theorem iPlain_ok (a b v : Int) (ha : 1 ≤ a ∧ a ≤ 10) (hb : 1 ≤ b ∧ b ≤ 10) (hv : 0 ≤ v ∧ v ≤ 1000) (w : World) : Calls Tryz.prog 25 #[.int .i64 a, .int .i64 b, .int .i64 v] w fun e w' => e = .returned (.tuple #[.agg (plnF a b v).cells, .int .i64 0]) ∧ Ext w w' := by
  have h := iPlainField_any a b v w
  rw [plnC_t (pinv_t ha hb hv)] at h
  exact h

--# iFieldText_ok
-- 8
theorem iFieldText_ok (F : Fld) (hF : F.wf) (hk : okB F = true) (w : World) (hTt : TWt w) : Calls Tryz.prog 8 #[.agg F.cells] w fun e w' => e = .returned (.string (bs (fieldT F))) ∧ Ext w w' := by
  have h := iFieldText_any F hF w hTt
  rw [ftT_1 hk] at h
  exact h

--# iReadField_ok
-- 7
theorem iReadField_ok (F : Fld) (hF : F.wf) (hk : okB F = true) (w : World) (hT : TW w) : Calls Tryz.prog 7 #[.string (bs (fieldT F))] w fun e w' => e = .returned (.tuple #[.agg F.cells, .int .i64 0]) ∧ Ext w w' := by
  have hw := ok_wh hk
  have hH : (cutL 10 (fieldT F)).length = F.h.toNat + 1 := by rw [fieldT_cut rfl]; simp
  have hl : (fieldT F).length ≤ 1048576 := by
    have := fieldP_len hk F.h.toNat (by omega)
    show (fieldP F F.h.toNat).length ≤ _
    omega
  have h := iReadField_any (fieldT F) hl F.h.toNat hH w hT
  have ho : iO (fieldT F) F.h.toNat = true := by rw [rd_same hH]; exact back_ok hk
  have e : (rsF (iO (fieldT F) F.h.toNat) (fieldT F) F.h.toNat).cells = F.cells := by
    unfold rsF
    rw [if_pos ho]
    exact back_cells hk
  have e2 : rsC (iO (fieldT F) F.h.toNat) = 0 := by unfold rsC; rw [if_pos ho]
  rw [e, e2] at h
  exact h

--# IsSoil_ok
-- 22
theorem IsSoil_ok (F : Fld) (hF : F.wf) (c : Int) (hc : isB F c = true) (w : World) : Calls Tryz.prog 22 #[.agg F.cells, .int .i64 c] w fun e w' => e = .returned (.bool (F.k c.toNat == 0)) ∧ Ext w w' := by
  have h := IsSoil_any F hF c w
  rw [hc, Bool.true_and] at h
  exact h
end Go.Proofs.YteiplklloajjaaaGreatDoor
