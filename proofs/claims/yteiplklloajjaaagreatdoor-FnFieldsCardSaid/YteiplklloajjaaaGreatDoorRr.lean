/-
  A field written as a text and read back is the field. No conditions.
-/
import Derived.Test.YteiplklloajjaaaGreatDoorRe
namespace Go.Proofs.YteiplklloajjaaaGreatDoor
open Go.RowKit
set_option linter.unusedSimpArgs false
set_option linter.unusedVariables false

--# cells
theorem dd_mem {n : Nat} {x : UInt8} (h : x ∈ Lib.decDigits n) : 48 ≤ x.toNat ∧ x.toNat ≤ 57 := decFrom_dig (decFrom_digits _ n (Nat.lt_succ_self _)) x h
theorem dd_ne {n : Nat} {x : UInt8} (h : 57 < x.toNat) : Lib.decDigits n ≠ [x] := fun e => by
  have := dd_mem (n := n) (x := x) (by rw [e]; simp)
  omega
section
variable {F : Fld}
theorem cell_wr {c : Nat} (hB : isB F c = true) (hk : celB F c = true) : kOf (cellT F c) = F.k c ∧ sOf (cellT F c) = F.s c ∧ wrdO (cellT F c) = true := by
  rw [celB_in hB, decide_eq_true_eq] at hk
  obtain ⟨h1, h2, h3, h4, h5⟩ := hk
  rcases (by omega : F.k c = 0 ∨ F.k c = 1 ∨ F.k c = 2 ∨ F.k c = 3) with e | e | e | e
  · rw [← cellT_0 e, e]
    have n1 : Lib.decDigits (F.s c).toNat ≠ [104] := dd_ne (by decide)
    have n2 : Lib.decDigits (F.s c).toNat ≠ [112] := dd_ne (by decide)
    have n3 : Lib.decDigits (F.s c).toNat ≠ [116] := dd_ne (by decide)
    have hn := numL_decDigits (n := (F.s c).toNat) (by omega)
    have hv : numV (Lib.decDigits (F.s c).toNat) = F.s c := by
      unfold numV
      rw [hn]
      show (((F.s c).toNat : Nat) : Int) = F.s c
      omega
    have ho : numO (Lib.decDigits (F.s c).toNat) = true := by
      unfold numO
      rw [hn]; rfl
    unfold kOf sOf
    rw [if_neg n1, if_neg n2, if_neg n3, if_neg (by simp [n1, n2, n3])]
    exact ⟨rfl, hv, wo_5 ho (by omega)⟩
  · have hs : F.s c = 0 := by omega
    rw [← cellT_1 e, e, hs]; exact ⟨by decide, by decide, wo_1 rfl⟩
  · have hs : F.s c = 0 := by omega
    rw [← cellT_2 e, e, hs]; exact ⟨by decide, by decide, wo_2 rfl⟩
  · have hs : F.s c = 0 := by omega
    rw [← cellT_3 (by omega) (by omega) (by omega), e, hs]; exact ⟨by decide, by decide, wo_3 rfl⟩
theorem ln_of (hk : okB F = true) {y : Nat} (hy : y < F.h.toNat) : lnW (fieldT F) y = rowC F y F.w.toNat := by
  have hw := ok_wh hk
  unfold lnW
  rw [fieldT_cut rfl]
  have : atL ((List.range F.h.toNat).map (fun y => preT F y F.w.toNat) ++ [[]]) y = preT F y F.w.toNat := by
    unfold atL
    rw [List.getD, List.getElem?_append_left (by simpa using hy), List.getElem?_map, List.getElem?_range hy]
    rfl
  rw [this, preT_cut (by omega)]
theorem row_at {y x W : Nat} (hx : x < W) : atL (rowC F y W) x = cellT F (x + 10 * y) := by
  unfold atL
  rw [List.getD, List.getElem?_eq_getElem (by rw [rowC_len]; exact hx)]
  simp [rowC, cix]
theorem back_ok (hk : okB F = true) : sO (fieldT F) F.h.toNat = true := by
  have hw := ok_wh hk
  have hc := (okB_true.1 hk).2.2.2.2
  have hlen : ∀ y, y < F.h.toNat → (lnW (fieldT F) y).length = F.w.toNat := fun y hy => by rw [ln_of hk hy, rowC_len]
  refine so_t ?_ (by omega) (fun y hy => ?_) (fun y hy => ?_)
  · rw [fieldT_cut rfl]
    unfold atL
    rw [List.getD, List.getElem?_append_right (by simp)]
    simp
  · refine ro_t (by rw [hlen y hy]; omega) (fun x hx => ?_)
    rw [hlen y hy] at hx
    rw [ln_of hk hy, row_at hx]
    exact (cell_wr (isB_true.2 (by omega)) (hc _ (by omega))).2.2
  · by_cases h0 : y = 0
    · exact sm_0 (by omega)
    · obtain ⟨_, t2, _⟩ := rdF_spec (l := fieldT F) (hh := F.h.toNat) y (fun z hz => by rw [hlen z (by omega)]; omega)
      refine sm_1 rfl ?_
      rw [t2, if_neg h0, hlen y hy, hlen (y - 1) (by omega)]
theorem back_cells (hk : okB F = true) : (rdF (fieldT F) F.h.toNat F.h.toNat).cells = F.cells := by
  have hw := ok_wh hk
  have hc := (okB_true.1 hk).2.2.2.2
  have hlen : ∀ y, y < F.h.toNat → (lnW (fieldT F) y).length = F.w.toNat := fun y hy => by rw [ln_of hk hy, rowC_len]
  obtain ⟨s1, s2, s3⟩ := rdF_spec (l := fieldT F) (hh := F.h.toNat) F.h.toNat (fun z hz => by rw [hlen z hz]; omega)
  have key : ∀ i, i < 100 → (rdF (fieldT F) F.h.toNat F.h.toNat).k i = F.k i ∧ (rdF (fieldT F) F.h.toNat F.h.toNat).s i = F.s i := fun i hi => by
    rw [(s3 i).1, (s3 i).2]
    by_cases hq : i / 10 < F.h.toNat ∧ i % 10 < (lnW (fieldT F) (i / 10)).length
    · rw [if_pos hq, if_pos hq]
      have h2 := hq.2
      rw [hlen _ hq.1] at h2
      rw [ln_of hk hq.1, row_at h2, show i % 10 + 10 * (i / 10) = i by omega]
      have h := cell_wr (F := F) (c := i) (isB_true.2 (by omega)) (hc i hi)
      exact ⟨h.1, h.2.1⟩
    · rw [if_neg hq, if_neg hq]
      have hB : isB F i = false := by
        cases hB : isB F i with
        | false => rfl
        | true =>
          have := isB_true.1 hB
          exact absurd ⟨by omega, by rw [hlen _ (by omega)]; omega⟩ hq
      have h := hc i hi
      rw [celB_out hB, decide_eq_true_eq] at h
      exact ⟨h.1.symm, h.2.symm⟩
  refine Fld.ext' (by rw [s2, if_neg (by omega), hlen _ (by omega)]; omega) (by rw [s1]; omega) (fun i hi => (key i hi).1) (fun i hi => (key i hi).2)
end
end Go.Proofs.YteiplklloajjaaaGreatDoor
