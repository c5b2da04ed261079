/-
  Cells that are apart, taken one after the other: their ranges, their lists. No conditions.
-/
import Derived.Test.YtldlaohefgianaaAp
namespace Go.Proofs.Ytldlaohefgianaa
open Go.RowKit
set_option linter.unusedSimpArgs false
set_option linter.unusedVariables false

--# aq
section
variable {F : Fld} {w l c tx ty : Int} {xs L : List Int} {n i : Nat}
theorem tgL_is {j : Nat} (h : j < (tgL F tx ty 100).length) : isB F (atI (tgL F tx ty 100) j) = true := by
  have hm := pickL_mem (p := fun i => tgB F tx ty (i : Int)) (n := 100) (atI_mem h)
  have h3 : tgB F tx ty ((atI (tgL F tx ty 100) j).toNat : Int) = true := hm.2.2
  have h0 : 0 ≤ atI (tgL F tx ty 100) j := hm.1
  rw [Int.toNat_of_nonneg h0] at h3
  unfold tgB at h3
  rw [Bool.and_eq_true, Bool.and_eq_true] at h3
  exact h3.1.1
theorem tgs_is (hx : wrd tx) (hy : wrd ty) {j : Nat} (h : j < (listL (bo0 tx (setC F (fun c_ => F.k c_.toNat == 0) 100).1) (bo1 ty (setC F (fun c_ => F.k c_.toNat == 0) 100).2)).length) : isB F (atI (listL (bo0 tx (setC F (fun c_ => F.k c_.toNat == 0) 100).1) (bo1 ty (setC F (fun c_ => F.k c_.toNat == 0) 100).2)) j) = true := by
  rw [tg_eq hx hy] at h ⊢
  exact tgL_is h
theorem apL_in (hT : ∀ j, j < L.length → 0 ≤ atI L j ∧ atI L j ≤ 99) : ∀ n k, n ≤ L.length → k < (apL F w l L n).length → 0 ≤ atI (apL F w l L n) k ∧ atI (apL F w l L n) k ≤ 99
  | 0, k, _, hk => by simp [apL] at hk
  | n + 1, k, hn, hk => by
    have ih := apL_in hT n k (by omega)
    cases hb : allB (apL F w l L n).length (fun j => apB F w l (atI (apL F w l L n) j) (atI L n)) with
    | true =>
      rw [apL_1 hb] at hk ⊢
      by_cases h : k < (apL F w l L n).length
      · rw [atI_app1 h]; exact ih h
      · rw [List.length_append, List.length_singleton] at hk
        rw [show k = (apL F w l L n).length by omega, atI_app2]
        exact hT n (by omega)
    | false =>
      rw [apL_2 hb] at hk ⊢
      exact ih hk
theorem allB_s {n : Nat} {p : Nat → Bool} : allB (n + 1) p = (allB n p && p n) := by
  unfold allB
  rw [List.range_succ, List.all_append]
  simp
theorem allB_0 {p : Nat → Bool} : true = allB 0 p := (allB_true (fun i hi => by omega)).symm
theorem apL_3 {b : Bool} {k : Nat} (h : b = allB k (fun j => apB F w l (atI (apL F w l L n) j) (atI L n))) (hk : k = (apL F w l L n).length) (hb : b = true) : apL F w l L (n + 1) = apL F w l L n ++ [atI L n] := by
  rw [hk] at h
  exact apL_1 (by rw [← h]; exact hb)
theorem apL_4 {b : Bool} {k : Nat} (h : b = allB k (fun j => apB F w l (atI (apL F w l L n) j) (atI L n))) (hk : k = (apL F w l L n).length) (hb : b = false) : apL F w l L (n + 1) = apL F w l L n := by
  rw [hk] at h
  exact apL_2 (by rw [← h]; exact hb)
theorem ap_T {b : Bool} {n : Nat} {p : Nat → Bool} (h : b = allB n p) (hb : b = true) : p n = allB (n + 1) p := by rw [allB_s, ← h, hb, Bool.true_and]
theorem ap_F {b : Bool} {n : Nat} {p : Nat → Bool} (h : b = allB n p) (hb : b = false) : false = allB (n + 1) p := by rw [allB_s, ← h, hb]; rfl
end
end Go.Proofs.Ytldlaohefgianaa
