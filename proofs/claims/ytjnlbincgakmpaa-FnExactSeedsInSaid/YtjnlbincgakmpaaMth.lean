/-
  Plain laws: what the functions compute. No conditions.
-/
import Derived.Test.YtjnlbincgakmpaaBase
namespace Go.Proofs.Ytjnlbincgakmpaa
set_option linter.unusedSimpArgs false
set_option linter.unusedVariables false

--# allB
/-- Whether all numbers below n are such. -/
def allB (n : Nat) (p : Nat → Bool) : Bool := (List.range n).all p
theorem allB_true {n : Nat} {p : Nat → Bool} (h : ∀ i, i < n → p i = true) : allB n p = true := by
  unfold allB; rw [List.all_eq_true]; intro i hi; exact h i (List.mem_range.1 hi)
theorem allB_false {n : Nat} {p : Nat → Bool} (i : Nat) (hi : i < n) (h : p i = false) : allB n p = false := by
  unfold allB
  rw [List.all_eq_false]
  exact ⟨i, List.mem_range.2 hi, by rw [h]; decide⟩
theorem allB_get {n : Nat} {p : Nat → Bool} (h : allB n p = true) (i : Nat) (hi : i < n) : p i = true := by
  unfold allB at h; rw [List.all_eq_true] at h; exact h i (List.mem_range.2 hi)
theorem all_step {p : Nat → Bool} {i : Nat} (h : ∀ j, j < i → p j = true) (hi : p i = true) : ∀ j, j < i + 1 → p j = true := by
  intro j hj
  rcases (by omega : j < i ∨ j = i) with h1 | h1
  · exact h j h1
  · rw [h1]; exact hi
attribute [irreducible] allB

--# cpy
/-- The first i of f. -/
def cpy (f : Nat → Int) (i : Nat) : Nat → Int := fun j => if j < i then f j else 0
theorem cpy_zero (f : Nat → Int) : cpy f 0 = fun _ => 0 := by funext j; simp [cpy]
theorem cpy_upd (f : Nat → Int) (i : Nat) : upd (cpy f i) i (f i) = cpy f (i + 1) := by
  funext j
  unfold upd cpy
  by_cases h : j = i
  · subst h; simp
  · rw [if_neg h]
    by_cases h2 : j < i
    · rw [if_pos h2, if_pos (by omega)]
    · rw [if_neg h2, if_neg (by omega)]
theorem arr_cpy (n : Nat) (k : IntKind) (f : Nat → Int) {i : Nat} (h : n ≤ i) : arr n k (cpy f i) = arr n k f :=
  arr_congr fun j hj => by unfold cpy; rw [if_pos (by omega)]
attribute [irreducible] cpy

--# okB
def celB (F : Fld) (i : Nat) : Bool := if isB F i = true then decide (0 ≤ F.k i ∧ F.k i ≤ 3 ∧ 0 ≤ F.s i ∧ F.s i ≤ 1000 ∧ (F.k i = 0 ∨ F.s i = 0)) else decide (F.k i = 0 ∧ F.s i = 0)
theorem celB_in {F : Fld} {i : Nat} (h : isB F i = true) : celB F i = decide (0 ≤ F.k i ∧ F.k i ≤ 3 ∧ 0 ≤ F.s i ∧ F.s i ≤ 1000 ∧ (F.k i = 0 ∨ F.s i = 0)) := by unfold celB; rw [if_pos h]
theorem celB_out {F : Fld} {i : Nat} (h : isB F i = false) : celB F i = decide (F.k i = 0 ∧ F.s i = 0) := by unfold celB; rw [if_neg (by rw [h]; simp)]
/-- Whether a field is valid. -/
def okB (F : Fld) : Bool := inB F.w 1 10 && inB F.h 1 10 && allB 100 (celB F)
theorem okB_true {F : Fld} : okB F = true ↔ 1 ≤ F.w ∧ F.w ≤ 10 ∧ 1 ≤ F.h ∧ F.h ≤ 10 ∧ ∀ i, i < 100 → celB F i = true := by
  unfold okB inB
  simp only [Bool.and_eq_true, decide_eq_true_eq]
  constructor
  · rintro ⟨⟨⟨h1, h2⟩, h3, h4⟩, h5⟩
    exact ⟨h1, h2, h3, h4, fun i hi => allB_get h5 i hi⟩
  · rintro ⟨h1, h2, h3, h4, h5⟩
    exact ⟨⟨⟨h1, h2⟩, h3, h4⟩, allB_true h5⟩
theorem okB_w {F : Fld} (h : ¬ (1 ≤ F.w ∧ F.w ≤ 10)) : okB F = false := by
  cases hk : okB F with
  | false => rfl
  | true => have := okB_true.1 hk; omega
theorem okB_h {F : Fld} (h : ¬ (1 ≤ F.h ∧ F.h ≤ 10)) : okB F = false := by
  cases hk : okB F with
  | false => rfl
  | true => have := okB_true.1 hk; omega
theorem okB_c {F : Fld} (i : Nat) (hi : i < 100) (h : celB F i = false) : okB F = false := by
  cases hk : okB F with
  | false => rfl
  | true => have := (okB_true.1 hk).2.2.2.2 i hi; rw [h] at this; exact absurd this (by decide)
theorem ok_cell {F : Fld} (h : okB F = true) (i : Nat) (hi : i < 100) : 0 ≤ F.k i ∧ F.k i ≤ 3 ∧ 0 ≤ F.s i ∧ F.s i ≤ 1000 := by
  have h1 := (okB_true.1 h).2.2.2.2 i hi
  cases hb : isB F (i : Int) with
  | true => rw [celB_in hb] at h1; have := of_decide_eq_true h1; omega
  | false => rw [celB_out hb] at h1; have := of_decide_eq_true h1; omega
theorem ok_wh {F : Fld} (h : okB F = true) : 1 ≤ F.w ∧ F.w ≤ 10 ∧ 1 ≤ F.h ∧ F.h ≤ 10 := by
  have h1 := okB_true.1 h
  exact ⟨h1.1, h1.2.1, h1.2.2.1, h1.2.2.2.1⟩
attribute [irreducible] okB celB
/-- The code of a field, and of whether numbers are as told. -/
def code (F : Fld) (b : Bool) : Int := if okB F = true then (if b = true then 0 else 2) else 1
theorem code_zero {F : Fld} {b : Bool} (h : code F b = 0) : okB F = true ∧ b = true := by
  unfold code at h
  by_cases h1 : okB F = true
  · rw [if_pos h1] at h
    by_cases h2 : b = true
    · exact ⟨h1, h2⟩
    · rw [if_neg h2] at h; omega
  · rw [if_neg h1] at h; omega
theorem code_1 {F : Fld} {b : Bool} (h : okB F = false) : code F b = 1 := by unfold code; rw [if_neg (by rw [h]; simp)]
theorem code_2 {F : Fld} {b : Bool} (h : okB F = true) (h2 : b = false) : code F b = 2 := by unfold code; rw [if_pos h, if_neg (by rw [h2]; simp)]
theorem code_0 {F : Fld} {b : Bool} (h : okB F = true) (h2 : b = true) : code F b = 0 := by unfold code; rw [if_pos h, if_pos h2]
attribute [irreducible] code

--# sqr
/-- The square of two cells. -/
def sqr (a b : Int) : Int := (a % 10 - b % 10) * (a % 10 - b % 10) + (a / 10 - b / 10) * (a / 10 - b / 10)
theorem sq_b {x : Int} (h : -1000 ≤ x ∧ x ≤ 1000) : 0 ≤ x * x ∧ x * x ≤ 1000000 := by
  have h1 : x * x = (x.natAbs : Int) * (x.natAbs : Int) := by rw [← Int.natCast_mul, Int.natAbs_mul_self]
  have h2 : x.natAbs ≤ 1000 := by omega
  have h3 : x.natAbs * x.natAbs ≤ 1000 * 1000 := Nat.mul_le_mul h2 h2
  rw [h1, ← Int.natCast_mul]
  omega
attribute [irreducible] sqr

--# sumN
def sumN (f : Nat → Int) : Nat → Int
  | 0 => 0
  | n + 1 => sumN f n + f n
theorem sumN_b {f : Nat → Int} (h : ∀ i, i < 100 → -32768 ≤ f i ∧ f i ≤ 32767) (n : Nat) (hn : n ≤ 100) : -32768 * (n : Int) ≤ sumN f n ∧ sumN f n ≤ 32767 * (n : Int) := by
  induction n with
  | zero => simp [sumN]
  | succ n ih =>
    have h1 := ih (by omega)
    have h2 := h n (by omega)
    unfold sumN
    omega

--# okC
/-- The code of a field by itself. -/
def okC (F : Fld) : Int := if okB F = true then 0 else 1

--# minI
def minI (a b : Int) : Int := if a < b then a else b
theorem minI_eq (x y : Int) : (if y < x then y else x) = minI x y := by unfold minI; split <;> split <;> omega
theorem minI_b (x y : Int) : minI x y ≤ x ∧ minI x y ≤ y ∧ (minI x y = x ∨ minI x y = y) := by unfold minI; split <;> omega
theorem minI_1 {x y : Int} (h : x < y) : minI x y = x := if_pos h
theorem minI_2 {x y : Int} (h : ¬ x < y) : minI x y = y := if_neg h
attribute [irreducible] minI

--# changed
def withK (F : Fld) (c k : Int) : Fld := if code F (isB F c && inB k 0 3) = 0 then ⟨F.w, F.h, upd F.k c.toNat k, if k = 0 then F.s else upd F.s c.toNat 0⟩ else Fld.zero
section
variable {F : Fld} {c k n : Int}
theorem withK_1 (h : code F (isB F c && inB k 0 3) ≠ 0) : withK F c k = Fld.zero := if_neg h
theorem withK_2 (h : code F (isB F c && inB k 0 3) = 0) (h2 : k = 0) : withK F c k = ⟨F.w, F.h, upd F.k c.toNat k, F.s⟩ := by unfold withK; rw [if_pos h, if_pos h2]
theorem withK_3 (h : code F (isB F c && inB k 0 3) = 0) (h2 : k ≠ 0) : withK F c k = ⟨F.w, F.h, upd F.k c.toNat k, upd F.s c.toNat 0⟩ := by unfold withK; rw [if_pos h, if_neg h2]
def sowC (F : Fld) (c n : Int) : Int := if code F (isB F c && inB n 0 1000) = 0 then (if F.k c.toNat = 0 then (if F.s c.toNat + n ≤ 1000 then 0 else 3) else 4) else code F (isB F c && inB n 0 1000)
theorem sowC_1 (h : code F (isB F c && inB n 0 1000) ≠ 0) : sowC F c n = code F (isB F c && inB n 0 1000) := if_neg h
theorem sowC_2 (h : code F (isB F c && inB n 0 1000) = 0) (h2 : F.k c.toNat ≠ 0) : sowC F c n = 4 := by unfold sowC; rw [if_pos h, if_neg h2]
theorem sowC_3 (h : code F (isB F c && inB n 0 1000) = 0) (h2 : F.k c.toNat = 0) (h3 : ¬ F.s c.toNat + n ≤ 1000) : sowC F c n = 3 := by unfold sowC; rw [if_pos h, if_pos h2, if_neg h3]
theorem sowC_4 (h : code F (isB F c && inB n 0 1000) = 0) (h2 : F.k c.toNat = 0) (h3 : F.s c.toNat + n ≤ 1000) : sowC F c n = 0 := by unfold sowC; rw [if_pos h, if_pos h2, if_pos h3]
def sowF (F : Fld) (c n : Int) : Fld := if sowC F c n = 0 then ⟨F.w, F.h, F.k, upd F.s c.toNat (F.s c.toNat + n)⟩ else Fld.zero
theorem sowF_1 (h : code F (isB F c && inB n 0 1000) ≠ 0) : sowF F c n = Fld.zero := by unfold sowF; rw [if_neg (by rw [sowC_1 h]; exact h)]
theorem sowF_2 (h : code F (isB F c && inB n 0 1000) = 0) (h2 : F.k c.toNat ≠ 0) : sowF F c n = Fld.zero := by unfold sowF; rw [if_neg (by rw [sowC_2 h h2]; decide)]
theorem sowF_3 (h : code F (isB F c && inB n 0 1000) = 0) (h2 : F.k c.toNat = 0) (h3 : ¬ F.s c.toNat + n ≤ 1000) : sowF F c n = Fld.zero := by unfold sowF; rw [if_neg (by rw [sowC_3 h h2 h3]; decide)]
theorem sowF_4 (h : code F (isB F c && inB n 0 1000) = 0) (h2 : F.k c.toNat = 0) (h3 : F.s c.toNat + n ≤ 1000) : sowF F c n = ⟨F.w, F.h, F.k, upd F.s c.toNat (F.s c.toNat + n)⟩ := by unfold sowF; rw [if_pos (sowC_4 h h2 h3)]
def tookN (F : Fld) (c n : Int) : Int := if code F (isB F c && decide (0 ≤ n)) = 0 then minI n (F.s c.toNat) else 0
def tookF (F : Fld) (c n : Int) : Fld := if code F (isB F c && decide (0 ≤ n)) = 0 then ⟨F.w, F.h, F.k, upd F.s c.toNat (F.s c.toNat - minI n (F.s c.toNat))⟩ else Fld.zero
theorem tookN_1 (h : code F (isB F c && decide (0 ≤ n)) ≠ 0) : tookN F c n = 0 := if_neg h
theorem tookN_2 (h : code F (isB F c && decide (0 ≤ n)) = 0) : tookN F c n = minI n (F.s c.toNat) := if_pos h
theorem tookF_1 (h : code F (isB F c && decide (0 ≤ n)) ≠ 0) : tookF F c n = Fld.zero := if_neg h
theorem tookF_2 (h : code F (isB F c && decide (0 ≤ n)) = 0) : tookF F c n = ⟨F.w, F.h, F.k, upd F.s c.toNat (F.s c.toNat - minI n (F.s c.toNat))⟩ := if_pos h
end
end Go.Proofs.Ytjnlbincgakmpaa
