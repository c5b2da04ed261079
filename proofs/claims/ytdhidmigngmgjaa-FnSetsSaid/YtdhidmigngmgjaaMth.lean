/-
  Plain laws: what the functions compute. No conditions.
-/
import Derived.Test.YtdhidmigngmgjaaBase
namespace Go.Proofs.Ytdhidmigngmgjaa
set_option linter.unusedSimpArgs false
set_option linter.unusedVariables false

--# allB
/-- Whether all numbers below n are such. -/
def allB (n : Nat) (p : Nat → Bool) : Bool := (List.range n).all p
theorem allB_true {n : Nat} {p : Nat → Bool} (h : ∀ i, i < n → p i = true) : allB n p = true := by
  unfold allB; rw [List.all_eq_true]; intro i hi; exact h i (List.mem_range.1 hi)
theorem allB_false {n : Nat} {p : Nat → Bool} (i : Nat) (hi : i < n) (h : p i = false) : allB n p = false := by
  unfold allB
  rw [List.all_eq_false]
  exact ⟨i, List.mem_range.2 hi, by rw [h]; decide⟩
theorem allB_get {n : Nat} {p : Nat → Bool} (h : allB n p = true) (i : Nat) (hi : i < n) : p i = true := by
  unfold allB at h; rw [List.all_eq_true] at h; exact h i (List.mem_range.2 hi)
theorem all_step {p : Nat → Bool} {i : Nat} (h : ∀ j, j < i → p j = true) (hi : p i = true) : ∀ j, j < i + 1 → p j = true := by
  intro j hj
  rcases (by omega : j < i ∨ j = i) with h1 | h1
  · exact h j h1
  · rw [h1]; exact hi
attribute [irreducible] allB

--# cpy
/-- The first i of f. -/
def cpy (f : Nat → Int) (i : Nat) : Nat → Int := fun j => if j < i then f j else 0
theorem cpy_zero (f : Nat → Int) : cpy f 0 = fun _ => 0 := by funext j; simp [cpy]
theorem cpy_upd (f : Nat → Int) (i : Nat) : upd (cpy f i) i (f i) = cpy f (i + 1) := by
  funext j
  unfold upd cpy
  by_cases h : j = i
  · subst h; simp
  · rw [if_neg h]
    by_cases h2 : j < i
    · rw [if_pos h2, if_pos (by omega)]
    · rw [if_neg h2, if_neg (by omega)]
theorem arr_cpy (n : Nat) (k : IntKind) (f : Nat → Int) {i : Nat} (h : n ≤ i) : arr n k (cpy f i) = arr n k f :=
  arr_congr fun j hj => by unfold cpy; rw [if_pos (by omega)]
attribute [irreducible] cpy

--# okB
def celB (F : Fld) (i : Nat) : Bool := if isB F i = true then decide (0 ≤ F.k i ∧ F.k i ≤ 3 ∧ 0 ≤ F.s i ∧ F.s i ≤ 1000 ∧ (F.k i = 0 ∨ F.s i = 0)) else decide (F.k i = 0 ∧ F.s i = 0)
theorem celB_in {F : Fld} {i : Nat} (h : isB F i = true) : celB F i = decide (0 ≤ F.k i ∧ F.k i ≤ 3 ∧ 0 ≤ F.s i ∧ F.s i ≤ 1000 ∧ (F.k i = 0 ∨ F.s i = 0)) := by unfold celB; rw [if_pos h]
theorem celB_out {F : Fld} {i : Nat} (h : isB F i = false) : celB F i = decide (F.k i = 0 ∧ F.s i = 0) := by unfold celB; rw [if_neg (by rw [h]; simp)]
/-- Whether a field is valid. -/
def okB (F : Fld) : Bool := inB F.w 1 10 && inB F.h 1 10 && allB 100 (celB F)
theorem okB_true {F : Fld} : okB F = true ↔ 1 ≤ F.w ∧ F.w ≤ 10 ∧ 1 ≤ F.h ∧ F.h ≤ 10 ∧ ∀ i, i < 100 → celB F i = true := by
  unfold okB inB
  simp only [Bool.and_eq_true, decide_eq_true_eq]
  constructor
  · rintro ⟨⟨⟨h1, h2⟩, h3, h4⟩, h5⟩
    exact ⟨h1, h2, h3, h4, fun i hi => allB_get h5 i hi⟩
  · rintro ⟨h1, h2, h3, h4, h5⟩
    exact ⟨⟨⟨h1, h2⟩, h3, h4⟩, allB_true h5⟩
theorem okB_w {F : Fld} (h : ¬ (1 ≤ F.w ∧ F.w ≤ 10)) : okB F = false := by
  cases hk : okB F with
  | false => rfl
  | true => have := okB_true.1 hk; omega
theorem okB_h {F : Fld} (h : ¬ (1 ≤ F.h ∧ F.h ≤ 10)) : okB F = false := by
  cases hk : okB F with
  | false => rfl
  | true => have := okB_true.1 hk; omega
theorem okB_c {F : Fld} (i : Nat) (hi : i < 100) (h : celB F i = false) : okB F = false := by
  cases hk : okB F with
  | false => rfl
  | true => have := (okB_true.1 hk).2.2.2.2 i hi; rw [h] at this; exact absurd this (by decide)
theorem ok_cell {F : Fld} (h : okB F = true) (i : Nat) (hi : i < 100) : 0 ≤ F.k i ∧ F.k i ≤ 3 ∧ 0 ≤ F.s i ∧ F.s i ≤ 1000 := by
  have h1 := (okB_true.1 h).2.2.2.2 i hi
  cases hb : isB F (i : Int) with
  | true => rw [celB_in hb] at h1; have := of_decide_eq_true h1; omega
  | false => rw [celB_out hb] at h1; have := of_decide_eq_true h1; omega
theorem ok_wh {F : Fld} (h : okB F = true) : 1 ≤ F.w ∧ F.w ≤ 10 ∧ 1 ≤ F.h ∧ F.h ≤ 10 := by
  have h1 := okB_true.1 h
  exact ⟨h1.1, h1.2.1, h1.2.2.1, h1.2.2.2.1⟩
attribute [irreducible] okB celB
/-- The code of a field, and of whether numbers are as told. -/
def code (F : Fld) (b : Bool) : Int := if okB F = true then (if b = true then 0 else 2) else 1
theorem code_zero {F : Fld} {b : Bool} (h : code F b = 0) : okB F = true ∧ b = true := by
  unfold code at h
  by_cases h1 : okB F = true
  · rw [if_pos h1] at h
    by_cases h2 : b = true
    · exact ⟨h1, h2⟩
    · rw [if_neg h2] at h; omega
  · rw [if_neg h1] at h; omega
theorem code_1 {F : Fld} {b : Bool} (h : okB F = false) : code F b = 1 := by unfold code; rw [if_neg (by rw [h]; simp)]
theorem code_2 {F : Fld} {b : Bool} (h : okB F = true) (h2 : b = false) : code F b = 2 := by unfold code; rw [if_pos h, if_neg (by rw [h2]; simp)]
theorem code_0 {F : Fld} {b : Bool} (h : okB F = true) (h2 : b = true) : code F b = 0 := by unfold code; rw [if_pos h, if_pos h2]
attribute [irreducible] code

--# sqr
/-- The square of two cells. -/
def sqr (a b : Int) : Int := (a % 10 - b % 10) * (a % 10 - b % 10) + (a / 10 - b / 10) * (a / 10 - b / 10)
theorem sq_b {x : Int} (h : -1000 ≤ x ∧ x ≤ 1000) : 0 ≤ x * x ∧ x * x ≤ 1000000 := by
  have h1 : x * x = (x.natAbs : Int) * (x.natAbs : Int) := by rw [← Int.natCast_mul, Int.natAbs_mul_self]
  have h2 : x.natAbs ≤ 1000 := by omega
  have h3 : x.natAbs * x.natAbs ≤ 1000 * 1000 := Nat.mul_le_mul h2 h2
  rw [h1, ← Int.natCast_mul]
  omega
attribute [irreducible] sqr

--# sumN
def sumN (f : Nat → Int) : Nat → Int
  | 0 => 0
  | n + 1 => sumN f n + f n
theorem sumN_b {f : Nat → Int} (h : ∀ i, i < 100 → -32768 ≤ f i ∧ f i ≤ 32767) (n : Nat) (hn : n ≤ 100) : -32768 * (n : Int) ≤ sumN f n ∧ sumN f n ≤ 32767 * (n : Int) := by
  induction n with
  | zero => simp [sumN]
  | succ n ih =>
    have h1 := ih (by omega)
    have h2 := h n (by omega)
    unfold sumN
    omega

--# okC
/-- The code of a field by itself. -/
def okC (F : Fld) : Int := if okB F = true then 0 else 1

--# minI
def minI (a b : Int) : Int := if a < b then a else b
theorem minI_eq (x y : Int) : (if y < x then y else x) = minI x y := by unfold minI; split <;> split <;> omega
theorem minI_b (x y : Int) : minI x y ≤ x ∧ minI x y ≤ y ∧ (minI x y = x ∨ minI x y = y) := by unfold minI; split <;> omega
theorem minI_1 {x y : Int} (h : x < y) : minI x y = x := if_pos h
theorem minI_2 {x y : Int} (h : ¬ x < y) : minI x y = y := if_neg h
attribute [irreducible] minI

--# changed
def withK (F : Fld) (c k : Int) : Fld := if code F (isB F c && inB k 0 3) = 0 then ⟨F.w, F.h, upd F.k c.toNat k, if k = 0 then F.s else upd F.s c.toNat 0⟩ else Fld.zero
section
variable {F : Fld} {c k n : Int}
theorem withK_1 (h : code F (isB F c && inB k 0 3) ≠ 0) : withK F c k = Fld.zero := if_neg h
theorem withK_2 (h : code F (isB F c && inB k 0 3) = 0) (h2 : k = 0) : withK F c k = ⟨F.w, F.h, upd F.k c.toNat k, F.s⟩ := by unfold withK; rw [if_pos h, if_pos h2]
theorem withK_3 (h : code F (isB F c && inB k 0 3) = 0) (h2 : k ≠ 0) : withK F c k = ⟨F.w, F.h, upd F.k c.toNat k, upd F.s c.toNat 0⟩ := by unfold withK; rw [if_pos h, if_neg h2]
def sowC (F : Fld) (c n : Int) : Int := if code F (isB F c && inB n 0 1000) = 0 then (if F.k c.toNat = 0 then (if F.s c.toNat + n ≤ 1000 then 0 else 3) else 4) else code F (isB F c && inB n 0 1000)
theorem sowC_1 (h : code F (isB F c && inB n 0 1000) ≠ 0) : sowC F c n = code F (isB F c && inB n 0 1000) := if_neg h
theorem sowC_2 (h : code F (isB F c && inB n 0 1000) = 0) (h2 : F.k c.toNat ≠ 0) : sowC F c n = 4 := by unfold sowC; rw [if_pos h, if_neg h2]
theorem sowC_3 (h : code F (isB F c && inB n 0 1000) = 0) (h2 : F.k c.toNat = 0) (h3 : ¬ F.s c.toNat + n ≤ 1000) : sowC F c n = 3 := by unfold sowC; rw [if_pos h, if_pos h2, if_neg h3]
theorem sowC_4 (h : code F (isB F c && inB n 0 1000) = 0) (h2 : F.k c.toNat = 0) (h3 : F.s c.toNat + n ≤ 1000) : sowC F c n = 0 := by unfold sowC; rw [if_pos h, if_pos h2, if_pos h3]
def sowF (F : Fld) (c n : Int) : Fld := if sowC F c n = 0 then ⟨F.w, F.h, F.k, upd F.s c.toNat (F.s c.toNat + n)⟩ else Fld.zero
theorem sowF_1 (h : code F (isB F c && inB n 0 1000) ≠ 0) : sowF F c n = Fld.zero := by unfold sowF; rw [if_neg (by rw [sowC_1 h]; exact h)]
theorem sowF_2 (h : code F (isB F c && inB n 0 1000) = 0) (h2 : F.k c.toNat ≠ 0) : sowF F c n = Fld.zero := by unfold sowF; rw [if_neg (by rw [sowC_2 h h2]; decide)]
theorem sowF_3 (h : code F (isB F c && inB n 0 1000) = 0) (h2 : F.k c.toNat = 0) (h3 : ¬ F.s c.toNat + n ≤ 1000) : sowF F c n = Fld.zero := by unfold sowF; rw [if_neg (by rw [sowC_3 h h2 h3]; decide)]
theorem sowF_4 (h : code F (isB F c && inB n 0 1000) = 0) (h2 : F.k c.toNat = 0) (h3 : F.s c.toNat + n ≤ 1000) : sowF F c n = ⟨F.w, F.h, F.k, upd F.s c.toNat (F.s c.toNat + n)⟩ := by unfold sowF; rw [if_pos (sowC_4 h h2 h3)]
def tookN (F : Fld) (c n : Int) : Int := if code F (isB F c && decide (0 ≤ n)) = 0 then minI n (F.s c.toNat) else 0
def tookF (F : Fld) (c n : Int) : Fld := if code F (isB F c && decide (0 ≤ n)) = 0 then ⟨F.w, F.h, F.k, upd F.s c.toNat (F.s c.toNat - minI n (F.s c.toNat))⟩ else Fld.zero
theorem tookN_1 (h : code F (isB F c && decide (0 ≤ n)) ≠ 0) : tookN F c n = 0 := if_neg h
theorem tookN_2 (h : code F (isB F c && decide (0 ≤ n)) = 0) : tookN F c n = minI n (F.s c.toNat) := if_pos h
theorem tookF_1 (h : code F (isB F c && decide (0 ≤ n)) ≠ 0) : tookF F c n = Fld.zero := if_neg h
theorem tookF_2 (h : code F (isB F c && decide (0 ≤ n)) = 0) : tookF F c n = ⟨F.w, F.h, F.k, upd F.s c.toNat (F.s c.toNat - minI n (F.s c.toNat))⟩ := if_pos h
end

--# lists
/-- Element i, 0 behind the end. -/
def atI (xs : List Int) (i : Nat) : Int := xs.getD i 0
theorem atI_get {xs : List Int} {i : Nat} (h : i < xs.length) : xs[i]? = some (atI xs i) := by simp [atI, List.getD, List.getElem?_eq_getElem h]
theorem atI_of {xs : List Int} {i : Nat} {x : Int} (h : xs[i]? = some x) : atI xs i = x := by simp [atI, List.getD, h]
theorem take_succ {xs : List Int} {i : Nat} (h : i < xs.length) : xs.take (i + 1) = xs.take i ++ [atI xs i] := by
  rw [List.take_add_one, atI_get h]; rfl
theorem list_eq {xs ys : List Int} (hl : xs.length = ys.length) (h : ∀ i, i < xs.length → atI xs i = atI ys i) : xs = ys := by
  apply List.ext_getElem?
  intro i
  by_cases hi : i < xs.length
  · rw [atI_get hi, atI_get (by omega), h i hi]
  · rw [List.getElem?_eq_none (by omega), List.getElem?_eq_none (by omega)]
theorem atI_set {xs : List Int} {i j : Nat} {x : Int} (hi : i < xs.length) : atI (xs.set i x) j = if i = j then x else atI xs j := by
  unfold atI
  simp only [List.getD, List.getElem?_set]
  by_cases h : i = j
  · subst h; simp [hi]
  · simp [h]
theorem atI_set_self {xs : List Int} {i : Nat} {x : Int} (hi : i < xs.length) : atI (xs.set i x) i = x := by rw [atI_set hi, if_pos rfl]
theorem atI_set_ne {xs : List Int} {i j : Nat} {x : Int} (hi : i < xs.length) (h : i ≠ j) : atI (xs.set i x) j = atI xs j := by rw [atI_set hi, if_neg h]
/-- The numbers below n that are such, in order. -/
def pickL (p : Nat → Bool) : Nat → List Int
  | 0 => []
  | n + 1 => if p n = true then pickL p n ++ [(n : Int)] else pickL p n
theorem pickL_1 {p : Nat → Bool} {n : Nat} (h : p n = true) : pickL p (n + 1) = pickL p n ++ [(n : Int)] := if_pos h
theorem pickL_2 {p : Nat → Bool} {n : Nat} (h : p n = false) : pickL p (n + 1) = pickL p n := if_neg (by rw [h]; decide)
theorem pickL_length (p : Nat → Bool) (n : Nat) : (pickL p n).length ≤ n := by
  induction n with
  | zero => simp [pickL]
  | succ n ih =>
    unfold pickL
    split
    · simp; omega
    · omega
theorem pickL_mem {p : Nat → Bool} {n : Nat} {x : Int} (h : x ∈ pickL p n) : 0 ≤ x ∧ x < n ∧ p x.toNat = true := by
  induction n with
  | zero => simp [pickL] at h
  | succ n ih =>
    unfold pickL at h
    split at h
    · rcases List.mem_append.1 h with h1 | h1
      · have := ih h1; exact ⟨this.1, by omega, this.2.2⟩
      · simp only [List.mem_singleton] at h1
        subst h1
        refine ⟨by omega, by omega, ?_⟩
        simpa
    · have := ih h; exact ⟨this.1, by omega, this.2.2⟩
theorem atI_mem {xs : List Int} {i : Nat} (h : i < xs.length) : atI xs i ∈ xs := List.mem_of_getElem? (atI_get h)
/-- All cells of a field. -/
def cellsN (F : Fld) (n : Nat) : List Int := pickL (fun i => isB F (i : Int)) n
def cellsL (F : Fld) : List Int := cellsN F 100
theorem cellsN_0 (F : Fld) : cellsN F 0 = [] := rfl
theorem cellsN_1 {F : Fld} {n : Nat} (h : isB F (n : Int) = true) : cellsN F (n + 1) = cellsN F n ++ [(n : Int)] := pickL_1 (p := fun i => isB F (i : Int)) h
theorem cellsN_2 {F : Fld} {n : Nat} (h : isB F (n : Int) = false) : cellsN F (n + 1) = cellsN F n := pickL_2 (p := fun i => isB F (i : Int)) h
theorem cellsN_length (F : Fld) (n : Nat) : (cellsN F n).length ≤ n := pickL_length _ n
theorem cellsN_end {F : Fld} {n : Nat} (h1 : n ≤ 100) (h : ¬ (n : Int) < 100) : cellsN F n = cellsL F := by rw [show n = 100 by omega]; rfl
theorem cellsL_length (F : Fld) : (cellsL F).length ≤ 100 := pickL_length (fun i => isB F (i : Int)) 100
theorem cellsL_is {F : Fld} {j : Nat} (h : j < (cellsL F).length) : isB F (atI (cellsL F) j) = true := by
  have h1 : 0 ≤ atI (cellsL F) j ∧ atI (cellsL F) j < (100 : Nat) ∧ isB F ((atI (cellsL F) j).toNat : Int) = true := pickL_mem (p := fun i => isB F (i : Int)) (atI_mem h)
  have h2 := h1.2.2
  rwa [show ((atI (cellsL F) j).toNat : Int) = atI (cellsL F) j by have := h1.1; exact Int.toNat_of_nonneg this] at h2
theorem cellsL_in {F : Fld} {j : Nat} (h : j < (cellsL F).length) : 0 ≤ atI (cellsL F) j ∧ atI (cellsL F) j ≤ 99 := by
  have h1 : 0 ≤ atI (cellsL F) j ∧ atI (cellsL F) j < (100 : Nat) ∧ isB F ((atI (cellsL F) j).toNat : Int) = true := pickL_mem (p := fun i => isB F (i : Int)) (atI_mem h)
  exact ⟨h1.1, by omega⟩
/-- A value carried through the cells of a field. -/
def foldC {σ : Type} (F : Fld) (st : σ → Int → σ) (s0 : σ) (n : Nat) : σ := (cellsN F n).foldl st s0
def foldT {σ : Type} (F : Fld) (st : σ → Int → σ) (s0 : σ) (j : Nat) : σ := ((cellsL F).take j).foldl st s0
section
variable {σ : Type} {F : Fld} {st : σ → Int → σ} {s0 : σ}
theorem foldC_0 : foldC F st s0 0 = s0 := rfl
theorem foldT_0 : foldT F st s0 0 = s0 := rfl
theorem foldC_1 {n : Nat} (h : isB F (n : Int) = true) : foldC F st s0 (n + 1) = st (foldC F st s0 n) n := by unfold foldC; rw [cellsN_1 h, List.foldl_append]; rfl
theorem foldC_2 {n : Nat} (h : isB F (n : Int) = false) : foldC F st s0 (n + 1) = foldC F st s0 n := by unfold foldC; rw [cellsN_2 h]
theorem foldT_s {j : Nat} (h : j < (cellsL F).length) : foldT F st s0 (j + 1) = st (foldT F st s0 j) (atI (cellsL F) j) := by unfold foldT; rw [take_succ h, List.foldl_append]; rfl
theorem foldT_end {j : Nat} (h : (cellsL F).length ≤ j) : foldT F st s0 j = foldC F st s0 100 := by unfold foldT foldC; rw [List.take_of_length_le h]; rfl
end
attribute [irreducible] atI cellsL cellsN foldC foldT

--# putS
/-- A set as its two words. -/
def pw0 (x c v : Int) : Int := if c < 64 then v else x
def pw1 (y c v : Int) : Int := if c < 64 then y else v
theorem set2 {x y c v : Int} (h : 0 ≤ c ∧ c ≤ 127) : (#[Value.int IntKind.u64 x, Value.int IntKind.u64 y] : Array Value).setIfInBounds (0 + (c / 64).toNat) (.int .u64 v) = #[.int .u64 (pw0 x c v), .int .u64 (pw1 y c v)] := by
  unfold pw0 pw1
  by_cases hc : c < 64
  · rw [if_pos hc, if_pos hc, show (c / 64).toNat = 0 by omega]; rfl
  · rw [if_neg hc, if_neg hc, show (c / 64).toNat = 1 by omega]; rfl
/-- The set with a number more. -/
def putS (s : Int × Int) (c : Int) : Int × Int :=
  (pw0 s.1 c (bits BinOp.or IntKind.u64 (wd s.1 s.2 c) (IntKind.u64.wrap (1 * 2 ^ (c % 64).toNat))), pw1 s.2 c (bits BinOp.or IntKind.u64 (wd s.1 s.2 c) (IntKind.u64.wrap (1 * 2 ^ (c % 64).toNat))))
attribute [irreducible] pw0 pw1
/-- Whether a number is in a set. -/
def hasB (x y c : Int) : Bool := inB c 0 99 && (bits BinOp.and IntKind.u64 (wd x y c / 2 ^ (c % 64).toNat) 1 == 1)
theorem hasB_out {x y c : Int} (h : inB c 0 99 = false) : hasB x y c = false := by unfold hasB; rw [h]; rfl
theorem hasB_in {x y c : Int} (h : inB c 0 99 = true) : hasB x y c = (bits BinOp.and IntKind.u64 (wd x y c / 2 ^ (c % 64).toNat) 1 == 1) := by unfold hasB; rw [h]; rfl
/-- The cells of a field for which something is so, as a set. -/
def setSt (p : Int → Bool) (s : Int × Int) (c : Int) : Int × Int := if p c = true then putS s c else s
theorem setSt_1 {p : Int → Bool} {s : Int × Int} {c : Int} (h : p c = true) : setSt p s c = putS s c := if_pos h
theorem setSt_2 {p : Int → Bool} {s : Int × Int} {c : Int} (h : p c = false) : setSt p s c = s := if_neg (by rw [h]; decide)
def setC (F : Fld) (p : Int → Bool) (n : Nat) : Int × Int := foldC F (setSt p) (0, 0) n
def setT (F : Fld) (p : Int → Bool) (n : Nat) : Int × Int := foldT F (setSt p) (0, 0) n
section
variable {F : Fld} {p : Int → Bool} {n j : Nat}
theorem setC_1 (h : isB F (n : Int) = true) (hp : p n = true) : setC F p (n + 1) = putS (setC F p n) n := by unfold setC; rw [foldC_1 h, setSt_1 hp]
theorem setC_2 (h : isB F (n : Int) = false) : setC F p (n + 1) = setC F p n := by unfold setC; rw [foldC_2 h]
theorem setC_3 (h : isB F (n : Int) = true) (hp : p n = false) : setC F p (n + 1) = setC F p n := by unfold setC; rw [foldC_1 h, setSt_2 hp]
theorem setC_4 (h : (isB F (n : Int) && p n) = false) : setC F p (n + 1) = setC F p n := by
  cases hb : isB F (n : Int) with
  | false => exact setC_2 hb
  | true => rw [hb, Bool.true_and] at h; exact setC_3 hb h
theorem setC_5 (h : (isB F (n : Int) && p n) = true) : setC F p (n + 1) = putS (setC F p n) n := by
  rw [Bool.and_eq_true] at h
  exact setC_1 h.1 h.2
theorem setT_1 (h : j < (cellsL F).length) (hp : p (atI (cellsL F) j) = true) : setT F p (j + 1) = putS (setT F p j) (atI (cellsL F) j) := by unfold setT; rw [foldT_s h, setSt_1 hp]
theorem setT_2 (h : j < (cellsL F).length) (hp : p (atI (cellsL F) j) = false) : setT F p (j + 1) = setT F p j := by unfold setT; rw [foldT_s h, setSt_2 hp]
theorem setT_end (h : (cellsL F).length ≤ j) : setT F p j = setC F p 100 := by unfold setT setC; exact foldT_end h
end
attribute [irreducible] hasB setSt

--# firstC
/-- The first cell of a set that comes before the others, -1 if there is none. -/
def firstSt (x y : Int) (bf : Int → Int → Bool) (best c : Int) : Int := if (hasB x y c && (decide (best < 0) || bf c best)) = true then c else best
def firstC (F : Fld) (x y : Int) (bf : Int → Int → Bool) (n : Nat) : Int := foldC F (firstSt x y bf) (-1) n
def firstT (F : Fld) (x y : Int) (bf : Int → Int → Bool) (n : Nat) : Int := foldT F (firstSt x y bf) (-1) n
theorem foldl_inv {σ : Type} {st : σ → Int → σ} {P : σ → Prop} : ∀ (l : List Int) (s : σ), P s → (∀ s c, c ∈ l → P s → P (st s c)) → P (l.foldl st s)
  | [], s, h, _ => h
  | c :: l, s, h, k => foldl_inv l (st s c) (k s c (by simp) h) (fun s d hd => k s d (by simp [hd]))
theorem cellsN_mem {F : Fld} {n : Nat} {c : Int} (h : c ∈ cellsN F n) : 0 ≤ c ∧ c < n ∧ isB F c = true := by
  unfold cellsN at h
  have h1 := pickL_mem h
  have h2 := h1.2.2
  rw [show ((c.toNat : Nat) : Int) = c from Int.toNat_of_nonneg h1.1] at h2
  exact ⟨h1.1, h1.2.1, h2⟩
theorem foldC_inv {σ : Type} {F : Fld} {st : σ → Int → σ} {s0 : σ} {P : σ → Prop} (n : Nat) (h0 : P s0) (hs : ∀ s c, isB F c = true → P s → P (st s c)) : P (foldC F st s0 n) := by
  unfold foldC
  exact foldl_inv _ _ h0 (fun s c hc => hs s c (cellsN_mem hc).2.2)
theorem foldT_inv {σ : Type} {F : Fld} {st : σ → Int → σ} {s0 : σ} {P : σ → Prop} (n : Nat) (h0 : P s0) (hs : ∀ s c, isB F c = true → P s → P (st s c)) : P (foldT F st s0 n) := by
  unfold foldT cellsL
  exact foldl_inv _ _ h0 (fun s c hc => hs s c (cellsN_mem (List.mem_of_mem_take hc)).2.2)
section
variable {F : Fld} {x y best : Int} {bf : Int → Int → Bool} {n : Nat}
theorem firstSt_is (s c : Int) (hc : isB F c = true) (h : s = -1 ∨ isB F s = true) : firstSt x y bf s c = -1 ∨ isB F (firstSt x y bf s c) = true := by
  unfold firstSt
  split
  · exact .inr hc
  · exact h
theorem firstC_is (hb : best = firstC F x y bf n) : best = -1 ∨ isB F best = true := by rw [hb]; exact foldC_inv n (.inl rfl) (fun s c hc h => firstSt_is s c hc h)
theorem firstT_is (hb : best = firstT F x y bf n) : best = -1 ∨ isB F best = true := by rw [hb]; exact foldT_inv n (.inl rfl) (fun s c hc h => firstSt_is s c hc h)
theorem is_in (h : best = -1 ∨ isB F best = true) : best = -1 ∨ (0 ≤ best ∧ best ≤ 99) := by
  rcases h with h | h
  · exact .inl h
  · have := isB_true.1 h; omega
theorem is_is (h : best = -1 ∨ isB F best = true) (h0 : ¬ best < 0) : isB F best = true := by
  rcases h with h | h
  · omega
  · exact h
theorem firstC_0 : (-1 : Int) = firstC F x y bf 0 := by unfold firstC; rw [foldC_0]
theorem firstC_n (hb : best = firstC F x y bf n) (h : isB F (n : Int) = false) : best = firstC F x y bf (n + 1) := by unfold firstC; rw [foldC_2 h]; exact hb
theorem firstC_h (hb : best = firstC F x y bf n) (h : isB F (n : Int) = true) (h2 : hasB x y n = false) : best = firstC F x y bf (n + 1) := by
  unfold firstC at hb ⊢; rw [foldC_1 h, ← hb]; unfold firstSt; rw [h2]; rfl
theorem firstC_b (hb : best = firstC F x y bf n) (h : isB F (n : Int) = true) (h2 : hasB x y n = true) (h3 : best < 0) : (n : Int) = firstC F x y bf (n + 1) := by
  unfold firstC at hb ⊢; rw [foldC_1 h, ← hb]; unfold firstSt; rw [h2, decide_eq_true h3]; rfl
theorem firstC_t (hb : best = firstC F x y bf n) (h : isB F (n : Int) = true) (h2 : hasB x y n = true) (h3 : bf n best = true) : (n : Int) = firstC F x y bf (n + 1) := by
  unfold firstC at hb ⊢; rw [foldC_1 h, ← hb]; unfold firstSt; rw [h2, h3, Bool.or_true]; rfl
theorem firstC_f (hb : best = firstC F x y bf n) (h : isB F (n : Int) = true) (h3 : ¬ best < 0) (h4 : bf n best = false) : best = firstC F x y bf (n + 1) := by
  unfold firstC at hb ⊢; rw [foldC_1 h, ← hb]; unfold firstSt; rw [h4, decide_eq_false h3, Bool.or_false, Bool.and_false]; rfl
theorem firstT_0 : (-1 : Int) = firstT F x y bf 0 := by unfold firstT; rw [foldT_0]
theorem firstT_h (hb : best = firstT F x y bf n) (h : n < (cellsL F).length) (h2 : hasB x y (atI (cellsL F) n) = false) : best = firstT F x y bf (n + 1) := by
  unfold firstT at hb ⊢; rw [foldT_s h, ← hb]; unfold firstSt; rw [h2]; rfl
theorem firstT_b (hb : best = firstT F x y bf n) (h : n < (cellsL F).length) (h2 : hasB x y (atI (cellsL F) n) = true) (h3 : best < 0) : atI (cellsL F) n = firstT F x y bf (n + 1) := by
  unfold firstT at hb ⊢; rw [foldT_s h, ← hb]; unfold firstSt; rw [h2, decide_eq_true h3]; rfl
theorem firstT_t (hb : best = firstT F x y bf n) (h : n < (cellsL F).length) (h2 : hasB x y (atI (cellsL F) n) = true) (h3 : bf (atI (cellsL F) n) best = true) : atI (cellsL F) n = firstT F x y bf (n + 1) := by
  unfold firstT at hb ⊢; rw [foldT_s h, ← hb]; unfold firstSt; rw [h2, h3, Bool.or_true]; rfl
theorem firstT_f (hb : best = firstT F x y bf n) (h : n < (cellsL F).length) (h3 : ¬ best < 0) (h4 : bf (atI (cellsL F) n) best = false) : best = firstT F x y bf (n + 1) := by
  unfold firstT at hb ⊢; rw [foldT_s h, ← hb]; unfold firstSt; rw [h4, decide_eq_false h3, Bool.or_false, Bool.and_false]; rfl
theorem firstT_end (hb : best = firstT F x y bf n) (h : (cellsL F).length ≤ n) : best = firstC F x y bf 100 := by rw [hb]; exact foldT_end h
theorem firstC_end (hb : best = firstC F x y bf n) (h1 : n ≤ 100) (h : ¬ (n : Int) < 100) : best = firstC F x y bf 100 := by rw [hb, show n = 100 by omega]
end
/-- The nearest cell of a set; the richest. -/
def nearC (F : Fld) (c x y : Int) : Int := firstC F x y (fun a b => decide (sqr c a < sqr c b)) 100
def richC (F : Fld) (x y : Int) : Int := firstC F x y (fun a b => decide (F.s b.toNat < F.s a.toNat)) 100
theorem richC_eq (F : Fld) (x y : Int) : richC F x y = firstC F x y (fun a b => decide (F.s b.toNat < F.s a.toNat)) 100 := rfl
theorem nearC_eq (F : Fld) (c x y : Int) : nearC F c x y = firstC F x y (fun a b => decide (sqr c a < sqr c b)) 100 := rfl
theorem nearC_in (F : Fld) (c x y : Int) : nearC F c x y = -1 ∨ (0 ≤ nearC F c x y ∧ nearC F c x y ≤ 99) := is_in (firstC_is rfl)
theorem richC_in (F : Fld) (x y : Int) : richC F x y = -1 ∨ (0 ≤ richC F x y ∧ richC F x y ≤ 99) := is_in (firstC_is rfl)
attribute [irreducible] firstC firstT nearC richC
section
variable {F : Fld} {c x y : Int}
def near0 (F : Fld) (c x y : Int) : Int := if code F (isB F c) = 0 then (if nearC F c x y < 0 then 0 else nearC F c x y) else 0
def near1 (F : Fld) (c x y : Int) : Int := if code F (isB F c) = 0 then (if nearC F c x y < 0 then 0 else sqr c (nearC F c x y)) else 0
def near2 (F : Fld) (c x y : Int) : Int := if code F (isB F c) = 0 then (if nearC F c x y < 0 then 6 else 0) else code F (isB F c)
def rich0 (F : Fld) (x y : Int) : Int := if okB F = true then (if richC F x y < 0 then 0 else richC F x y) else 0
def rich1 (F : Fld) (x y : Int) : Int := if okB F = true then (if richC F x y < 0 then 0 else F.s (richC F x y).toNat) else 0
def rich2 (F : Fld) (x y : Int) : Int := if okB F = true then (if richC F x y < 0 then 6 else 0) else 1
/-- The tree that is nearest to a cell. -/
def treeS (F : Fld) : Int × Int := setC F (fun c_ => F.k c_.toNat == 3) 100
def tree0 (F : Fld) (c : Int) : Int := if code F (isB F c) = 0 then (if nearC F c (treeS F).1 (treeS F).2 < 0 then 0 else nearC F c (treeS F).1 (treeS F).2) else 0
def tree1 (F : Fld) (c : Int) : Int := if code F (isB F c) = 0 then (if nearC F c (treeS F).1 (treeS F).2 < 0 then 6 else 0) else code F (isB F c)
end

--# lists of cells
def allIn (xs : List Int) : Bool := xs.all fun c => inB c 0 99
theorem allIn_f {xs : List Int} {i : Nat} (h : i < xs.length) (hb : inB (atI xs i) 0 99 = false) : allIn xs = false := by
  unfold allIn; rw [List.all_eq_false]; exact ⟨_, atI_mem h, by rw [hb]; decide⟩
theorem allIn_t {xs : List Int} (h : ∀ i, i < xs.length → inB (atI xs i) 0 99 = true) : allIn xs = true := by
  unfold allIn; rw [List.all_eq_true]
  intro c hc
  obtain ⟨i, hi⟩ := List.getElem?_of_mem hc
  have hl := (List.getElem?_eq_some_iff.1 hi).1
  have := h i hl
  rwa [atI_of hi] at this
def setL (xs : List Int) (n : Nat) : Int × Int := (xs.take n).foldl putS (0, 0)
theorem setL_0 (xs : List Int) : setL xs 0 = (0, 0) := rfl
theorem setL_s {xs : List Int} {i : Nat} (h : i < xs.length) : setL xs (i + 1) = putS (setL xs i) (atI xs i) := by unfold setL; rw [take_succ h, List.foldl_append]; rfl
def ofL (xs : List Int) : Int × Int := if allIn xs = true then setL xs xs.length else (0, 0)
def ofC (xs : List Int) : Int := if allIn xs = true then 0 else 2
theorem ofL_f {xs : List Int} (h : allIn xs = false) : ofL xs = (0, 0) := if_neg (by rw [h]; decide)
theorem ofL_t {xs : List Int} {i : Nat} (h : allIn xs = true) (hi : i ≤ xs.length) (h2 : ¬ (i : Int) < xs.length) : ofL xs = setL xs i := by unfold ofL; rw [if_pos h, show i = xs.length by omega]
theorem ofC_f {xs : List Int} (h : allIn xs = false) : ofC xs = 2 := if_neg (by rw [h]; decide)
theorem ofC_t {xs : List Int} (h : allIn xs = true) : ofC xs = 0 := if_pos h
attribute [irreducible] setL allIn ofL ofC
def listN (x y : Int) (n : Nat) : List Int := pickL (fun i => hasB x y (i : Int)) n
def listL (x y : Int) : List Int := listN x y 100
theorem listN_0 (x y : Int) : listN x y 0 = [] := rfl
theorem listN_1 {x y : Int} {n : Nat} (h : hasB x y (n : Int) = true) : listN x y (n + 1) = listN x y n ++ [(n : Int)] := pickL_1 (p := fun i => hasB x y (i : Int)) h
theorem listN_2 {x y : Int} {n : Nat} (h : hasB x y (n : Int) = false) : listN x y (n + 1) = listN x y n := pickL_2 (p := fun i => hasB x y (i : Int)) h
theorem listN_length (x y : Int) (n : Nat) : (listN x y n).length ≤ n := pickL_length _ n
theorem listN_end {x y : Int} {n : Nat} (h1 : n ≤ 100) (h : ¬ (n : Int) < 100) : listN x y n = listL x y := by rw [show n = 100 by omega]; rfl
theorem listL_length (x y : Int) : (listL x y).length ≤ 100 := pickL_length (fun i => hasB x y (i : Int)) 100
theorem listL_in {x y : Int} {j : Nat} (h : j < (listL x y).length) : 0 ≤ atI (listL x y) j ∧ atI (listL x y) j ≤ 99 := by
  have h1 : 0 ≤ atI (listL x y) j ∧ atI (listL x y) j < (100 : Nat) ∧ hasB x y ((atI (listL x y) j).toNat : Int) = true := pickL_mem (p := fun i => hasB x y (i : Int)) (atI_mem h)
  exact ⟨h1.1, by omega⟩
attribute [irreducible] listN listL
/-- The set of a kind, of a ring, with their codes. -/
def kindS (F : Fld) (k : Int) : Int × Int := if code F (inB k 0 3) = 0 then setC F (fun c_ => F.k c_.toNat == k) 100 else (0, 0)
theorem kindS_f {F : Fld} {k : Int} (h : code F (inB k 0 3) ≠ 0) : kindS F k = (0, 0) := if_neg h
theorem kindS_t {F : Fld} {k : Int} (h : code F (inB k 0 3) = 0) : kindS F k = setC F (fun c_ => F.k c_.toNat == k) 100 := if_pos h
def ringS (F : Fld) (o m : Int) : Int × Int := if code F (isB F o && inB m 0 200) = 0 then setC F (fun c_ => decide (sqr o c_ ≤ m)) 100 else (0, 0)
theorem ringS_f {F : Fld} {o m : Int} (h : code F (isB F o && inB m 0 200) ≠ 0) : ringS F o m = (0, 0) := if_neg h
theorem ringS_t {F : Fld} {o m : Int} (h : code F (isB F o && inB m 0 200) = 0) : ringS F o m = setC F (fun c_ => decide (sqr o c_ ≤ m)) 100 := if_pos h
attribute [irreducible] kindS ringS

--# small
/-- Four numbers by index. -/
def listF4 (a b c d : Int) : Nat → Int := fun i => match i with | 0 => a | 1 => b | 2 => c | _ => d
theorem arr4 (k : IntKind) (a b c d : Int) : (#[.int k a, .int k b, .int k c, .int k d] : Array Value) = arr 4 k (listF4 a b c d) := by
  refine arr_ext rfl (fun i hi => ?_)
  rcases (by omega : i = 0 ∨ i = 1 ∨ i = 2 ∨ i = 3) with rfl | rfl | rfl | rfl <;> rfl
theorem listF4_in {a b c d : Int} {i : Nat} (h : i < 4) : listF4 a b c d i = a ∨ listF4 a b c d i = b ∨ listF4 a b c d i = c ∨ listF4 a b c d i = d := by
  rcases (by omega : i = 0 ∨ i = 1 ∨ i = 2 ∨ i = 3) with rfl | rfl | rfl | rfl <;> simp [listF4]
theorem listF4_add (x a b c d : Int) (i : Nat) : listF4 (x + a) (x + b) (x + c) (x + d) i = x + listF4 a b c d i := by
  unfold listF4; split <;> rfl
/-- Text i of a list. -/
def lstS (l : List ByteArray) (i : Nat) : ByteArray := l.getD i ⟨#[]⟩
theorem lstS_get {l : List ByteArray} {i : Nat} (h : i < l.length) : (l.map Value.string).toArray[0 + i]? = some (.string (lstS l i)) := by
  simp [lstS, List.getD, h]
def codeNm (l : List ByteArray) (c : Int) : ByteArray := if inB c 0 8 = true then lstS l c.toNat else ⟨#[]⟩
theorem codeNm_t {l : List ByteArray} {c : Int} (h : inB c 0 8 = true) : codeNm l c = lstS l c.toNat := if_pos h
theorem codeNm_f {l : List ByteArray} {c : Int} (h : inB c 0 8 = false) : codeNm l c = ⟨#[]⟩ := if_neg (by rw [h]; decide)

--# fears
def feaC (F : Fld) (f : Nat → Int) (i : Nat) : Bool := decide (0 ≤ f i ∧ f i ≤ 1000 ∧ (isB F (i : Int) = true ∨ f i = 0))
theorem feaC_1 {F : Fld} {f : Nat → Int} {i : Nat} (h : ¬ (0 ≤ f i ∧ f i ≤ 1000)) : feaC F f i = false := decide_eq_false (fun k => h ⟨k.1, k.2.1⟩)
theorem feaC_2 {F : Fld} {f : Nat → Int} {i : Nat} (h : isB F (i : Int) = false) (h2 : f i ≠ 0) : feaC F f i = false := decide_eq_false (fun k => by
  rcases k.2.2 with h3 | h3
  · rw [h] at h3; cases h3
  · exact h2 h3)
theorem feaC_3 {F : Fld} {f : Nat → Int} {i : Nat} (h : 0 ≤ f i ∧ f i ≤ 1000) (h2 : isB F (i : Int) = true) : feaC F f i = true := decide_eq_true ⟨h.1, h.2, .inl h2⟩
theorem feaC_4 {F : Fld} {f : Nat → Int} {i : Nat} (h : f i = 0) : feaC F f i = true := decide_eq_true ⟨by omega, by omega, .inr h⟩
def feaB (F : Fld) (f : Nat → Int) : Bool := allB 100 (feaC F f)
theorem feaB_f {F : Fld} {f : Nat → Int} (i : Nat) (hi : i < 100) (h : feaC F f i = false) : feaB F f = false := allB_false i hi h
theorem feaB_t {F : Fld} {f : Nat → Int} (h : ∀ i, i < 100 → feaC F f i = true) : feaB F f = true := allB_true h
attribute [irreducible] feaC feaB

--# plain
theorem isB_wh {F G : Fld} {c : Int} (hw : F.w = G.w) (hh : F.h = G.h) : isB F c = isB G c := by rw [isB_eq, isB_eq, hw, hh]
def plSt (v : Int) (G : Fld) (c : Int) : Fld := { G with s := upd G.s c.toNat v }
def plC (a b v : Int) (n : Nat) : Fld := foldC (fldWH a b) (plSt v) (fldWH a b) n
def plT (a b v : Int) (n : Nat) : Fld := foldT (fldWH a b) (plSt v) (fldWH a b) n
theorem plSt_inv {a b v : Int} (hv : 0 ≤ v ∧ v ≤ 1000) (G : Fld) (c : Int) (h : G.w = a ∧ G.h = b ∧ (∀ i, G.k i = 0) ∧ ∀ i, 0 ≤ G.s i ∧ G.s i ≤ 1000) : (plSt v G c).w = a ∧ (plSt v G c).h = b ∧ (∀ i, (plSt v G c).k i = 0) ∧ ∀ i, 0 ≤ (plSt v G c).s i ∧ (plSt v G c).s i ≤ 1000 := by
  refine ⟨h.1, h.2.1, h.2.2.1, fun i => ?_⟩
  show 0 ≤ upd G.s c.toNat v i ∧ upd G.s c.toNat v i ≤ 1000
  by_cases hi : i = c.toNat
  · rw [hi, upd_self]; exact hv
  · rw [upd_ne _ _ hi]; exact h.2.2.2 i
section
variable {a b v : Int} {n : Nat}
theorem wh_inv (a b : Int) : (fldWH a b).w = a ∧ (fldWH a b).h = b ∧ (∀ i, (fldWH a b).k i = 0) ∧ ∀ i, 0 ≤ (fldWH a b).s i ∧ (fldWH a b).s i ≤ 1000 := ⟨rfl, rfl, fun _ => rfl, fun _ => by show (0 : Int) ≤ 0 ∧ (0 : Int) ≤ 1000; omega⟩
theorem plC_inv (hv : 0 ≤ v ∧ v ≤ 1000) : (plC a b v n).w = a ∧ (plC a b v n).h = b ∧ (∀ i, (plC a b v n).k i = 0) ∧ ∀ i, 0 ≤ (plC a b v n).s i ∧ (plC a b v n).s i ≤ 1000 :=
  foldC_inv (P := fun G : Fld => G.w = a ∧ G.h = b ∧ (∀ i, G.k i = 0) ∧ ∀ i, 0 ≤ G.s i ∧ G.s i ≤ 1000) n (wh_inv a b) (fun s c _ h => plSt_inv hv s c h)
theorem inv_wf {G : Fld} (h : G.w = a ∧ G.h = b ∧ (∀ i, G.k i = 0) ∧ ∀ i, 0 ≤ G.s i ∧ G.s i ≤ 1000) (ha : 1 ≤ a ∧ a ≤ 10) (hb : 1 ≤ b ∧ b ≤ 10) : G.wf := by
  obtain ⟨h1, h2, h3, h4⟩ := h
  refine ⟨by omega, by omega, by omega, by omega, fun i _ => by rw [h3 i]; omega, fun i _ => by have := h4 i; omega⟩
theorem wh_wf (ha : 1 ≤ a ∧ a ≤ 10) (hb : 1 ≤ b ∧ b ≤ 10) : (fldWH a b).wf := inv_wf (wh_inv a b) ha hb
theorem plC_wf (ha : 1 ≤ a ∧ a ≤ 10) (hb : 1 ≤ b ∧ b ≤ 10) (hv : 0 ≤ v ∧ v ≤ 1000) : (plC a b v n).wf := inv_wf (plC_inv hv) ha hb
theorem plC_is (hv : 0 ≤ v ∧ v ≤ 1000) (c : Int) : isB (plC a b v n) c = isB (fldWH a b) c := isB_wh (plC_inv hv).1 (plC_inv hv).2.1
theorem plC_0 : plC a b v 0 = fldWH a b := by unfold plC; rw [foldC_0]
theorem plT_0 : plT a b v 0 = fldWH a b := by unfold plT; rw [foldT_0]
theorem plC_1 (hv : 0 ≤ v ∧ v ≤ 1000) (h : isB (plC a b v n) (n : Int) = true) : plC a b v (n + 1) = { (plC a b v n) with s := upd (plC a b v n).s n v } := by
  rw [plC_is hv] at h
  have := foldC_1 (F := fldWH a b) (st := plSt v) (s0 := fldWH a b) h
  unfold plC
  rw [this]
  unfold plSt
  rw [Int.toNat_natCast]
theorem plC_2 (hv : 0 ≤ v ∧ v ≤ 1000) (h : isB (plC a b v n) (n : Int) = false) : plC a b v (n + 1) = plC a b v n := by
  rw [plC_is hv] at h
  unfold plC
  exact foldC_2 h
theorem plT_1 (h : n < (cellsL (fldWH a b)).length) : plT a b v (n + 1) = { (plT a b v n) with s := upd (plT a b v n).s (atI (cellsL (fldWH a b)) n).toNat v } := by
  unfold plT
  rw [foldT_s h]
  rfl
theorem plT_end (h : (cellsL (fldWH a b)).length ≤ n) : plT a b v n = plC a b v 100 := foldT_end h
def pin (a b v : Int) : Bool := inB a 1 10 && inB b 1 10 && inB v 0 1000
def plnF (a b v : Int) : Fld := if pin a b v = true then plC a b v 100 else Fld.zero
def plnC (a b v : Int) : Int := if pin a b v = true then 0 else 2
theorem plnF_t (h : pin a b v = true) : plnF a b v = plC a b v 100 := if_pos h
theorem plnF_f (h : pin a b v = false) : plnF a b v = Fld.zero := if_neg (by rw [h]; decide)
theorem plnC_t (h : pin a b v = true) : plnC a b v = 0 := if_pos h
theorem plnC_f (h : pin a b v = false) : plnC a b v = 2 := if_neg (by rw [h]; decide)
end
attribute [irreducible] plC plT

--# beside
def offI (i : Nat) : Int := listF4 (-10) (-1) 1 10 i
/-- Whether the i-th neighbour is a cell of the field. -/
def nbP (F : Fld) (c : Int) (i : Nat) : Bool := !((offI i == -1 && c % 10 == 0) || (offI i == 1 && c % 10 == 9) || !isB F (c + offI i))
def nbN (F : Fld) (c : Int) : Nat → List Int
  | 0 => []
  | n + 1 => if nbP F c n = true then nbN F c n ++ [c + offI n] else nbN F c n
theorem nbN_0 (F : Fld) (c : Int) : nbN F c 0 = [] := rfl
theorem nbN_1 {F : Fld} {c : Int} {n : Nat} (h : nbP F c n = true) : nbN F c (n + 1) = nbN F c n ++ [c + offI n] := if_pos h
theorem nbN_2 {F : Fld} {c : Int} {n : Nat} (h : nbP F c n = false) : nbN F c (n + 1) = nbN F c n := if_neg (by rw [h]; decide)
theorem nbN_length (F : Fld) (c : Int) (n : Nat) : (nbN F c n).length ≤ n := by
  induction n with
  | zero => simp [nbN]
  | succ n ih =>
    unfold nbN
    split
    · simp; omega
    · omega
theorem nbP_eq {F : Fld} {c : Int} (hc : 0 ≤ c ∧ c ≤ 99) {i : Nat} (hi : i < 4) : nbP F c i = (isB F (c + offI i) && (sqr c (c + offI i) == 1)) := by
  unfold nbP
  cases hb : isB F (c + offI i) with
  | false => simp
  | true =>
    have h := isB_true.1 hb
    unfold sqr
    rcases (by omega : i = 0 ∨ i = 1 ∨ i = 2 ∨ i = 3) with rfl | rfl | rfl | rfl
    · simp only [offI, listF4] at h ⊢
      have e1 : c % 10 - (c + -10) % 10 = 0 := by omega
      have e2 : c / 10 - (c + -10) / 10 = 1 := by omega
      rw [e1, e2]; cases (c % 10 == 0) <;> cases (c % 10 == 9) <;> decide
    · simp only [offI, listF4] at h ⊢
      by_cases h0 : c % 10 = 0
      · have e1 : c % 10 - (c + -1) % 10 = -9 := by omega
        have e2 : c / 10 - (c + -1) / 10 = 1 := by omega
        rw [e1, e2, h0]; decide
      · have e1 : c % 10 - (c + -1) % 10 = 1 := by omega
        have e2 : c / 10 - (c + -1) / 10 = 0 := by omega
        rw [e1, e2]
        have e3 : (c % 10 == 0) = false := by simpa using h0
        rw [e3]; cases (c % 10 == 0) <;> cases (c % 10 == 9) <;> decide
    · simp only [offI, listF4] at h ⊢
      by_cases h0 : c % 10 = 9
      · have e1 : c % 10 - (c + 1) % 10 = 9 := by omega
        have e2 : c / 10 - (c + 1) / 10 = -1 := by omega
        rw [e1, e2, h0]; decide
      · have e1 : c % 10 - (c + 1) % 10 = -1 := by omega
        have e2 : c / 10 - (c + 1) / 10 = 0 := by omega
        rw [e1, e2]
        have e3 : (c % 10 == 9) = false := by simpa using h0
        rw [e3]; cases (c % 10 == 0) <;> cases (c % 10 == 9) <;> decide
    · simp only [offI, listF4] at h ⊢
      have e1 : c % 10 - (c + 10) % 10 = 0 := by omega
      have e2 : c / 10 - (c + 10) / 10 = -1 := by omega
      rw [e1, e2]; cases (c % 10 == 0) <;> cases (c % 10 == 9) <;> decide
def nbL (F : Fld) (c : Int) : List Int := nbN F c 4
theorem nbN_end {F : Fld} {c : Int} {n : Nat} (h1 : n ≤ 4) (h : ¬ (n : Int) < 4) : nbN F c n = nbL F c := by rw [show n = 4 by omega]; rfl
theorem nbL_length (F : Fld) (c : Int) : (nbL F c).length ≤ 4 := nbN_length F c 4
def nbR (F : Fld) (c : Int) : List Int := if code F (isB F c) = 0 then nbL F c else []
theorem nbR_t {F : Fld} {c : Int} (h : code F (isB F c) = 0) : nbR F c = nbL F c := if_pos h
theorem nbR_f {F : Fld} {c : Int} (h : code F (isB F c) ≠ 0) : nbR F c = [] := if_neg h
attribute [irreducible] nbP nbN nbL

--# sames
def sameL (xs ys : List Int) : Bool := decide (xs = ys)
theorem sameL_len {xs ys : List Int} (h : xs.length ≠ ys.length) : sameL xs ys = false := decide_eq_false (fun k => h (by rw [k]))
theorem sameL_at {xs ys : List Int} (i : Nat) (h : atI xs i ≠ atI ys i) : sameL xs ys = false := decide_eq_false (fun k => h (by rw [k]))
theorem sameL_t {xs ys : List Int} (hl : xs.length = ys.length) (h : ∀ i, i < xs.length → atI xs i = atI ys i) : sameL xs ys = true := decide_eq_true (list_eq hl h)
attribute [irreducible] sameL
end Go.Proofs.Ytdhidmigngmgjaa
