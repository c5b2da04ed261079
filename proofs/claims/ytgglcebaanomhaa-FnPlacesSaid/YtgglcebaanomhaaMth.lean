/-
 Plain laws: what the functions compute. No conditions.
-/
import Derived.Test.YtgglcebaanomhaaBase
namespace Go.Proofs.Ytgglcebaanomhaa
set_option linter.unusedSimpArgs false
set_option linter.unusedVariables false
def allB (n : Nat) (p : Nat → Bool) : Bool := (List.range n).all p
theorem allB_true {n : Nat} {p : Nat → Bool} (h : ∀ i, i < n → p i = true) : allB n p = true := by
 unfold allB; rw [List.all_eq_true]; intro i hi; exact h i (List.mem_range.1 hi)
theorem allB_false {n : Nat} {p : Nat → Bool} (i : Nat) (hi : i < n) (h : p i = false) : allB n p = false := by
 unfold allB
 rw [List.all_eq_false]
 exact ⟨i, List.mem_range.2 hi, by rw [h]; decide⟩
theorem allB_get {n : Nat} {p : Nat → Bool} (h : allB n p = true) (i : Nat) (hi : i < n) : p i = true := by
 unfold allB at h; rw [List.all_eq_true] at h; exact h i (List.mem_range.2 hi)
theorem all_step {p : Nat → Bool} {i : Nat} (h : ∀ j, j < i → p j = true) (hi : p i = true) : ∀ j, j < i + 1 → p j = true := by
 intro j hj
 rcases (by omega : j < i ∨ j = i) with h1 | h1
 ·exact h j h1
 ·rw [h1]; exact hi
attribute [irreducible] allB
def cpy (f : Nat → Int) (i : Nat) : Nat → Int := fun j => if j < i then f j else 0
attribute [irreducible] cpy
def celB (F : Fld) (i : Nat) : Bool := if isB F i = true then decide (0 ≤ F.k i ∧ F.k i ≤ 3 ∧ 0 ≤ F.s i ∧ F.s i ≤ 1000 ∧ (F.k i = 0 ∨ F.s i = 0)) else decide (F.k i = 0 ∧ F.s i = 0)
theorem celB_in {F : Fld} {i : Nat} (h : isB F i = true) : celB F i = decide (0 ≤ F.k i ∧ F.k i ≤ 3 ∧ 0 ≤ F.s i ∧ F.s i ≤ 1000 ∧ (F.k i = 0 ∨ F.s i = 0)) := by unfold celB; rw [if_pos h]
theorem celB_out {F : Fld} {i : Nat} (h : isB F i = false) : celB F i = decide (F.k i = 0 ∧ F.s i = 0) := by unfold celB; rw [if_neg (by rw [h]; simp)]
def okB (F : Fld) : Bool := inB F.w 1 10 && inB F.h 1 10 && allB 100 (celB F)
theorem okB_true {F : Fld} : okB F = true ↔ 1 ≤ F.w ∧ F.w ≤ 10 ∧ 1 ≤ F.h ∧ F.h ≤ 10 ∧ ∀ i, i < 100 → celB F i = true := by
 unfold okB inB
 simp only [Bool.and_eq_true, decide_eq_true_eq]
 constructor
 ·rintro ⟨⟨⟨h1, h2⟩, h3, h4⟩, h5⟩
  exact ⟨h1, h2, h3, h4, fun i hi => allB_get h5 i hi⟩
 ·rintro ⟨h1, h2, h3, h4, h5⟩
  exact ⟨⟨⟨h1, h2⟩, h3, h4⟩, allB_true h5⟩
theorem okB_w {F : Fld} (h : ¬ (1 ≤ F.w ∧ F.w ≤ 10)) : okB F = false := by
 cases hk : okB F with
 | false => rfl
 | true => have := okB_true.1 hk; omega
theorem okB_h {F : Fld} (h : ¬ (1 ≤ F.h ∧ F.h ≤ 10)) : okB F = false := by
 cases hk : okB F with
 | false => rfl
 | true => have := okB_true.1 hk; omega
theorem okB_c {F : Fld} (i : Nat) (hi : i < 100) (h : celB F i = false) : okB F = false := by
 cases hk : okB F with
 | false => rfl
 | true => have := (okB_true.1 hk).2.2.2.2 i hi; rw [h] at this; exact absurd this (by decide)
theorem ok_cell {F : Fld} (h : okB F = true) (i : Nat) (hi : i < 100) : 0 ≤ F.k i ∧ F.k i ≤ 3 ∧ 0 ≤ F.s i ∧ F.s i ≤ 1000 := by
 have h1 := (okB_true.1 h).2.2.2.2 i hi
 cases hb : isB F (i : Int) with
 | true => rw [celB_in hb] at h1; have := of_decide_eq_true h1; omega
 | false => rw [celB_out hb] at h1; have := of_decide_eq_true h1; omega
theorem ok_wh {F : Fld} (h : okB F = true) : 1 ≤ F.w ∧ F.w ≤ 10 ∧ 1 ≤ F.h ∧ F.h ≤ 10 := by
 have h1 := okB_true.1 h
 exact ⟨h1.1, h1.2.1, h1.2.2.1, h1.2.2.2.1⟩
attribute [irreducible] okB celB
def code (F : Fld) (b : Bool) : Int := if okB F = true then (if b = true then 0 else 2) else 1
theorem code_zero {F : Fld} {b : Bool} (h : code F b = 0) : okB F = true ∧ b = true := by
 unfold code at h
 by_cases h1 : okB F = true
 ·rw [if_pos h1] at h
  by_cases h2 : b = true
  ·exact ⟨h1, h2⟩
  ·rw [if_neg h2] at h; omega
 ·rw [if_neg h1] at h; omega
theorem code_1 {F : Fld} {b : Bool} (h : okB F = false) : code F b = 1 := by unfold code; rw [if_neg (by rw [h]; simp)]
theorem code_2 {F : Fld} {b : Bool} (h : okB F = true) (h2 : b = false) : code F b = 2 := by unfold code; rw [if_pos h, if_neg (by rw [h2]; simp)]
theorem code_0 {F : Fld} {b : Bool} (h : okB F = true) (h2 : b = true) : code F b = 0 := by unfold code; rw [if_pos h, if_pos h2]
attribute [irreducible] code
def sqr (a b : Int) : Int := (a % 10 - b % 10) * (a % 10 - b % 10) + (a / 10 - b / 10) * (a / 10 - b / 10)
theorem sq_b {x : Int} (h : -1000 ≤ x ∧ x ≤ 1000) : 0 ≤ x * x ∧ x * x ≤ 1000000 := by
 have h1 : x * x = (x.natAbs : Int) * (x.natAbs : Int) := by rw [← Int.natCast_mul, Int.natAbs_mul_self]
 have h2 : x.natAbs ≤ 1000 := by omega
 have h3 : x.natAbs * x.natAbs ≤ 1000 * 1000 := Nat.mul_le_mul h2 h2
 rw [h1, ← Int.natCast_mul]
 omega
attribute [irreducible] sqr
def minI (a b : Int) : Int := if a < b then a else b
attribute [irreducible] minI
section
variable {F : Fld} {c k n : Int}
end
def atI (xs : List Int) (i : Nat) : Int := xs.getD i 0
theorem atI_get {xs : List Int} {i : Nat} (h : i < xs.length) : xs[i]? = some (atI xs i) := by simp [atI, List.getD, List.getElem?_eq_getElem h]
theorem atI_of {xs : List Int} {i : Nat} {x : Int} (h : xs[i]? = some x) : atI xs i = x := by simp [atI, List.getD, h]
theorem take_succ {xs : List Int} {i : Nat} (h : i < xs.length) : xs.take (i + 1) = xs.take i ++ [atI xs i] := by
 rw [List.take_add_one, atI_get h]; rfl
def pickL (p : Nat → Bool) : Nat → List Int
 | 0 => []
 | n + 1 => if p n = true then pickL p n ++ [(n : Int)] else pickL p n
theorem pickL_1 {p : Nat → Bool} {n : Nat} (h : p n = true) : pickL p (n + 1) = pickL p n ++ [(n : Int)] := if_pos h
theorem pickL_2 {p : Nat → Bool} {n : Nat} (h : p n = false) : pickL p (n + 1) = pickL p n := if_neg (by rw [h]; decide)
theorem pickL_length (p : Nat → Bool) (n : Nat) : (pickL p n).length ≤ n := by
 induction n with
 | zero => simp [pickL]
 | succ n ih =>
  unfold pickL
  split
  ·simp; omega
  ·omega
theorem pickL_mem {p : Nat → Bool} {n : Nat} {x : Int} (h : x ∈ pickL p n) : 0 ≤ x ∧ x < n ∧ p x.toNat = true := by
 induction n with
 | zero => simp [pickL] at h
 | succ n ih =>
  unfold pickL at h
  split at h
  ·rcases List.mem_append.1 h with h1 | h1
   ·have := ih h1; exact ⟨this.1, by omega, this.2.2⟩
   ·simp only [List.mem_singleton] at h1
    subst h1
    refine ⟨by omega, by omega, ?_⟩
    simpa
  ·have := ih h; exact ⟨this.1, by omega, this.2.2⟩
theorem atI_mem {xs : List Int} {i : Nat} (h : i < xs.length) : atI xs i ∈ xs := List.mem_of_getElem? (atI_get h)
def cellsN (F : Fld) (n : Nat) : List Int := pickL (fun i => isB F (i : Int)) n
def cellsL (F : Fld) : List Int := cellsN F 100
theorem cellsN_0 (F : Fld) : cellsN F 0 = [] := rfl
theorem cellsN_1 {F : Fld} {n : Nat} (h : isB F (n : Int) = true) : cellsN F (n + 1) = cellsN F n ++ [(n : Int)] := pickL_1 (p := fun i => isB F (i : Int)) h
theorem cellsN_2 {F : Fld} {n : Nat} (h : isB F (n : Int) = false) : cellsN F (n + 1) = cellsN F n := pickL_2 (p := fun i => isB F (i : Int)) h
theorem cellsN_length (F : Fld) (n : Nat) : (cellsN F n).length ≤ n := pickL_length _ n
theorem cellsN_end {F : Fld} {n : Nat} (h1 : n ≤ 100) (h : ¬ (n : Int) < 100) : cellsN F n = cellsL F := by rw [show n = 100 by omega]; rfl
theorem cellsL_length (F : Fld) : (cellsL F).length ≤ 100 := pickL_length (fun i => isB F (i : Int)) 100
theorem cellsL_is {F : Fld} {j : Nat} (h : j < (cellsL F).length) : isB F (atI (cellsL F) j) = true := by
 have h1 : 0 ≤ atI (cellsL F) j ∧ atI (cellsL F) j < (100 : Nat) ∧ isB F ((atI (cellsL F) j).toNat : Int) = true := pickL_mem (p := fun i => isB F (i : Int)) (atI_mem h)
 have h2 := h1.2.2
 rwa [show ((atI (cellsL F) j).toNat : Int) = atI (cellsL F) j by have := h1.1; exact Int.toNat_of_nonneg this] at h2
theorem cellsL_in {F : Fld} {j : Nat} (h : j < (cellsL F).length) : 0 ≤ atI (cellsL F) j ∧ atI (cellsL F) j ≤ 99 := by
 have h1 : 0 ≤ atI (cellsL F) j ∧ atI (cellsL F) j < (100 : Nat) ∧ isB F ((atI (cellsL F) j).toNat : Int) = true := pickL_mem (p := fun i => isB F (i : Int)) (atI_mem h)
 exact ⟨h1.1, by omega⟩
def foldC {σ : Type} (F : Fld) (st : σ → Int → σ) (s0 : σ) (n : Nat) : σ := (cellsN F n).foldl st s0
def foldT {σ : Type} (F : Fld) (st : σ → Int → σ) (s0 : σ) (j : Nat) : σ := ((cellsL F).take j).foldl st s0
section
variable {σ : Type} {F : Fld} {st : σ → Int → σ} {s0 : σ}
theorem foldC_0 : foldC F st s0 0 = s0 := rfl
theorem foldT_0 : foldT F st s0 0 = s0 := rfl
theorem foldC_1 {n : Nat} (h : isB F (n : Int) = true) : foldC F st s0 (n + 1) = st (foldC F st s0 n) n := by unfold foldC; rw [cellsN_1 h, List.foldl_append]; rfl
theorem foldC_2 {n : Nat} (h : isB F (n : Int) = false) : foldC F st s0 (n + 1) = foldC F st s0 n := by unfold foldC; rw [cellsN_2 h]
theorem foldT_s {j : Nat} (h : j < (cellsL F).length) : foldT F st s0 (j + 1) = st (foldT F st s0 j) (atI (cellsL F) j) := by unfold foldT; rw [take_succ h, List.foldl_append]; rfl
theorem foldT_end {j : Nat} (h : (cellsL F).length ≤ j) : foldT F st s0 j = foldC F st s0 100 := by unfold foldT foldC; rw [List.take_of_length_le h]; rfl
end
attribute [irreducible] atI cellsL cellsN foldC foldT
def pw0 (x c v : Int) : Int := if c < 64 then v else x
def pw1 (y c v : Int) : Int := if c < 64 then y else v
theorem set2 {x y c v : Int} (h : 0 ≤ c ∧ c ≤ 127) : (#[Value.int IntKind.u64 x, Value.int IntKind.u64 y] : Array Value).setIfInBounds (0 + (c / 64).toNat) (.int .u64 v) = #[.int .u64 (pw0 x c v), .int .u64 (pw1 y c v)] := by
 unfold pw0 pw1
 by_cases hc : c < 64
 ·rw [if_pos hc, if_pos hc, show (c / 64).toNat = 0 by omega]; rfl
 ·rw [if_neg hc, if_neg hc, show (c / 64).toNat = 1 by omega]; rfl
def putS (s : Int × Int) (c : Int) : Int × Int :=
 (pw0 s.1 c (bits BinOp.or IntKind.u64 (wd s.1 s.2 c) (IntKind.u64.wrap (1 * 2 ^ (c % 64).toNat))), pw1 s.2 c (bits BinOp.or IntKind.u64 (wd s.1 s.2 c) (IntKind.u64.wrap (1 * 2 ^ (c % 64).toNat))))
attribute [irreducible] pw0 pw1
def hasB (x y c : Int) : Bool := inB c 0 99 && (bits BinOp.and IntKind.u64 (wd x y c / 2 ^ (c % 64).toNat) 1 == 1)
theorem hasB_out {x y c : Int} (h : inB c 0 99 = false) : hasB x y c = false := by unfold hasB; rw [h]; rfl
theorem hasB_in {x y c : Int} (h : inB c 0 99 = true) : hasB x y c = (bits BinOp.and IntKind.u64 (wd x y c / 2 ^ (c % 64).toNat) 1 == 1) := by unfold hasB; rw [h]; rfl
def setSt (p : Int → Bool) (s : Int × Int) (c : Int) : Int × Int := if p c = true then putS s c else s
theorem setSt_1 {p : Int → Bool} {s : Int × Int} {c : Int} (h : p c = true) : setSt p s c = putS s c := if_pos h
theorem setSt_2 {p : Int → Bool} {s : Int × Int} {c : Int} (h : p c = false) : setSt p s c = s := if_neg (by rw [h]; decide)
def setC (F : Fld) (p : Int → Bool) (n : Nat) : Int × Int := foldC F (setSt p) (0, 0) n
def setT (F : Fld) (p : Int → Bool) (n : Nat) : Int × Int := foldT F (setSt p) (0, 0) n
section
variable {F : Fld} {p : Int → Bool} {n j : Nat}
theorem setC_1 (h : isB F (n : Int) = true) (hp : p n = true) : setC F p (n + 1) = putS (setC F p n) n := by unfold setC; rw [foldC_1 h, setSt_1 hp]
theorem setC_2 (h : isB F (n : Int) = false) : setC F p (n + 1) = setC F p n := by unfold setC; rw [foldC_2 h]
theorem setC_3 (h : isB F (n : Int) = true) (hp : p n = false) : setC F p (n + 1) = setC F p n := by unfold setC; rw [foldC_1 h, setSt_2 hp]
theorem setC_4 (h : (isB F (n : Int) && p n) = false) : setC F p (n + 1) = setC F p n := by
 cases hb : isB F (n : Int) with
 | false => exact setC_2 hb
 | true => rw [hb, Bool.true_and] at h; exact setC_3 hb h
theorem setC_5 (h : (isB F (n : Int) && p n) = true) : setC F p (n + 1) = putS (setC F p n) n := by
 rw [Bool.and_eq_true] at h
 exact setC_1 h.1 h.2
theorem setT_1 (h : j < (cellsL F).length) (hp : p (atI (cellsL F) j) = true) : setT F p (j + 1) = putS (setT F p j) (atI (cellsL F) j) := by unfold setT; rw [foldT_s h, setSt_1 hp]
theorem setT_2 (h : j < (cellsL F).length) (hp : p (atI (cellsL F) j) = false) : setT F p (j + 1) = setT F p j := by unfold setT; rw [foldT_s h, setSt_2 hp]
theorem setT_end (h : (cellsL F).length ≤ j) : setT F p j = setC F p 100 := by unfold setT setC; exact foldT_end h
end
attribute [irreducible] hasB setSt
def firstSt (x y : Int) (bf : Int → Int → Bool) (best c : Int) : Int := if (hasB x y c && (decide (best < 0) || bf c best)) = true then c else best
def firstC (F : Fld) (x y : Int) (bf : Int → Int → Bool) (n : Nat) : Int := foldC F (firstSt x y bf) (-1) n
def firstT (F : Fld) (x y : Int) (bf : Int → Int → Bool) (n : Nat) : Int := foldT F (firstSt x y bf) (-1) n
theorem foldl_inv {σ : Type} {st : σ → Int → σ} {P : σ → Prop} : ∀ (l : List Int) (s : σ), P s → (∀ s c, c ∈ l → P s → P (st s c)) → P (l.foldl st s)
 | [], s, h, _ => h
 | c :: l, s, h, k => foldl_inv l (st s c) (k s c (by simp) h) (fun s d hd => k s d (by simp [hd]))
theorem cellsN_mem {F : Fld} {n : Nat} {c : Int} (h : c ∈ cellsN F n) : 0 ≤ c ∧ c < n ∧ isB F c = true := by
 unfold cellsN at h
 have h1 := pickL_mem h
 have h2 := h1.2.2
 rw [show ((c.toNat : Nat) : Int) = c from Int.toNat_of_nonneg h1.1] at h2
 exact ⟨h1.1, h1.2.1, h2⟩
theorem foldC_inv {σ : Type} {F : Fld} {st : σ → Int → σ} {s0 : σ} {P : σ → Prop} (n : Nat) (h0 : P s0) (hs : ∀ s c, isB F c = true → P s → P (st s c)) : P (foldC F st s0 n) := by
 unfold foldC
 exact foldl_inv _ _ h0 (fun s c hc => hs s c (cellsN_mem hc).2.2)
section
variable {F : Fld} {x y best : Int} {bf : Int → Int → Bool} {n : Nat}
end
def nearC (F : Fld) (c x y : Int) : Int := firstC F x y (fun a b => decide (sqr c a < sqr c b)) 100
def richC (F : Fld) (x y : Int) : Int := firstC F x y (fun a b => decide (F.s b.toNat < F.s a.toNat)) 100
attribute [irreducible] firstC firstT nearC richC
section
variable {F : Fld} {c x y : Int}
end
def allIn (xs : List Int) : Bool := xs.all fun c => inB c 0 99
theorem allIn_f {xs : List Int} {i : Nat} (h : i < xs.length) (hb : inB (atI xs i) 0 99 = false) : allIn xs = false := by
 unfold allIn; rw [List.all_eq_false]; exact ⟨_, atI_mem h, by rw [hb]; decide⟩
theorem allIn_t {xs : List Int} (h : ∀ i, i < xs.length → inB (atI xs i) 0 99 = true) : allIn xs = true := by
 unfold allIn; rw [List.all_eq_true]
 intro c hc
 obtain ⟨i, hi⟩ := List.getElem?_of_mem hc
 have hl := (List.getElem?_eq_some_iff.1 hi).1
 have := h i hl
 rwa [atI_of hi] at this
def setL (xs : List Int) (n : Nat) : Int × Int := (xs.take n).foldl putS (0, 0)
theorem setL_0 (xs : List Int) : setL xs 0 = (0, 0) := rfl
theorem setL_s {xs : List Int} {i : Nat} (h : i < xs.length) : setL xs (i + 1) = putS (setL xs i) (atI xs i) := by unfold setL; rw [take_succ h, List.foldl_append]; rfl
def ofL (xs : List Int) : Int × Int := if allIn xs = true then setL xs xs.length else (0, 0)
def ofC (xs : List Int) : Int := if allIn xs = true then 0 else 2
theorem ofL_f {xs : List Int} (h : allIn xs = false) : ofL xs = (0, 0) := if_neg (by rw [h]; decide)
theorem ofL_t {xs : List Int} {i : Nat} (h : allIn xs = true) (hi : i ≤ xs.length) (h2 : ¬ (i : Int) < xs.length) : ofL xs = setL xs i := by unfold ofL; rw [if_pos h, show i = xs.length by omega]
theorem ofC_f {xs : List Int} (h : allIn xs = false) : ofC xs = 2 := if_neg (by rw [h]; decide)
theorem ofC_t {xs : List Int} (h : allIn xs = true) : ofC xs = 0 := if_pos h
attribute [irreducible] setL allIn ofL ofC
def listN (x y : Int) (n : Nat) : List Int := pickL (fun i => hasB x y (i : Int)) n
def listL (x y : Int) : List Int := listN x y 100
theorem listN_0 (x y : Int) : listN x y 0 = [] := rfl
theorem listN_1 {x y : Int} {n : Nat} (h : hasB x y (n : Int) = true) : listN x y (n + 1) = listN x y n ++ [(n : Int)] := pickL_1 (p := fun i => hasB x y (i : Int)) h
theorem listN_2 {x y : Int} {n : Nat} (h : hasB x y (n : Int) = false) : listN x y (n + 1) = listN x y n := pickL_2 (p := fun i => hasB x y (i : Int)) h
theorem listN_length (x y : Int) (n : Nat) : (listN x y n).length ≤ n := pickL_length _ n
theorem listN_end {x y : Int} {n : Nat} (h1 : n ≤ 100) (h : ¬ (n : Int) < 100) : listN x y n = listL x y := by rw [show n = 100 by omega]; rfl
theorem listL_length (x y : Int) : (listL x y).length ≤ 100 := pickL_length (fun i => hasB x y (i : Int)) 100
theorem listL_in {x y : Int} {j : Nat} (h : j < (listL x y).length) : 0 ≤ atI (listL x y) j ∧ atI (listL x y) j ≤ 99 := by
 have h1 : 0 ≤ atI (listL x y) j ∧ atI (listL x y) j < (100 : Nat) ∧ hasB x y ((atI (listL x y) j).toNat : Int) = true := pickL_mem (p := fun i => hasB x y (i : Int)) (atI_mem h)
 exact ⟨h1.1, by omega⟩
attribute [irreducible] listN listL
def kindS (F : Fld) (k : Int) : Int × Int := if code F (inB k 0 3) = 0 then setC F (fun c_ => F.k c_.toNat == k) 100 else (0, 0)
def ringS (F : Fld) (o m : Int) : Int × Int := if code F (isB F o && inB m 0 200) = 0 then setC F (fun c_ => decide (sqr o c_ ≤ m)) 100 else (0, 0)
attribute [irreducible] kindS ringS
def listF4 (a b c d : Int) : Nat → Int := fun i => match i with | 0 => a | 1 => b | 2 => c | _ => d
def feaC (F : Fld) (f : Nat → Int) (i : Nat) : Bool := decide (0 ≤ f i ∧ f i ≤ 1000 ∧ (isB F (i : Int) = true ∨ f i = 0))
def feaB (F : Fld) (f : Nat → Int) : Bool := allB 100 (feaC F f)
attribute [irreducible] feaC feaB
def plSt (v : Int) (G : Fld) (c : Int) : Fld := { G with s := upd G.s c.toNat v }
def plC (a b v : Int) (n : Nat) : Fld := foldC (fldWH a b) (plSt v) (fldWH a b) n
def plT (a b v : Int) (n : Nat) : Fld := foldT (fldWH a b) (plSt v) (fldWH a b) n
section
variable {a b v : Int} {n : Nat}
end
attribute [irreducible] plC plT
def offI (i : Nat) : Int := listF4 (-10) (-1) 1 10 i
def nbP (F : Fld) (c : Int) (i : Nat) : Bool := !((offI i == -1 && c % 10 == 0) || (offI i == 1 && c % 10 == 9) || !isB F (c + offI i))
def nbN (F : Fld) (c : Int) : Nat → List Int
 | 0 => []
 | n + 1 => if nbP F c n = true then nbN F c n ++ [c + offI n] else nbN F c n
def nbL (F : Fld) (c : Int) : List Int := nbN F c 4
attribute [irreducible] nbP nbN nbL
def sameL (xs ys : List Int) : Bool := decide (xs = ys)
attribute [irreducible] sameL
end Go.Proofs.Ytgglcebaanomhaa
