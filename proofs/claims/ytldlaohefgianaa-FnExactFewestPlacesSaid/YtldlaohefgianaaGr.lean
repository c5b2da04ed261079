/-
  The greedy places, told by members. No conditions.
-/
import Derived.Test.YtldlaohefgianaaAq
namespace Go.Proofs.Ytldlaohefgianaa
open Go.RowKit
set_option linter.unusedSimpArgs false
set_option linter.unusedVariables false

--# gr
section
variable {F : Fld} {w l c tx ty : Int} {xs L : List Int} {n i : Nat}
/-- What the map of the covers has at a number. -/
def cvP (F : Fld) (w l c : Int) : Int × Int := if plB F c = true then cvT F w l c else (0, 0)
def cvV (F : Fld) (w l c : Int) : Value := .agg #[.int .u64 (cvP F w l c).1, .int .u64 (cvP F w l c).2]
def cvF (F : Fld) (w l c : Int) : Value := .agg #[.int .u64 (cvT F w l c).1, .int .u64 (cvT F w l c).2]
theorem cvP_ok (p : Int) : okP (cvP F w l p) := by
  unfold cvP
  split
  · exact cvT_ok p
  · exact okP0
/-- The cells that are no trees, among the first j. -/
def plN (F : Fld) : Nat → List Int
  | 0 => []
  | j + 1 => if plB F (atI (cellsL F) j) = true then plN F j ++ [atI (cellsL F) j] else plN F j
theorem plN_1 {j : Nat} (h : plB F (atI (cellsL F) j) = true) : plN F (j + 1) = plN F j ++ [atI (cellsL F) j] := if_pos h
theorem plN_2 {j : Nat} (h : plB F (atI (cellsL F) j) = false) : plN F (j + 1) = plN F j := if_neg (by rw [h]; decide)
theorem plN_1' {j : Nat} (h : (isB F (atI (cellsL F) j) && (F.k (atI (cellsL F) j).toNat != 3)) = true) : plN F (j + 1) = plN F j ++ [atI (cellsL F) j] := plN_1 h
theorem plN_2' {j : Nat} (h : (isB F (atI (cellsL F) j) && (F.k (atI (cellsL F) j).toNat != 3)) = false) : plN F (j + 1) = plN F j := plN_2 h
theorem cellsL_eq (F : Fld) : cellsL F = pickL (fun i => isB F (i : Int)) 100 := by unfold cellsL cellsN; rfl
theorem plN_mem (c : Int) : ∀ j, c ∈ plN F j ↔ ∃ m, m < j ∧ atI (cellsL F) m = c ∧ plB F c = true
  | 0 => by simp [plN]
  | j + 1 => by
    have ih := plN_mem c j
    cases hb : plB F (atI (cellsL F) j) with
    | true =>
      rw [plN_1 hb, List.mem_append, List.mem_singleton, ih]
      constructor
      · rintro (⟨m, h1, h2, h3⟩ | rfl)
        · exact ⟨m, by omega, h2, h3⟩
        · exact ⟨j, by omega, rfl, hb⟩
      · rintro ⟨m, h1, h2, h3⟩
        rcases (by omega : m < j ∨ m = j) with h | h
        · exact .inl ⟨m, h, h2, h3⟩
        · subst h; exact .inr h2.symm
    | false =>
      rw [plN_2 hb, ih]
      constructor
      · rintro ⟨m, h1, h2, h3⟩; exact ⟨m, by omega, h2, h3⟩
      · rintro ⟨m, h1, h2, h3⟩
        rcases (by omega : m < j ∨ m = j) with h | h
        · exact ⟨m, h, h2, h3⟩
        · subst h; rw [h2, h3] at hb; exact absurd hb (by decide)
theorem pickL_lt {p : Nat → Bool} : ∀ n i j, i < j → j < (pickL p n).length → atI (pickL p n) i < atI (pickL p n) j
  | 0, i, j, h, hj => by simp [pickL] at hj
  | n + 1, i, j, h, hj => by
    cases hb : p n with
    | false => rw [pickL_2 hb] at hj ⊢; exact pickL_lt n i j h hj
    | true =>
      rw [pickL_1 hb] at hj ⊢
      rw [List.length_append, List.length_singleton] at hj
      rw [atI_app1 (xs := pickL p n) (by omega)]
      by_cases hl : j < (pickL p n).length
      · rw [atI_app1 hl]; exact pickL_lt n i j h hl
      · rw [show j = (pickL p n).length by omega, atI_app2]
        have := pickL_mem (atI_mem (xs := pickL p n) (i := i) (by omega))
        omega
theorem plN_new {j : Nat} (hj : j < (cellsL F).length) : atI (cellsL F) j ∉ plN F j := by
  intro h
  obtain ⟨m, h1, h2, _⟩ := (plN_mem _ j).1 h
  have h3 : atI (cellsL F) m < atI (cellsL F) j := by
    rw [cellsL_eq] at hj ⊢
    exact pickL_lt 100 m j h1 hj
  omega
theorem plN_all {j : Nat} (hj : (cellsL F).length ≤ j) : (c ∈ plN F j) ↔ plB F c = true := by
  rw [plN_mem]
  constructor
  · rintro ⟨m, _, _, h⟩; exact h
  · intro h
    have hb : isB F c = true := by unfold plB at h; rw [Bool.and_eq_true] at h; exact h.1
    have hr := isB_true.1 hb
    obtain ⟨d, rfl⟩ := Int.eq_ofNat_of_zero_le (show 0 ≤ c by omega)
    obtain ⟨m, h1, h2⟩ := pickL_all (p := fun i => isB F (i : Int)) (n := 100) (c := d) (by omega) hb
    rw [← cellsL_eq] at h1 h2
    exact ⟨m, by omega, h2, h⟩
theorem plN_v {j : Nat} (hj : (cellsL F).length ≤ j) (c : Int) : (if c ∈ plN F j then cvF F w l c else .agg #[.int .u64 0, .int .u64 0]) = cvV F w l c := by
  unfold cvV cvP cvF
  cases hb : plB F c with
  | true => rw [if_pos ((plN_all hj).2 hb), if_pos rfl]
  | false => rw [if_neg (fun h => by rw [(plN_all hj).1 h] at hb; exact absurd hb (by decide)), if_neg (by decide)]
/-- How many cells of a set a place covers. -/
def boP (F : Fld) (w l : Int) (s : Int × Int) (c : Int) : Int := ((listL (bo0 (cvP F w l c).1 s.1) (bo1 (cvP F w l c).2 s.2)).length : Int)
def grSt (F : Fld) (w l : Int) (s : Int × Int) (b : Int × Int) (c : Int) : Int × Int := if b.2 < boP F w l s c then (c, boP F w l s c) else b
def grC (F : Fld) (w l : Int) (s : Int × Int) (n : Nat) : Int × Int := foldC F (grSt F w l s) (-1, 0) n
def grT (F : Fld) (w l : Int) (s : Int × Int) (n : Nat) : Int × Int := foldT F (grSt F w l s) (-1, 0) n
def grB (F : Fld) (w l : Int) (s : Int × Int) : Int := (grC F w l s 100).1
variable {s b : Int × Int}
theorem grC_in (n : Nat) : 0 ≤ (grC F w l s n).2 ∧ ((grC F w l s n).1 = -1 ∨ isB F (grC F w l s n).1 = true) := by
  unfold grC
  refine foldC_inv (P := fun b : Int × Int => 0 ≤ b.2 ∧ (b.1 = -1 ∨ isB F b.1 = true)) n ⟨Int.le_refl 0, .inl rfl⟩ (fun b c hc h => ?_)
  unfold grSt
  split
  · exact ⟨by unfold boP; simp only; omega, .inr hc⟩
  · exact h
theorem grB_in : -1 ≤ grB F w l s ∧ grB F w l s ≤ 99 := by
  rcases (grC_in (F := F) (w := w) (l := l) (s := s) 100).2 with h | h
  · unfold grB; omega
  · have := isB_true.1 h
    unfold grB; omega
theorem listL_0 (h : ∀ d : Nat, d < 100 → hasB tx ty (d : Int) = false) : (listL tx ty).length = 0 := by
  unfold listL listN
  have : ∀ n, n ≤ 100 → pickL (fun i => hasB tx ty (i : Int)) n = [] := by
    intro n
    induction n with
    | zero => intro _; rfl
    | succ n ih => intro hn; rw [pickL_2 (h n (by omega)), ih (by omega)]
  rw [this 100 (Nat.le_refl _)]
  rfl
theorem boP_0 (hs : okP s) (h : plB F c = false) : boP F w l s c = 0 := by
  unfold boP cvP
  rw [if_neg (by rw [h]; decide)]
  have := listL_0 (tx := bo0 0 s.1) (ty := bo1 0 s.2) (fun d hd => by
    have := hasB_bo okP0.1 okP0.w2 hs.1 hs.w2 d
    simp only at this
    rw [this, hasB_0, Bool.false_and])
  simp only [this]
  rfl
theorem plB_out (h : isB F c = false) : plB F c = false := by unfold plB; rw [h]; rfl
theorem grC_s (hs : okP s) : grC F w l s (n + 1) = grSt F w l s (grC F w l s n) n := by
  cases hb : isB F (n : Int) with
  | true => exact foldC_1 hb
  | false =>
    have h0 := (grC_in (F := F) (w := w) (l := l) (s := s) n).1
    have e : grC F w l s (n + 1) = grC F w l s n := foldC_2 hb
    rw [e]
    unfold grSt
    rw [boP_0 hs (plB_out hb), if_neg (by omega)]
theorem grC_y (hs : okP s) (hb : b = grC F w l s n) (h : b.2 < boP F w l s n) : ((n : Int), boP F w l s n) = grC F w l s (n + 1) := by
  rw [grC_s hs, ← hb]; unfold grSt; rw [if_pos h]
theorem grC_n (hs : okP s) (hb : b = grC F w l s n) (h : ¬ b.2 < boP F w l s n) : b = grC F w l s (n + 1) := by
  rw [grC_s hs, ← hb]; unfold grSt; rw [if_neg h]
theorem grT_y (hj : n < (cellsL F).length) (hb : b = grT F w l s n) (h : b.2 < boP F w l s (atI (cellsL F) n)) : (atI (cellsL F) n, boP F w l s (atI (cellsL F) n)) = grT F w l s (n + 1) := by
  unfold grT at hb ⊢
  rw [foldT_s hj, ← hb]; unfold grSt; rw [if_pos h]
theorem grT_n (hj : n < (cellsL F).length) (hb : b = grT F w l s n) (h : ¬ b.2 < boP F w l s (atI (cellsL F) n)) : b = grT F w l s (n + 1) := by
  unfold grT at hb ⊢
  rw [foldT_s hj, ← hb]; unfold grSt; rw [if_neg h]
theorem grT_0 : (-1, 0) = grT F w l s 0 := by unfold grT; rw [foldT_0]
theorem grC_0 : (-1, 0) = grC F w l s 0 := by unfold grC; rw [foldC_0]
theorem grT_y' (hj : n < (cellsL F).length) (hb : b = grT F w l s n) (h : b.2 < ((listL (bo0 (cvP F w l (atI (cellsL F) n)).1 s.1) (bo1 (cvP F w l (atI (cellsL F) n)).2 s.2)).length : Int)) : (atI (cellsL F) n, boP F w l s (atI (cellsL F) n)) = grT F w l s (n + 1) := grT_y hj hb h
theorem grT_n' (hj : n < (cellsL F).length) (hb : b = grT F w l s n) (h : ¬ b.2 < ((listL (bo0 (cvP F w l (atI (cellsL F) n)).1 s.1) (bo1 (cvP F w l (atI (cellsL F) n)).2 s.2)).length : Int)) : b = grT F w l s (n + 1) := grT_n hj hb h
theorem grC_y' (hs : okP s) (hb : b = grC F w l s n) (h : b.2 < ((listL (bo0 (cvP F w l n).1 s.1) (bo1 (cvP F w l n).2 s.2)).length : Int)) : ((n : Int), boP F w l s n) = grC F w l s (n + 1) := grC_y hs hb h
theorem grC_n' (hs : okP s) (hb : b = grC F w l s n) (h : ¬ b.2 < ((listL (bo0 (cvP F w l n).1 s.1) (bo1 (cvP F w l n).2 s.2)).length : Int)) : b = grC F w l s (n + 1) := grC_n hs hb h
theorem cv_out (h : plB F c = false) {d : Int} : (isB F c && cvR F c d w l) = false := by
  cases hb : isB F c with
  | false => rfl
  | true =>
    unfold plB at h
    rw [hb, Bool.true_and] at h
    rw [Bool.true_and]
    exact cvR_1 h
theorem cvP_t (h : plB F c = true) : cvP F w l c = cvT F w l c := if_pos h
theorem cvP_f (h : plB F c = false) : cvP F w l c = (0, 0) := if_neg (by rw [h]; decide)
theorem plB_a (h : plB F c = true) : isB F c = true := by unfold plB at h; rw [Bool.and_eq_true] at h; exact h.1
theorem plB_b (h : plB F c = true) : (F.k c.toNat != 3) = true := by unfold plB at h; rw [Bool.and_eq_true] at h; exact h.2
theorem grT_e (hj : (cellsL F).length ≤ n) (hb : b = grT F w l s n) : b.1 = grB F w l s := by rw [hb]; unfold grT; rw [foldT_end hj]; rfl
theorem grC_e (hn : n = 100) (hb : b = grC F w l s n) : b.1 = grB F w l s := by rw [hb, hn]; rfl
/-- The greedy search: its code and its list. -/
def grR (F : Fld) (w l : Int) : Nat → List Int → Int × Int → Int × List Int
  | 0, _, _ => (6, [])
  | f + 1, o, s => if eq2 s.1 s.2 0 0 = true then (0, o) else if grB F w l s < 0 ∨ o.length = 20 then (6, []) else grR F w l f (o ++ [grB F w l s]) (wo0 s.1 (cvP F w l (grB F w l s)).1, wo1 s.2 (cvP F w l (grB F w l s)).2)
def gr0 (F : Fld) (tx ty : Int) : Int × Int := (bo0 tx (setC F (fun c_ => F.k c_.toNat == 0) 100).1, bo1 ty (setC F (fun c_ => F.k c_.toNat == 0) 100).2)
def grK (F : Fld) (w l tx ty : Int) : Int := if code F (inB w 1 1000 && inB l 1 1000) = 0 then (grR F w l 22 [] (gr0 F tx ty)).1 else code F (inB w 1 1000 && inB l 1 1000)
def grX (F : Fld) (w l tx ty : Int) : List Int := (grR F w l 22 [] (gr0 F tx ty)).2
/-- Where the search stands. -/
def grI (F : Fld) (w l tx ty : Int) (o : List Int) (s : Int × Int) : Prop := okP s ∧ o.length ≤ 20 ∧ grR F w l (22 - o.length) o s = grR F w l 22 [] (gr0 F tx ty)
variable {o : List Int}
theorem gr0_ok (hx : wrd tx) (hy : wrd ty) : okP (gr0 F tx ty) := bo_ok (s := (tx, ty)) hx hy (setC_ok 100 (Nat.le_refl _))
theorem grI_0 (hx : wrd tx) (hy : wrd ty) : grI F w l tx ty [] (bo0 tx (setC F (fun c_ => F.k c_.toNat == 0) 100).1, bo1 ty (setC F (fun c_ => F.k c_.toNat == 0) 100).2) := ⟨gr0_ok hx hy, by simp, rfl⟩
theorem grI_u (h : grI F w l tx ty o s) : grR F w l 22 [] (gr0 F tx ty) = grR F w l ((21 - o.length) + 1) o s := by
  rw [← h.2.2, show 22 - o.length = (21 - o.length) + 1 by have := h.2.1; omega]
theorem grI_a (h : grI F w l tx ty o s) (he : eq2 s.1 s.2 0 0 = true) : grR F w l 22 [] (gr0 F tx ty) = (0, o) := by
  rw [grI_u h, grR, if_pos he]
theorem grI_b (h : grI F w l tx ty o s) (he : eq2 s.1 s.2 0 0 = false) (hb : grB F w l s < 0 ∨ o.length = 20) : grR F w l 22 [] (gr0 F tx ty) = (6, []) := by
  rw [grI_u h, grR, if_neg (by rw [he]; decide), if_pos hb]
theorem grI_s (h : grI F w l tx ty o s) (he : eq2 s.1 s.2 0 0 = false) (hb : ¬ (grB F w l s < 0 ∨ o.length = 20)) : grI F w l tx ty (o ++ [grB F w l s]) (wo0 s.1 (cvP F w l (grB F w l s)).1, wo1 s.2 (cvP F w l (grB F w l s)).2) := by
  have hl := h.2.1
  refine ⟨wo_ok h.1 (cvP_ok _), by rw [List.length_append, List.length_singleton]; omega, ?_⟩
  rw [grI_u h]
  conv => rhs; rw [grR, if_neg (by rw [he]; decide), if_neg hb]
  rw [show 22 - (o ++ [grB F w l s]).length = 21 - o.length by rw [List.length_append, List.length_singleton]; omega]
theorem grI_s' {d : Int} (h : grI F w l tx ty o s) (he : eq2 s.1 s.2 0 0 = false) (hd : d = grB F w l s) (hb : 0 ≤ d) (hl : o.length ≠ 20) : grI F w l tx ty (o ++ [d]) (wo0 s.1 (cvP F w l d).1, wo1 s.2 (cvP F w l d).2) := by
  subst hd
  exact grI_s h he (by omega)
theorem grK_0 (h : code F (inB w 1 1000 && inB l 1 1000) = 0) : grK F w l tx ty = (grR F w l 22 [] (gr0 F tx ty)).1 := if_pos h
theorem grK_n (h : code F (inB w 1 1000 && inB l 1 1000) ≠ 0) : grK F w l tx ty = code F (inB w 1 1000 && inB l 1 1000) := if_neg h
theorem grK_n' (h : code F (inB w 1 1000 && inB l 1 1000) ≠ 0) : grK F w l tx ty ≠ 0 := by rw [grK_n h]; exact h
theorem grK_a (h : code F (inB w 1 1000 && inB l 1 1000) = 0) (hI : grI F w l tx ty o s) (he : eq2 s.1 s.2 0 0 = true) : grK F w l tx ty = 0 := by rw [grK_0 h, grI_a hI he]
theorem grX_a (hI : grI F w l tx ty o s) (he : eq2 s.1 s.2 0 0 = true) : o = grX F w l tx ty := by unfold grX; rw [grI_a hI he]
theorem grK_b {d : Int} (h : code F (inB w 1 1000 && inB l 1 1000) = 0) (hI : grI F w l tx ty o s) (he : eq2 s.1 s.2 0 0 = false) (hd : d = grB F w l s) (hb : d < 0 ∨ o.length = 20) : (6 : Int) = grK F w l tx ty := by
  rw [grK_0 h, grI_b hI he (by rw [← hd]; exact hb)]
theorem grX_length : (grX F w l tx ty).length ≤ 20 := by
  unfold grX
  have : ∀ f o s, o.length ≤ 20 → (grR F w l f o s).2.length ≤ 20 := by
    intro f
    induction f with
    | zero => intro o s h; simp [grR]
    | succ f ih =>
      intro o s h
      rw [grR]
      split
      · exact h
      · split
        · simp
        · next hb => exact ih _ _ (by rw [List.length_append, List.length_singleton]; omega)
  exact this 22 [] _ (by simp)
/-- Sets of the same members are the same. -/
theorem set_ext {s t : Int × Int} (hs : okP s) (ht : okP t) (h : ∀ d : Nat, d < 100 → hasB s.1 s.2 (d : Int) = hasB t.1 t.2 (d : Int)) : s = t := by
  obtain ⟨X, Y, rfl, h1, h2⟩ := okP_nat hs
  obtain ⟨X2, Y2, rfl, h3, h4⟩ := okP_nat ht
  have hX : X = X2 := by
    apply Nat.eq_of_testBit_eq
    intro i
    by_cases hi : i < 64
    · have := h i (by omega)
      simp only at this
      rwa [hasB_nat h1 (by omega), hasB_nat h3 (by omega), if_pos hi, if_pos hi] at this
    · rw [Nat.testBit_lt_two_pow (Nat.lt_of_lt_of_le h1 (Nat.pow_le_pow_right (n := 2) (i := 64) (by omega) (by omega))), Nat.testBit_lt_two_pow (Nat.lt_of_lt_of_le h3 (Nat.pow_le_pow_right (n := 2) (i := 64) (by omega) (by omega)))]
  have hY : Y = Y2 := by
    apply Nat.eq_of_testBit_eq
    intro i
    by_cases hi : i < 36
    · have := h (64 + i) (by omega)
      simp only at this
      rwa [hasB_nat h1 (by omega), hasB_nat h3 (by omega), if_neg (by omega), if_neg (by omega), decide_eq_true (by omega : 64 + i < 100), Bool.true_and, Bool.true_and, show 64 + i - 64 = i by omega] at this
    · rw [Nat.testBit_lt_two_pow (Nat.lt_of_lt_of_le (show Y < 2 ^ 36 by omega) (Nat.pow_le_pow_right (by omega) (by omega))), Nat.testBit_lt_two_pow (Nat.lt_of_lt_of_le (show Y2 < 2 ^ 36 by omega) (Nat.pow_le_pow_right (by omega) (by omega)))]
  rw [hX, hY]
theorem setL_has (h : ∀ j, j < xs.length → 0 ≤ atI xs j ∧ atI xs j ≤ 99) : ∀ n, n ≤ xs.length → okP (setL xs n) ∧ ∀ d : Nat, d < 100 → hasB (setL xs n).1 (setL xs n).2 (d : Int) = hasN xs (d : Int) n
  | 0, _ => by rw [setL_0]; exact ⟨okP0, fun d _ => by rw [hasB_0]; rfl⟩
  | n + 1, hn => by
    obtain ⟨ih, ih2⟩ := setL_has h n (by omega)
    have hr := h n (by omega)
    obtain ⟨e, he⟩ := Int.eq_ofNat_of_zero_le hr.1
    have hl : e < 100 := by omega
    rw [setL_s (by omega), he]
    refine ⟨putS_ok ih hl, fun d hd => ?_⟩
    rw [hasB_put ih hl, ih2 d hd, hasN, he, Bool.or_comm]
    congr 1
    rw [Bool.eq_iff_iff, decide_eq_true_eq, beq_iff_eq]
    omega
theorem tgL_hasN (d : Nat) (hd : d < 100) : hasN (tgL F tx ty 100) (d : Int) (tgL F tx ty 100).length = tgB F tx ty (d : Int) := by
  rw [Bool.eq_iff_iff, hasN_iff]
  constructor
  · rintro ⟨j, h1, h2⟩
    have hm := pickL_mem (p := fun i => tgB F tx ty (i : Int)) (n := 100) (atI_mem h1)
    have h3 : tgB F tx ty ((atI (tgL F tx ty 100) j).toNat : Int) = true := hm.2.2
    rw [h2] at h3
    simpa using h3
  · intro h
    obtain ⟨j, h1, h2⟩ := pickL_all (p := fun i => tgB F tx ty (i : Int)) (n := 100) (c := d) hd h
    exact ⟨j, h1, h2⟩
theorem ofL_tg (hx : wrd tx) (hy : wrd ty) : ofL (tgL F tx ty 100) = gr0 F tx ty := by
  have hr : ∀ j, j < (tgL F tx ty 100).length → 0 ≤ atI (tgL F tx ty 100) j ∧ atI (tgL F tx ty 100) j ≤ 99 := fun j hj => ⟨(tgL_in hj).1.1, by have := (tgL_in hj).1.2; omega⟩
  rw [ofL_t (i := (tgL F tx ty 100).length) (allIn_t (fun j hj => by have := hr j hj; simp [inB]; omega)) (Nat.le_refl _) (by omega)]
  obtain ⟨h1, h2⟩ := setL_has hr _ (Nat.le_refl _)
  have h3 := lf_0 (F := F) (w := 0) (l := 0) (xs := []) hx hy
  refine set_ext h1 h3.1 (fun d hd => ?_)
  rw [h2 d hd, tgL_hasN d hd, show hasB (gr0 F tx ty).1 (gr0 F tx ty).2 (d : Int) = _ from h3.2 d hd]
  simp [cvH]
theorem cn_0 {s : Int × Int} (hs : okP s) : eq2 s.1 s.2 0 0 = !decide (0 < ((listL s.1 s.2).length : Int)) := by
  have hn := empty_iff hs.1 hs.2
  cases he : eq2 s.1 s.2 0 0 with
  | true =>
    rw [listL_0 (hn.1 (eq2_0.1 he))]
    rfl
  | false =>
    have h0 : ¬ ∀ c : Nat, c < 100 → hasB s.1 s.2 (c : Int) = false := fun hh => by
      rw [eq2_0.2 (hn.2 hh)] at he
      exact absurd he (by decide)
    have ⟨c, hc⟩ : ∃ c : Nat, ¬ (c < 100 → hasB s.1 s.2 (c : Int) = false) := Classical.byContradiction fun hne => h0 fun c => Classical.byContradiction fun hx => hne ⟨c, hx⟩
    have hc1 : c < 100 := Classical.byContradiction fun hx => hc fun hy => absurd hy hx
    have hc2 : hasB s.1 s.2 (c : Int) = true := by
      cases hh : hasB s.1 s.2 (c : Int) with
      | true => rfl
      | false => exact absurd (fun _ => hh) hc
    obtain ⟨j, h1, _⟩ := pickL_all (p := fun i => hasB s.1 s.2 (i : Int)) (n := 100) (c := c) hc1 hc2
    have h2 : j < (listL s.1 s.2).length := by unfold listL listN; exact h1
    rw [decide_eq_true (by omega)]
    rfl
theorem cn_t {s : Int × Int} (hs : okP s) (h : 0 < ((listL s.1 s.2).length : Int)) : eq2 s.1 s.2 0 0 = false := by rw [cn_0 hs, decide_eq_true h]; rfl
theorem cn_f {s : Int × Int} (hs : okP s) (h : ¬ 0 < ((listL s.1 s.2).length : Int)) : eq2 s.1 s.2 0 0 = true := by rw [cn_0 hs, decide_eq_false h]; rfl
end
end Go.Proofs.Ytldlaohefgianaa
