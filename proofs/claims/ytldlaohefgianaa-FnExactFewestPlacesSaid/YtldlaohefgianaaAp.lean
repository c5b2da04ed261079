/-
  Cells that are apart, told by members. No conditions.
-/
import Derived.Test.YtldlaohefgianaaCk
import Derived.Test.YtldlaohefgianaaHd
namespace Go.Proofs.Ytldlaohefgianaa
open Go.RowKit
set_option linter.unusedSimpArgs false
set_option linter.unusedVariables false

--# hasN
section
variable {xs : List Int} {c : Int} {n i : Nat}
def hasN (xs : List Int) (c : Int) : Nat → Bool
  | 0 => false
  | n + 1 => hasN xs c n || (atI xs n == c)
theorem hasN_0 : hasN xs c 0 = false := rfl
theorem hasN_iff : ∀ n, hasN xs c n = true ↔ ∃ j, j < n ∧ atI xs j = c
  | 0 => by simp [hasN]
  | n + 1 => by
    rw [hasN, Bool.or_eq_true, hasN_iff n, beq_iff_eq]
    constructor
    · rintro (⟨j, h1, h2⟩ | h)
      · exact ⟨j, by omega, h2⟩
      · exact ⟨n, by omega, h⟩
    · rintro ⟨j, h1, h2⟩
      rcases (by omega : j < n ∨ j = n) with h | h
      · exact .inl ⟨j, h, h2⟩
      · subst h; exact .inr h2
theorem hasN_s (h : hasN xs c i = false) (h2 : (atI xs i == c) = false) : hasN xs c (i + 1) = false := by rw [hasN, h, h2]; rfl
theorem hasN_t (hi : i < n) (h : (atI xs i == c) = true) : hasN xs c n = true := (hasN_iff n).2 ⟨i, hi, beq_iff_eq.1 h⟩
theorem atI_take {m j : Nat} (h : j < m) : atI (xs.take m) j = atI xs j := by
  unfold atI
  simp [List.getD, List.getElem?_take_of_lt h]
theorem hasN_take (m : Nat) : ∀ n, n ≤ m → hasN (xs.take m) c n = hasN xs c n
  | 0, _ => rfl
  | n + 1, h => by rw [hasN, hasN, hasN_take m n (by omega), atI_take (by omega)]
end

--# apart
theorem allB_iff {n : Nat} {p : Nat → Bool} : allB n p = true ↔ ∀ i, i < n → p i = true := by
  constructor
  · intro h i hi
    unfold allB at h
    rw [List.all_eq_true] at h
    exact h i (List.mem_range.2 hi)
  · exact allB_true
section
variable {F : Fld} {w l c : Int} {xs : List Int} {n i : Nat}
/-- The place k covers the cell c. -/
def cvB (F : Fld) (w l k c : Int) : Bool := isB F k && cvR F k c w l
def cvrT (F : Fld) (w l c : Int) : Int × Int := setC F (fun c_ => cvR F c_ c w l) 100
/-- No place covers both. -/
def apB (F : Fld) (w l x y : Int) : Bool := allB 100 (fun k => !(cvB F w l (k : Int) x && cvB F w l (k : Int) y))
def slB (F : Fld) (c : Int) : Bool := isB F c && (F.k c.toNat == 0)
def anyC (F : Fld) (w l : Int) (xs : List Int) (d : Int) : Nat → Bool
  | 0 => false
  | n + 1 => anyC F w l xs d n || cvB F w l d (atI xs n)
theorem anyC_iff {d : Int} : ∀ n, anyC F w l xs d n = true ↔ ∃ j, j < n ∧ cvB F w l d (atI xs j) = true
  | 0 => by simp [anyC]
  | n + 1 => by
    rw [anyC, Bool.or_eq_true, anyC_iff n]
    constructor
    · rintro (⟨j, h1, h2⟩ | h)
      · exact ⟨j, by omega, h2⟩
      · exact ⟨n, by omega, h⟩
    · rintro ⟨j, h1, h2⟩
      rcases (by omega : j < n ∨ j = n) with h | h
      · exact .inl ⟨j, h, h2⟩
      · subst h; exact .inr h2
theorem cvrT_ok : okP (cvrT F w l c) := setC_ok 100 (Nat.le_refl _)
theorem cvrT_has (d : Nat) (hd : d < 100) : hasB (cvrT F w l c).1 (cvrT F w l c).2 (d : Int) = cvB F w l (d : Int) c := by
  unfold cvrT
  rw [hasB_set d 100 (Nat.le_refl _), decide_eq_true hd, Bool.true_and]
  rfl
/-- What covers one of the first n. -/
def usI (F : Fld) (w l : Int) (xs : List Int) (n : Nat) (s : Int × Int) : Prop := okP s ∧ ∀ d : Nat, d < 100 → hasB s.1 s.2 (d : Int) = anyC F w l xs (d : Int) n
theorem us_0 : usI F w l xs 0 (0, 0) := ⟨okP0, fun d _ => by rw [hasB_0]; rfl⟩
theorem us_s {s : Int × Int} (h : usI F w l xs n s) : usI F w l xs (n + 1) (un0 s.1 (cvrT F w l (atI xs n)).1, un1 s.2 (cvrT F w l (atI xs n)).2) := by
  have k := cvrT_ok (F := F) (w := w) (l := l) (c := atI xs n)
  refine ⟨un_ok h.1 k, fun d hd => ?_⟩
  rw [hasB_un h.1.1 h.1.w2 k.1 k.w2, h.2 d hd, cvrT_has d hd]
  rfl
theorem us_bo {s : Int × Int} (h : usI F w l xs n s) : eq2 (bo0 (cvrT F w l c).1 s.1) (bo1 (cvrT F w l c).2 s.2) 0 0 = allB n (fun j => apB F w l (atI xs j) c) := by
  have k := cvrT_ok (F := F) (w := w) (l := l) (c := c)
  have ok := bo_ok (s := cvrT F w l c) k.1 k.w2 h.1
  rw [Bool.eq_iff_iff, eq2_0, empty_iff ok.1 ok.2, allB_iff]
  constructor
  · intro hh j hj
    unfold apB
    refine allB_true fun d hd => ?_
    have := hh d hd
    rw [hasB_bo k.1 k.w2 h.1.1 h.1.w2, cvrT_has d hd, h.2 d hd] at this
    cases h1 : cvB F w l (d : Int) (atI xs j) with
    | false => rfl
    | true =>
      rw [(anyC_iff n).2 ⟨j, hj, h1⟩, Bool.and_true] at this
      rw [this]; rfl
  · intro hh d hd
    rw [hasB_bo k.1 k.w2 h.1.1 h.1.w2, cvrT_has d hd, h.2 d hd]
    cases h1 : cvB F w l (d : Int) c with
    | false => rfl
    | true =>
      rw [Bool.true_and]
      cases h2 : anyC F w l xs (d : Int) n with
      | false => rfl
      | true =>
        obtain ⟨j, hj, h3⟩ := (anyC_iff n).1 h2
        have h4 := hh j hj
        unfold apB at h4
        have h5 := allB_iff.1 h4 d hd
        rw [h3, h1] at h5
        exact absurd h5 (by decide)
/-- The first n, as a set. -/
def mtI (xs : List Int) (n : Nat) (m : Int × Int) : Prop := okP m ∧ ∀ d : Nat, d < 100 → hasB m.1 m.2 (d : Int) = hasN xs (d : Int) n
theorem mt_0 : mtI xs 0 (0, 0) := ⟨okP0, fun d _ => by rw [hasB_0]; rfl⟩
theorem mt_s {m : Int × Int} (h : mtI xs n m) (hb : isB F (atI xs n) = true) : mtI xs (n + 1) ((putS (m.1, m.2) (atI xs n)).1, (putS (m.1, m.2) (atI xs n)).2) := by
  have hr := isB_true.1 hb
  obtain ⟨e, he⟩ := Int.eq_ofNat_of_zero_le (show 0 ≤ atI xs n by omega)
  have hl : e < 100 := by omega
  refine ⟨?_, fun d hd => ?_⟩
  · rw [he]; exact putS_ok h.1 hl
  · show hasB (putS m (atI xs n)).1 (putS m (atI xs n)).2 (d : Int) = _
    rw [he, hasB_put h.1 hl, h.2 d hd, hasN, he, Bool.or_comm]
    congr 1
    rw [Bool.eq_iff_iff, decide_eq_true_eq, beq_iff_eq]
    omega
theorem mt_h {m : Int × Int} (h : mtI xs n m) (hb : isB F c = true) : hasB m.1 m.2 c = hasN xs c n := by
  have hr := isB_true.1 hb
  obtain ⟨e, rfl⟩ := Int.eq_ofNat_of_zero_le (show 0 ≤ c by omega)
  exact h.2 e (by omega)
/-- The cell i is soil, new, and apart from those before it. -/
def okN (F : Fld) (w l : Int) (xs : List Int) (i : Nat) : Bool := (slB F (atI xs i) && !hasN xs (atI xs i) i) && allB i (fun k => apB F w l (atI xs k) (atI xs i))
def caB (F : Fld) (w l : Int) (xs : List Int) : Bool := decide (code F (inB w 1 1000 && inB l 1 1000) = 0) && allB xs.length (okN F w l xs)
theorem slB_in (h : slB F c = true) : 0 ≤ c ∧ c ≤ 99 := by
  unfold slB at h
  rw [Bool.and_eq_true] at h
  have hr := isB_true.1 h.1
  omega
theorem caB_n (h : code F (inB w 1 1000 && inB l 1 1000) ≠ 0) : caB F w l xs = false := by unfold caB; rw [decide_eq_false h]; rfl
theorem caB_f (hi : i < xs.length) (h : okN F w l xs i = false) : caB F w l xs = false := by unfold caB; rw [allB_false i hi h, Bool.and_false]
theorem caB_t (h : code F (inB w 1 1000 && inB l 1 1000) = 0) (h2 : ∀ j, j < xs.length → okN F w l xs j = true) : caB F w l xs = true := by unfold caB; rw [decide_eq_true h, allB_true h2]; rfl
theorem caB_1 (hi : i < xs.length) (h : isB F (atI xs i) = false) : caB F w l xs = false := caB_f hi (by unfold okN slB; rw [h]; rfl)
theorem caB_2 (hi : i < xs.length) (h : (F.k (atI xs i).toNat == 0) = false) : caB F w l xs = false := caB_f hi (by unfold okN slB; rw [h, Bool.and_false]; rfl)
theorem caB_s (hi : i < xs.length) (h : (isB F (atI xs i) && (F.k (atI xs i).toNat == 0)) = false) : caB F w l xs = false := caB_f hi (by unfold okN slB; rw [h]; rfl)
theorem caB_d (hi : i < xs.length) (h : hasN xs (atI xs i) i = true) : caB F w l xs = false := caB_f hi (by unfold okN; rw [h]; simp)
theorem caB_d' (hi : i < xs.length) (h : hasN (xs.take i) (atI xs i) i = true) : caB F w l xs = false := caB_d hi (by rwa [hasN_take i i (Nat.le_refl _)] at h)
theorem caB_3 {m : Int × Int} (hi : i < xs.length) (hm : mtI xs i m) (hb : isB F (atI xs i) = true) (h : hasB m.1 m.2 (atI xs i) = true) : caB F w l xs = false := caB_d hi (by rwa [mt_h hm hb] at h)
theorem caB_a (hi : i < xs.length) (h : allB i (fun k => apB F w l (atI xs k) (atI xs i)) = false) : caB F w l xs = false := caB_f hi (by unfold okN; rw [h, Bool.and_false])
theorem caB_4 {s : Int × Int} (hi : i < xs.length) (hs : usI F w l xs i s) (h : eq2 (bo0 (cvrT F w l (atI xs i)).1 s.1) (bo1 (cvrT F w l (atI xs i)).2 s.2) 0 0 = false) : caB F w l xs = false := caB_a hi (by rwa [us_bo hs] at h)
theorem caB_5 {k : Nat} (hi : i < xs.length) (hk : k < i) (h : apB F w l (atI xs k) (atI xs i) = false) : caB F w l xs = false := caB_a hi (allB_false k hk h)
theorem okN_t {m s : Int × Int} (hm : mtI xs i m) (hs : usI F w l xs i s) (hb : isB F (atI xs i) = true) (hk : (F.k (atI xs i).toNat == 0) = true) (h : hasB m.1 m.2 (atI xs i) = false) (h2 : eq2 (bo0 (cvrT F w l (atI xs i)).1 s.1) (bo1 (cvrT F w l (atI xs i)).2 s.2) 0 0 = true) : okN F w l xs i = true := by
  unfold okN slB
  rw [hb, hk, ← mt_h hm hb, h, ← us_bo hs, h2]
  rfl
theorem okN_u (h : slB F (atI xs i) = true ∧ hasN xs (atI xs i) i = false) (h2 : ∀ k, k < i → apB F w l (atI xs k) (atI xs i) = true) : okN F w l xs i = true := by
  unfold okN
  rw [h.1, h.2, allB_true h2]
  rfl
theorem slB_h (h : (isB F (atI xs i) && (F.k (atI xs i).toNat == 0)) = true) (h2 : hasN (xs.take i) (atI xs i) i = false) : slB F (atI xs i) = true ∧ hasN xs (atI xs i) i = false := ⟨h, by rwa [hasN_take i i (Nat.le_refl _)] at h2⟩
theorem apB_f {x y : Int} (k : Nat) (hk : k < 100) (h : (isB F (k : Int) && cvR F (k : Int) x w l) = true) (h2 : (isB F (k : Int) && cvR F (k : Int) y w l) = true) : apB F w l x y = false := by
  unfold apB
  exact allB_false (p := fun k : Nat => !(cvB F w l (k : Int) x && cvB F w l (k : Int) y)) k hk (by unfold cvB; simp only [h, h2]; rfl)
theorem apB_n {x y : Int} (k : Nat) (h : (isB F (k : Int) && cvR F (k : Int) x w l) = false ∨ (isB F (k : Int) && cvR F (k : Int) y w l) = false) : (!(cvB F w l (k : Int) x && cvB F w l (k : Int) y)) = true := by
  unfold cvB
  rcases h with h | h <;> rw [h] <;> simp
theorem apB_t {x y : Int} (h : ∀ k : Nat, k < 100 → (!(cvB F w l (k : Int) x && cvB F w l (k : Int) y)) = true) : apB F w l x y = true := by unfold apB; exact allB_true h
end

--# apL
section
variable {F : Fld} {w l c tx ty : Int} {xs L : List Int} {n i : Nat}
/-- Cells that are apart, taken one after the other. -/
def apL (F : Fld) (w l : Int) (L : List Int) : Nat → List Int
  | 0 => []
  | n + 1 => if allB (apL F w l L n).length (fun j => apB F w l (atI (apL F w l L n) j) (atI L n)) = true then apL F w l L n ++ [atI L n] else apL F w l L n
theorem apL_0 : apL F w l L 0 = [] := rfl
theorem apL_1 (h : allB (apL F w l L n).length (fun j => apB F w l (atI (apL F w l L n) j) (atI L n)) = true) : apL F w l L (n + 1) = apL F w l L n ++ [atI L n] := by rw [apL, if_pos h]
theorem apL_2 (h : allB (apL F w l L n).length (fun j => apB F w l (atI (apL F w l L n) j) (atI L n)) = false) : apL F w l L (n + 1) = apL F w l L n := by rw [apL, if_neg (by rw [h]; decide)]
theorem apL_length (F : Fld) (w l : Int) (L : List Int) : ∀ n, (apL F w l L n).length ≤ n
  | 0 => Nat.le_refl _
  | n + 1 => by
    have := apL_length F w l L n
    rw [apL]
    split <;> simp <;> omega
theorem atI_app1 {j : Nat} (h : j < xs.length) : atI (xs ++ [c]) j = atI xs j := by unfold atI; simp [List.getD, List.getElem?_append_left h]
theorem atI_app2 : atI (xs ++ [c]) xs.length = c := by unfold atI; simp [List.getD]
theorem anyC_app {d : Int} : ∀ n, n ≤ xs.length → anyC F w l (xs ++ [c]) d n = anyC F w l xs d n
  | 0, _ => rfl
  | n + 1, h => by rw [anyC, anyC, anyC_app n (by omega), atI_app1 (by omega)]
theorem us_app {s : Int × Int} (h : usI F w l xs xs.length s) : usI F w l (xs ++ [c]) (xs ++ [c]).length (un0 s.1 (cvrT F w l c).1, un1 s.2 (cvrT F w l c).2) := by
  rw [show (xs ++ [c]).length = xs.length + 1 by simp]
  have h2 : usI F w l (xs ++ [c]) xs.length s := ⟨h.1, fun d hd => by rw [h.2 d hd, anyC_app _ (Nat.le_refl _)]⟩
  have h3 := us_s h2
  rwa [atI_app2] at h3
theorem tg_eq (hx : wrd tx) (hy : wrd ty) : listL (bo0 tx (setC F (fun c_ => F.k c_.toNat == 0) 100).1) (bo1 ty (setC F (fun c_ => F.k c_.toNat == 0) 100).2) = tgL F tx ty 100 := by
  have k := lf_0 (F := F) (w := 0) (l := 0) (xs := []) hx hy
  unfold listL listN tgL
  have : ∀ n, n ≤ 100 → pickL (fun i => hasB (bo0 tx (setC F (fun c_ => F.k c_.toNat == 0) 100).1) (bo1 ty (setC F (fun c_ => F.k c_.toNat == 0) 100).2) (i : Int)) n = pickL (fun i => tgB F tx ty (i : Int)) n := by
    intro n
    induction n with
    | zero => intro _; rfl
    | succ n ih =>
      intro hn
      have e := k.2 n (by omega)
      simp only [cvH, Bool.not_false, Bool.and_true] at e
      simp only [pickL, ih (by omega), e]
  exact this 100 (Nat.le_refl _)
theorem apL_u {s : Int × Int} (hs : usI F w l (apL F w l L n) (apL F w l L n).length s) (h : eq2 (bo0 (cvrT F w l (atI L n)).1 s.1) (bo1 (cvrT F w l (atI L n)).2 s.2) 0 0 = true) : apL F w l L (n + 1) = apL F w l L n ++ [atI L n] := apL_1 (by rwa [us_bo hs] at h)
theorem apL_v {s : Int × Int} (hs : usI F w l (apL F w l L n) (apL F w l L n).length s) (h : eq2 (bo0 (cvrT F w l (atI L n)).1 s.1) (bo1 (cvrT F w l (atI L n)).2 s.2) 0 0 = false) : apL F w l L (n + 1) = apL F w l L n := apL_2 (by rwa [us_bo hs] at h)
end
end Go.Proofs.Ytldlaohefgianaa
