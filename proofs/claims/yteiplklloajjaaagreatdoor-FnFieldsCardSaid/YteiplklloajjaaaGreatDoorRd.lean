/-
  What the readers of texts ask for: words of scarecrows, nets, flocks. No conditions.
-/
import Derived.Test.YteiplklloajjaaaGreatDoorTn
import Derived.Test.YteiplklloajjaaaGreatDoorRx
namespace Go.Proofs.YteiplklloajjaaaGreatDoor
open Go.RowKit
set_option linter.unusedSimpArgs false
set_option linter.unusedVariables false

--# cut
theorem dig_no {l : List UInt8} {c : UInt8} (h : numO l = true) (hc : c.toNat < 48 ∨ 57 < c.toNat) : c ∉ l := fun hm => by
  have := numO_dig h c hm
  omega
theorem cu2_in {c : UInt8} {l : List UInt8} (h : cu2 c l ≠ []) : c ∈ l := by
  rcases cut_one c l with ⟨_, _, e⟩ | ⟨p, q, e, _, _, _⟩
  · exact absurd e h
  · rw [e]; simp
theorem cu_mem {c x : UInt8} {l : List UInt8} (hx : x ≠ c) (h1 : x ∉ cu1 c l) (h2 : x ∉ cu2 c l) : x ∉ l := by
  rcases cut_one c l with ⟨_, e, _⟩ | ⟨p, q, e, _, e1, e2⟩
  · rw [e] at h1; exact h1
  · rw [e1] at h1
    rw [e2] at h2
    rw [e]
    simp only [List.mem_append, List.mem_cons, not_or]
    exact ⟨h1, hx, h2⟩
theorem two0 {c : UInt8} {l : List UInt8} (h : (cutL c l).length = 2) : atL (cutL c l) 0 = cu1 c l ∧ atL (cutL c l) 1 = cu2 c l := by
  rw [cut_two' h]
  exact ⟨rfl, rfl⟩
theorem two_len {c : UInt8} {l : List UInt8} (h : c ∈ l) (h2 : c ∉ cu2 c l) : (cutL c l).length = 2 := by rw [cut_two h h2]; rfl
theorem atL_map {xs : List (List UInt8)} {P : List UInt8 → Bool} : (xs.all P = true) ↔ ∀ i, i < xs.length → P (atL xs i) = true := by
  rw [List.all_eq_true]
  constructor
  · intro h i hi
    exact h _ (atL_mem hi)
  · intro h x hx
    obtain ⟨i, hi, e⟩ := List.mem_iff_getElem.1 hx
    have := h i hi
    unfold atL at this
    rw [List.getD, List.getElem?_eq_getElem hi] at this
    rw [← e]
    exact this
theorem all_f {xs : List (List UInt8)} {P : List UInt8 → Bool} {i : Nat} (hi : i < xs.length) (h : P (atL xs i) = false) : xs.all P = false := by
  cases hh : xs.all P with
  | false => rfl
  | true => rw [atL_map.1 hh i hi] at h; cases h
theorem atL_len {c : UInt8} {l : List UInt8} {i : Nat} (hi : i < (cutL c l).length) : (atL (cutL c l) i).length ≤ l.length := cutL_partL (atL_mem hi)
theorem atL_le (c : UInt8) (l : List UInt8) (i : Nat) : (atL (cutL c l) i).length ≤ l.length := by
  rcases Nat.lt_or_ge i (cutL c l).length with h | h
  · exact atL_len h
  · unfold atL
    rw [List.getD, List.getElem?_eq_none h]
    exact Nat.zero_le _
/-- Whether a text of words is read: no word, or at most m words that are as told. -/
def rdO (m : Nat) (W : List UInt8 → Bool) (l : List UInt8) : Bool := decide (l = []) || (decide ((cutL 32 l).length ≤ m) && (cutL 32 l).all W)
def rdN (l : List UInt8) : Nat := if l = [] then 0 else (cutL 32 l).length
theorem rdN_nil {l : List UInt8} (h : l = []) : rdN l = 0 := if_pos h
theorem rdN_ne {l : List UInt8} (h : ¬ l = []) : rdN l = (cutL 32 l).length := if_neg h
theorem rdO_nil {m : Nat} {W : List UInt8 → Bool} {l : List UInt8} (h : l = []) : rdO m W l = true := by unfold rdO; rw [decide_eq_true h]; rfl
theorem rdO_long {m : Nat} {W : List UInt8 → Bool} {l : List UInt8} (h : ¬ l = []) (h2 : m < (cutL 32 l).length) : rdO m W l = false := by
  unfold rdO
  rw [decide_eq_false h, decide_eq_false (show ¬ (cutL 32 l).length ≤ m by omega)]; rfl
theorem rdO_bad {m : Nat} {W : List UInt8 → Bool} {l : List UInt8} {i : Nat} (h : ¬ l = []) (hi : i < (cutL 32 l).length) (hw : W (atL (cutL 32 l) i) = false) : rdO m W l = false := by
  unfold rdO
  rw [decide_eq_false h, all_f hi hw, Bool.and_false]; rfl
theorem rdO_t {m : Nat} {W : List UInt8 → Bool} {l : List UInt8} (h : ¬ l = []) (h2 : (cutL 32 l).length ≤ m) (hw : ∀ j, j < (cutL 32 l).length → W (atL (cutL 32 l) j) = true) : rdO m W l = true := by
  unfold rdO
  rw [decide_eq_false h, decide_eq_true h2, atL_map.2 hw]; rfl
theorem rdN_le {m : Nat} {W : List UInt8 → Bool} {l : List UInt8} (h : rdO m W l = true) : rdN l ≤ m := by
  unfold rdO at h
  unfold rdN
  by_cases hl : l = []
  · rw [if_pos hl]; exact Nat.zero_le _
  · rw [if_neg hl]
    rw [decide_eq_false hl] at h
    simp only [Bool.false_or, Bool.and_eq_true, decide_eq_true_eq] at h
    exact h.1
theorem ok_step {xs : List (List UInt8)} {P : List UInt8 → Bool} {i : Nat} (h : ∀ j, j < i → P (atL xs j) = true) (hi : P (atL xs i) = true) : ∀ j, j < i + 1 → P (atL xs j) = true := by
  intro j hj
  rcases (by omega : j < i ∨ j = i) with h1 | h1
  · exact h j h1
  · rw [h1]; exact hi
/-- Behind a reader: the rows, or an error (nil or an empty list). -/
def RdX (w : World) (t : TypeId) (n m : Nat) (ks : List IntKind) (f : Nat → Nat → Int) (ok : Bool) (e : Ending) (w' : World) : Prop :=
  (ok = true ∧ RetX w t n m ks f e w') ∨ (ok = false ∧ e = .returned (.tuple #[.slice none 0 0, .int .i64 5]) ∧ Ext w w')
def RdY (w : World) (t : TypeId) (n m : Nat) (ks : List IntKind) (f : Nat → Nat → Int) (ok : Bool) (e : Ending) (w' : World) : Prop :=
  (ok = true ∧ RetX w t n m ks f e w') ∨ (ok = false ∧ (∃ g cap, e = .returned (.tuple #[.slice (some ⟨g, 0, none⟩) 0 cap, .int .i64 5])) ∧ Ext w w')
section
variable {w w' : World} {t : TypeId} {n m : Nat} {ks : List IntKind} {f : Nat → Nat → Int} {ok : Bool} {e : Ending}
theorem RdX.yes (h : RdX w t n m ks f ok e w') (ho : ok = true) : RetX w t n m ks f e w' := by
  rcases h with ⟨_, h⟩ | ⟨h, _⟩
  · exact h
  · rw [ho] at h; cases h
theorem RdX.no (h : RdX w t n m ks f ok e w') (ho : ok = false) : e = .returned (.tuple #[.slice none 0 0, .int .i64 5]) ∧ Ext w w' := by
  rcases h with ⟨h, _⟩ | ⟨_, h⟩
  · rw [ho] at h; cases h
  · exact h
theorem RdY.yes (h : RdY w t n m ks f ok e w') (ho : ok = true) : RetX w t n m ks f e w' := by
  rcases h with ⟨_, h⟩ | ⟨h, _⟩
  · exact h
  · rw [ho] at h; cases h
theorem RdY.no (h : RdY w t n m ks f ok e w') (ho : ok = false) : ∃ g cap, e = .returned (.tuple #[.slice (some ⟨g, 0, none⟩) 0 cap, .int .i64 5]) ∧ Ext w w' := by
  rcases h with ⟨h, _⟩ | ⟨_, ⟨g, cap, h⟩, h2⟩
  · rw [ho] at h; cases h
  · exact ⟨g, cap, h, h2⟩
end
theorem RetX.of {w : World} {t : TypeId} {n m : Nat} {ks : List IntKind} {f f' : Nat → Nat → Int} {e : Ending} {w' : World} (h : RetX w t n m ks f e w') (hf : ∀ i j, i < n → j < m → f i j = f' i j) : RetX w t n m ks f' e w' := by
  obtain ⟨g, cap, cs, h1, h2, h3, h4⟩ := h
  exact ⟨g, cap, cs, h1, h2, h3.of hf, h4⟩
theorem RdY.of {w : World} {t : TypeId} {n m : Nat} {ks : List IntKind} {f f' : Nat → Nat → Int} {ok ok' : Bool} {e : Ending} {w' : World} (h : RdY w t n m ks f ok e w') (ho : ok = ok') (hf : ok' = true → ∀ i j, i < n → j < m → f i j = f' i j) : RdY w t n m ks f' ok' e w' := by
  subst ho
  rcases h with ⟨h1, h2⟩ | h
  · exact .inl ⟨h1, h2.of (hf h1)⟩
  · exact .inr h

--# scares
def scW (w : List UInt8) : Bool := parO (cu1 58 w) 0 99 && (parO (cu1 47 (cu2 58 w)) 1 1000 && parO (cu2 47 (cu2 58 w)) 0 30)
def scR (w : List UInt8) (j : Nat) : Int := if j = 0 then numV (cu1 58 w) else if j = 1 then numV (cu1 47 (cu2 58 w)) else numV (cu2 47 (cu2 58 w))
def scF (l : List UInt8) : Nat → Nat → Int := fun i => scR (atL (cutL 32 l) i)
theorem scW_1 {w : List UInt8} (h : parO (cu1 58 w) 0 99 = false) : scW w = false := by unfold scW; rw [h]; rfl
theorem scW_2 {w : List UInt8} (h : parO (cu1 47 (cu2 58 w)) 1 1000 = false) : scW w = false := by unfold scW; rw [h, Bool.false_and, Bool.and_false]
theorem scW_3 {w : List UInt8} (h : parO (cu2 47 (cu2 58 w)) 0 30 = false) : scW w = false := by unfold scW; rw [h, Bool.and_false, Bool.and_false]
theorem scW_t {w : List UInt8} (h1 : parO (cu1 58 w) 0 99 = true) (h2 : parO (cu1 47 (cu2 58 w)) 1 1000 = true) (h3 : parO (cu2 47 (cu2 58 w)) 0 30 = true) : scW w = true := by unfold scW; rw [h1, h2, h3]; rfl
theorem scF_row {l : List UInt8} {i : Nat} {a b c : Int} (h1 : a = numV (cu1 58 (atL (cutL 32 l) i))) (h2 : b = numV (cu1 47 (cu2 58 (atL (cutL 32 l) i)))) (h3 : c = numV (cu2 47 (cu2 58 (atL (cutL 32 l) i)))) :
    (rowL [.i16, .i16, .i8] (scF l i)).toArray = #[.int .i16 a, .int .i16 b, .int .i8 c] := by rw [h1, h2, h3]; rfl
/-- The reference's words. -/
def sdA (w : List UInt8) : List UInt8 := atL (cutL 58 w) 1
def sdW (w : List UInt8) : Bool := decide ((cutL 58 w).length = 2) && (decide ((cutL 47 (sdA w)).length = 2) && (numO (atL (cutL 58 w) 0) && (numO (atL (cutL 47 (sdA w)) 0) && (numO (atL (cutL 47 (sdA w)) 1) &&
  (decide (numV (atL (cutL 58 w) 0) ≤ 99) && (inB (numV (atL (cutL 47 (sdA w)) 0)) 1 1000 && decide (numV (atL (cutL 47 (sdA w)) 1) ≤ 30)))))))
def sdF (l : List UInt8) : Nat → Nat → Int := fun i j => if j = 0 then numV (atL (cutL 58 (atL (cutL 32 l) i)) 0) else if j = 1 then numV (atL (cutL 47 (sdA (atL (cutL 32 l) i))) 0) else numV (atL (cutL 47 (sdA (atL (cutL 32 l) i))) 1)
section
variable {w : List UInt8}
theorem sdW_1 (h : ¬ ((cutL 58 w).length : Int) = 2) : sdW w = false := by unfold sdW; rw [decide_eq_false (by omega)]; rfl
theorem sdW_2 (h : ¬ ((cutL 47 (atL (cutL 58 w) 1)).length : Int) = 2) : sdW w = false := by unfold sdW sdA; rw [decide_eq_false (p := (cutL 47 (atL (cutL 58 w) 1)).length = 2) (by omega)]; simp
theorem sdW_3 (h : numO (atL (cutL 58 w) 0) = false) : sdW w = false := by unfold sdW; rw [h]; simp
theorem sdW_4 (h : numO (atL (cutL 47 (atL (cutL 58 w) 1)) 0) = false) : sdW w = false := by unfold sdW sdA; rw [h]; simp
theorem sdW_5 (h : numO (atL (cutL 47 (atL (cutL 58 w) 1)) 1) = false) : sdW w = false := by unfold sdW sdA; rw [h]; simp
theorem sdW_6 (h : 99 < numV (atL (cutL 58 w) 0)) : sdW w = false := by unfold sdW; rw [decide_eq_false (p := numV (atL (cutL 58 w) 0) ≤ 99) (by omega)]; simp
theorem sdW_7 (h : inB (numV (atL (cutL 47 (atL (cutL 58 w) 1)) 0)) 1 1000 = false) : sdW w = false := by unfold sdW sdA; rw [h]; simp
theorem sdW_8 (h : 30 < numV (atL (cutL 47 (atL (cutL 58 w) 1)) 1)) : sdW w = false := by unfold sdW sdA; rw [decide_eq_false (p := numV (atL (cutL 47 (atL (cutL 58 w) 1)) 1) ≤ 30) (by omega)]; simp
theorem sdW_t (h1 : ((cutL 58 w).length : Int) = 2) (h2 : ((cutL 47 (atL (cutL 58 w) 1)).length : Int) = 2) (h3 : numO (atL (cutL 58 w) 0) = true) (h4 : numO (atL (cutL 47 (atL (cutL 58 w) 1)) 0) = true) (h5 : numO (atL (cutL 47 (atL (cutL 58 w) 1)) 1) = true)
    (h6 : numV (atL (cutL 58 w) 0) ≤ 99) (h7 : inB (numV (atL (cutL 47 (atL (cutL 58 w) 1)) 0)) 1 1000 = true) (h8 : numV (atL (cutL 47 (atL (cutL 58 w) 1)) 1) ≤ 30) : sdW w = true := by
  unfold sdW sdA
  rw [decide_eq_true (p := (cutL 58 w).length = 2) (by omega), decide_eq_true (p := (cutL 47 (atL (cutL 58 w) 1)).length = 2) (by omega), h3, h4, h5, decide_eq_true h6, h7, decide_eq_true h8]
  rfl
theorem sd_two (h : sdW w = true) : cutL 58 w = [cu1 58 w, cu2 58 w] ∧ cutL 47 (cu2 58 w) = [cu1 47 (cu2 58 w), cu2 47 (cu2 58 w)] := by
  unfold sdW at h
  simp only [Bool.and_eq_true, decide_eq_true_eq] at h
  have h1 := cut_two' h.1
  have h2 := h.2.1
  unfold sdA at h2
  rw [h1] at h2
  exact ⟨h1, cut_two' h2⟩
theorem sdW_sc : sdW w = scW w := by
  cases hs : sdW w with
  | true =>
    obtain ⟨e1, e2⟩ := sd_two hs
    unfold sdW at hs
    simp only [Bool.and_eq_true, decide_eq_true_eq] at hs
    obtain ⟨_, _, h3, h4, h5, h6, h7, h8⟩ := hs
    unfold sdA at h4 h5 h7 h8
    rw [e1] at h3 h4 h5 h6 h7 h8
    have ea : atL [cu1 58 w, cu2 58 w] 0 = cu1 58 w := rfl
    have eb : atL [cu1 58 w, cu2 58 w] 1 = cu2 58 w := rfl
    rw [ea] at h3 h6
    rw [eb, e2] at h4 h5 h7 h8
    have ec : atL [cu1 47 (cu2 58 w), cu2 47 (cu2 58 w)] 0 = cu1 47 (cu2 58 w) := rfl
    have ed : atL [cu1 47 (cu2 58 w), cu2 47 (cu2 58 w)] 1 = cu2 47 (cu2 58 w) := rfl
    rw [ec] at h4 h7
    rw [ed] at h5 h8
    have n1 := numV_in (cu1 58 w)
    have n3 := numV_in (cu2 47 (cu2 58 w))
    symm
    refine scW_t ?_ ?_ ?_
    · unfold parO inB; rw [h3, decide_eq_true n1.1, decide_eq_true h6]; rfl
    · unfold parO; rw [h4, h7]; rfl
    · unfold parO inB; rw [h5, decide_eq_true n3.1, decide_eq_true h8]; rfl
  | false =>
    cases hc : scW w with
    | false => rfl
    | true =>
      exfalso
      unfold scW at hc
      simp only [Bool.and_eq_true] at hc
      obtain ⟨p1, p2, p3⟩ := hc
      have q1 := parO_num p1
      have q2 := parO_num p2
      have q3 := parO_num p3
      have i2 : (47 : UInt8) ∈ cu2 58 w := cu2_in (numO_ne q3.1)
      have m2 : (cutL 47 (cu2 58 w)).length = 2 := two_len i2 (dig_no q3.1 (.inl (by decide)))
      have n58 : (58 : UInt8) ∉ cu2 58 w := cu_mem (by decide) (dig_no q2.1 (.inr (by decide))) (dig_no q3.1 (.inr (by decide)))
      have i1 : (58 : UInt8) ∈ w := cu2_in (fun e => by rw [e] at i2; cases i2)
      have m1 : (cutL 58 w).length = 2 := two_len i1 n58
      have e1 := two0 m1
      have e2 := two0 m2
      rw [sdW_t (by omega) (by rw [e1.2]; omega) (by rw [e1.1]; exact q1.1) (by rw [e1.2, e2.1]; exact q2.1) (by rw [e1.2, e2.2]; exact q3.1) (by rw [e1.1]; exact q1.2.2) (by rw [e1.2, e2.1]; unfold inB; rw [decide_eq_true q2.2.1, decide_eq_true q2.2.2]; rfl) (by rw [e1.2, e2.2]; exact q3.2.2)] at hs
      cases hs
end
theorem sdF_row {l : List UInt8} {i : Nat} : (rowL [.i16, .i16, .i8] (sdF l i)).toArray = #[.int .i16 (numV (atL (cutL 58 (atL (cutL 32 l) i)) 0)), .int .i16 (numV (atL (cutL 47 (atL (cutL 58 (atL (cutL 32 l) i)) 1)) 0)), .int .i8 (numV (atL (cutL 47 (atL (cutL 58 (atL (cutL 32 l) i)) 1)) 1))] := rfl
theorem sd_all (l : List UInt8) : rdO 20 sdW l = rdO 20 scW l := by
  have : sdW = scW := funext fun w => sdW_sc
  rw [this]
theorem sd_rows {l : List UInt8} (h : rdO 20 scW l = true) : ∀ i j, i < rdN l → j < 3 → sdF l i j = scF l i j := by
  intro i j hi hj
  unfold rdO at h
  unfold rdN at hi
  by_cases hl : l = []
  · rw [if_pos hl] at hi; omega
  · rw [if_neg hl] at hi
    rw [decide_eq_false hl] at h
    simp only [Bool.false_or, Bool.and_eq_true] at h
    have hw := atL_map.1 h.2 i hi
    rw [← sdW_sc] at hw
    obtain ⟨e1, e2⟩ := sd_two hw
    have ea : atL (cutL 58 (atL (cutL 32 l) i)) 0 = cu1 58 (atL (cutL 32 l) i) := by rw [e1]; rfl
    have eb : sdA (atL (cutL 32 l) i) = cu2 58 (atL (cutL 32 l) i) := by unfold sdA; rw [e1]; rfl
    have ec : atL (cutL 47 (cu2 58 (atL (cutL 32 l) i))) 0 = cu1 47 (cu2 58 (atL (cutL 32 l) i)) := by rw [e2]; rfl
    have ed : atL (cutL 47 (cu2 58 (atL (cutL 32 l) i))) 1 = cu2 47 (cu2 58 (atL (cutL 32 l) i)) := by rw [e2]; rfl
    unfold sdF scF scR
    rw [eb, ea, ec, ed]
end Go.Proofs.YteiplklloajjaaaGreatDoor
