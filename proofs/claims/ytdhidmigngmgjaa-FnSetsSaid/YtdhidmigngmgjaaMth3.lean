/-
  Plain laws: first indices, shifts. No conditions.
-/
import Derived.Test.YtdhidmigngmgjaaMth2
namespace Go.Proofs.Ytdhidmigngmgjaa
set_option linter.unusedSimpArgs false
set_option linter.unusedVariables false

--# first index
/-- The first number below n that is such, -1 if there is none. -/
def firstN (p : Nat → Bool) : Nat → Int
  | 0 => -1
  | n + 1 => if 0 ≤ firstN p n then firstN p n else if p n = true then (n : Int) else -1
theorem firstN_none {p : Nat → Bool} {n : Nat} (h : ∀ j, j < n → p j = false) : firstN p n = -1 := by
  induction n with
  | zero => rfl
  | succ n ih =>
    unfold firstN
    rw [ih (fun j hj => h j (by omega)), if_neg (by omega), if_neg (by rw [h n (by omega)]; decide)]
theorem firstN_at {p : Nat → Bool} {n : Nat} (i : Nat) (hi : i < n) (h : ∀ j, j < i → p j = false) (h2 : p i = true) : firstN p n = i := by
  induction n with
  | zero => omega
  | succ n ih =>
    unfold firstN
    by_cases hin : i = n
    · subst hin
      rw [firstN_none h, if_neg (by omega), if_pos h2]
    · rw [ih (by omega), if_pos (by omega)]
theorem firstN_b (p : Nat → Bool) (n : Nat) : firstN p n = -1 ∨ (0 ≤ firstN p n ∧ firstN p n < n) := by
  induction n with
  | zero => exact .inl rfl
  | succ n ih =>
    unfold firstN
    split
    · rcases ih with h | h <;> omega
    · split
      · exact .inr (by omega)
      · exact .inl rfl
def idxL (xs : List Int) (p : Int → Bool) : Int := firstN (fun j => p (atI xs j)) xs.length
theorem idxL_none {xs : List Int} {p : Int → Bool} (h : ∀ j, j < xs.length → p (atI xs j) = false) : idxL xs p = -1 := firstN_none h
theorem idxL_at {xs : List Int} {p : Int → Bool} (i : Nat) (hi : i < xs.length) (h : ∀ j, j < i → p (atI xs j) = false) (h2 : p (atI xs i) = true) : idxL xs p = i := firstN_at i hi h h2
theorem idxL_b (xs : List Int) (p : Int → Bool) : idxL xs p = -1 ∨ (0 ≤ idxL xs p ∧ idxL xs p < xs.length) := firstN_b _ _
theorem false_step {p : Nat → Bool} {i : Nat} (h : ∀ j, j < i → p j = false) (hi : p i = false) : ∀ j, j < i + 1 → p j = false := by
  intro j hj
  rcases (by omega : j < i ∨ j = i) with h1 | h1
  · exact h j h1
  · rw [h1]; exact hi

--# shifts
def inLN (xs : List Int) (l h : Int) (n : Nat) : Bool := allB n (fun j => inB (atI xs j) l h)
def inL (xs : List Int) (l h : Int) : Bool := inLN xs l h xs.length
theorem inLN_0 (xs : List Int) (l h : Int) : inLN xs l h 0 = true := allB_true (fun i hi => by omega)
theorem inLN_s (xs : List Int) (l h : Int) (n : Nat) : inLN xs l h (n + 1) = (inLN xs l h n && inB (atI xs n) l h) := by
  unfold inLN
  cases h1 : allB n (fun j => inB (atI xs j) l h) with
  | false =>
    rw [Bool.false_and]
    cases h2 : allB (n + 1) (fun j => inB (atI xs j) l h) with
    | false => rfl
    | true => rw [allB_true (fun i hi => allB_get h2 i (by omega))] at h1; cases h1
  | true =>
    rw [Bool.true_and]
    cases h2 : inB (atI xs n) l h with
    | false => exact allB_false n (by omega) h2
    | true => exact allB_true (all_step (fun j hj => allB_get h1 j hj) h2)
theorem inL_get {xs : List Int} {l h : Int} (k : inL xs l h = true) (i : Nat) (hi : i < xs.length) : l ≤ atI xs i ∧ atI xs i ≤ h := inT (allB_get (p := fun j => inB (atI xs j) l h) k i hi)
theorem inL_nil (l h : Int) : inL [] l h = true := inLN_0 _ l h
theorem inL_any (xs : List Int) (l h : Int) : (!decide (0 ≤ idxL xs (fun c => !inB c l h))) = inL xs l h := by
  cases hk : inL xs l h with
  | true =>
    rw [idxL_none (fun j hj => by have := allB_get (p := fun j => inB (atI xs j) l h) hk j hj; show (!inB (atI xs j) l h) = false; rw [this]; rfl)]
    decide
  | false =>
    rcases idxL_b xs (fun c => !inB c l h) with h1 | h1
    · exfalso
      have : inL xs l h = true := by
        refine allB_true (fun i hi => ?_)
        cases hb : inB (atI xs i) l h with
        | true => rfl
        | false =>
          exfalso
          have hex : ∃ i, i < xs.length ∧ inB (atI xs i) l h = false ∧ ∀ j, j < i → inB (atI xs j) l h = true := by
            clear h1 hk
            induction i using Nat.strongRecOn with
            | _ i ih =>
              by_cases hq : ∃ j, j < i ∧ inB (atI xs j) l h = false
              · obtain ⟨j, hj, hj2⟩ := hq
                exact ih j hj (by omega) hj2
              · refine ⟨i, hi, hb, fun j hj => ?_⟩
                cases hc : inB (atI xs j) l h with
                | true => rfl
                | false => exact absurd ⟨j, hj, hc⟩ hq
          obtain ⟨i, hi, hb, hl⟩ := hex
          have := idxL_at (p := fun c => !inB c l h) i hi (fun j hj => by simp only [hl j hj]; rfl) (by simp only [hb]; rfl)
          omega
      rw [this] at hk; cases hk
    · simp [h1.1]
def shB (need : List Int) (len : Int) (starts : List Int) : Bool := decide (need.length ≤ 48) && inB len 1 48 && inL need 0 20 && inL starts 0 ((need.length : Int) - 1)
def shA (n : Nat) (len : Int) : Bool := decide ((n : Int) ≤ 48) && inB len 1 48
theorem shA_f1 {n : Nat} {len : Int} (h : ¬ (n : Int) ≤ 48) : shA n len = false := by unfold shA; rw [decide_eq_false h]; rfl
theorem shA_e {n : Nat} {len : Int} (h : (n : Int) ≤ 48) : shA n len = inB len 1 48 := by unfold shA; rw [decide_eq_true h]; rfl
theorem shB_e {need starts : List Int} {len : Int} {n : Nat} (hn : n = need.length) : shB need len starts = (shA n len && inL need 0 20 && inL starts 0 ((n : Int) - 1)) := by
  subst hn
  unfold shB shA
  rw [show decide ((need.length : Int) ≤ 48) = decide (need.length ≤ 48) from decide_eq_decide.2 (by omega)]
section
variable {need starts : List Int} {len : Int} {n : Nat}
theorem shB_1 (hn : n = need.length) (h : ¬ (n : Int) ≤ 48) : shB need len starts = false := by rw [shB_e hn, shA_f1 h]; rfl
theorem shB_2 (h : inB len 1 48 = false) : shB need len starts = false := by unfold shB; rw [h, Bool.and_false]; rfl
theorem shB_3 (h : decide (0 ≤ idxL need (fun c => !inB c 0 20)) = true) : shB need len starts = false := by unfold shB; rw [← inL_any need, h, Bool.not_true, Bool.and_false]; rfl
theorem shB_4 (hn : n = need.length) (h1 : (n : Int) ≤ 48) (h2 : inB len 1 48 = true) (h3 : decide (0 ≤ idxL need (fun c => !inB c 0 20)) = false) : shB need len starts = !decide (0 ≤ idxL starts (fun c => !inB c 0 ((n : Int) - 1))) := by
  rw [shB_e hn, shA_e h1, h2, ← inL_any need, h3, inL_any starts]; rfl
theorem shB_5 (hn : n = need.length) (h1 : (n : Int) ≤ 48) (h2 : inB len 1 48 = true) (h3 : decide (0 ≤ idxL need (fun c => !inB c 0 20)) = false) : shB need len [] = true := by
  rw [shB_e hn, shA_e h1, h2, ← inL_any need, h3, inL_nil]; rfl
theorem okS_t {ok q : Bool} {xs : List Int} {l h : Int} {i : Nat} (hk : ok = (q && inLN xs l h i)) (ho : ok = true) : inB (atI xs i) l h = (q && inLN xs l h (i + 1)) := by
  rw [inLN_s, ← Bool.and_assoc, ← hk, ho, Bool.true_and]
theorem okS_f {ok q : Bool} {xs : List Int} {l h : Int} {i : Nat} (hk : ok = (q && inLN xs l h i)) (ho : ok = false) : false = (q && inLN xs l h (i + 1)) := by
  rw [inLN_s, ← Bool.and_assoc, ← hk, ho, Bool.false_and]
theorem ok0 {q : Bool} {xs : List Int} {l h : Int} : q = (q && inLN xs l h 0) := by rw [inLN_0, Bool.and_true]
theorem okE {ok q : Bool} {xs : List Int} {l h : Int} {i : Nat} (hk : ok = (q && inLN xs l h i)) (hi : i = xs.length) : ok = (q && inL xs l h) := by rw [hk, hi]; rfl
end
theorem shB_t {need starts : List Int} {len : Int} (h : shB need len starts = true) : need.length ≤ 48 ∧ (1 ≤ len ∧ len ≤ 48) ∧ inL need 0 20 = true ∧ inL starts 0 ((need.length : Int) - 1) = true := by
  unfold shB at h
  simp only [Bool.and_eq_true, decide_eq_true_eq] at h
  exact ⟨h.1.1.1, inT h.1.1.2, h.1.2, h.2⟩
theorem shB_b {need starts : List Int} {len : Int} (h : shB need len starts = true) (i : Nat) : i < need.length → 0 ≤ atI need i ∧ atI need i ≤ 20 := fun hi => inL_get (shB_t h).2.2.1 i hi
theorem shB_s {need starts : List Int} {len : Int} (h : shB need len starts = true) (i : Nat) (hi : i < starts.length) : 0 ≤ atI starts i ∧ atI starts i ≤ 1000 := by
  have h1 := inL_get (shB_t h).2.2.2 i hi
  have h2 := (shB_t h).1
  omega
def cntL (starts : List Int) (len hour : Int) : Nat → Int
  | 0 => 0
  | n + 1 => cntL starts len hour n + if inB hour (atI starts n) (atI starts n + len - 1) = true then 1 else 0
theorem cntL_0 (starts : List Int) (len hour : Int) : cntL starts len hour 0 = 0 := rfl
theorem cntL_1 {starts : List Int} {len hour : Int} {n : Nat} (h : atI starts n ≤ hour ∧ hour ≤ atI starts n + len - 1) : cntL starts len hour (n + 1) = cntL starts len hour n + 1 := by
  show cntL starts len hour n + (if inB hour (atI starts n) (atI starts n + len - 1) = true then 1 else 0) = _
  rw [if_pos (by unfold inB; rw [decide_eq_true h.1, decide_eq_true h.2]; rfl)]
theorem cntL_2 {starts : List Int} {len hour : Int} {n : Nat} (h : ¬ (atI starts n ≤ hour ∧ hour ≤ atI starts n + len - 1)) : cntL starts len hour (n + 1) = cntL starts len hour n := by
  show cntL starts len hour n + (if inB hour (atI starts n) (atI starts n + len - 1) = true then 1 else 0) = _
  rw [if_neg (fun k => h (inT k)), Int.add_zero]
theorem cntL_b (starts : List Int) (len hour : Int) (n : Nat) : 0 ≤ cntL starts len hour n ∧ cntL starts len hour n ≤ n := by
  induction n with
  | zero => exact ⟨Int.le_refl _, Int.le_refl _⟩
  | succ n ih =>
    unfold cntL
    split <;> omega
def wkL (starts : List Int) (len hour : Int) : Int := cntL starts len hour starts.length
theorem wkL_b (starts : List Int) (len hour : Int) : 0 ≤ wkL starts len hour ∧ wkL starts len hour ≤ starts.length := cntL_b _ _ _ _
def misL (need : List Int) (len : Int) (starts : List Int) (i : Nat) : Int := atI need i - wkL starts len i
def sIdx (need : List Int) (len : Int) (starts : List Int) : Int := firstN (fun i => decide (0 < misL need len starts i)) need.length
theorem sIdx_none {need starts : List Int} {len : Int} (h : ∀ j, j < need.length → decide (0 < misL need len starts j) = false) : sIdx need len starts = -1 := firstN_none h
theorem sIdx_at {need starts : List Int} {len : Int} (i : Nat) (hi : i < need.length) (h : ∀ j, j < i → decide (0 < misL need len starts j) = false) (h2 : 0 < misL need len starts i) : sIdx need len starts = i := firstN_at i hi h (decide_eq_true h2)
theorem sIdx_b (need starts : List Int) (len : Int) : sIdx need len starts = -1 ∨ (0 ≤ sIdx need len starts ∧ sIdx need len starts < need.length) := firstN_b _ _
/-- How many are missing at the first hour at which there are too few, 0 if there is none. -/
def sMis (need : List Int) (len : Int) (starts : List Int) : Int := if sIdx need len starts < 0 then 0 else misL need len starts (sIdx need len starts).toNat
def fs0 (need : List Int) (len : Int) (starts : List Int) : Int := if shB need len starts = true then (if sIdx need len starts < 0 then 0 else sIdx need len starts) else 0
def fs1 (need : List Int) (len : Int) (starts : List Int) : Int := if shB need len starts = true then sMis need len starts else 0
def fs2 (need : List Int) (len : Int) (starts : List Int) : Int := if shB need len starts = true then (if sIdx need len starts < 0 then 6 else 0) else 2
def shC (need : List Int) (len : Int) (starts : List Int) : Int := if shB need len starts = true then 0 else 2
section
variable {need starts : List Int} {len : Int}
theorem shC_t (h : shB need len starts = true) : shC need len starts = 0 := if_pos h
theorem shC_f (h : shB need len starts = false) : shC need len starts = 2 := if_neg (by rw [h]; decide)
theorem shC_0 (h : shC need len starts = 0) : shB need len starts = true := by
  unfold shC at h
  by_cases hk : shB need len starts = true
  · exact hk
  · rw [if_neg hk] at h; omega
theorem shC_n (h : shC need len starts ≠ 0) : shB need len starts = false := by
  cases hk : shB need len starts with
  | false => rfl
  | true => exact absurd (shC_t hk) h
theorem fs2_6 (h : fs2 need len starts = 6) : shB need len starts = true ∧ sIdx need len starts < 0 := by
  unfold fs2 at h
  by_cases hk : shB need len starts = true
  · rw [if_pos hk] at h
    by_cases h2 : sIdx need len starts < 0
    · exact ⟨hk, h2⟩
    · rw [if_neg h2] at h; omega
  · rw [if_neg hk] at h; omega
theorem fs2_n (h : fs2 need len starts ≠ 2) : shB need len starts = true := by
  unfold fs2 at h
  by_cases hk : shB need len starts = true
  · exact hk
  · rw [if_neg hk] at h; omega
theorem fs2_2 (h : fs2 need len starts = 2) : shB need len starts = false := by
  unfold fs2 at h
  cases hk : shB need len starts with
  | false => rfl
  | true =>
    rw [if_pos hk] at h
    by_cases h2 : sIdx need len starts < 0
    · rw [if_pos h2] at h; omega
    · rw [if_neg h2] at h; omega
theorem fs2_e (h : shB need len starts = true) : (fs2 need len starts == 6) = decide (sIdx need len starts < 0) := by
  unfold fs2
  rw [if_pos h]
  by_cases h2 : sIdx need len starts < 0
  · rw [if_pos h2, decide_eq_true h2]; rfl
  · rw [if_neg h2, decide_eq_false h2]; rfl
def ck0 (need : List Int) (len : Int) (starts : List Int) : Bool := shB need len starts && decide (sIdx need len starts < 0)
theorem ck0_f (h : shB need len starts = false) : ck0 need len starts = false := by unfold ck0; rw [h]; rfl
theorem ck0_t (h : shB need len starts = true) : ck0 need len starts = decide (sIdx need len starts < 0) := by unfold ck0; rw [h]; rfl
/-- The hours at which the fewest shifts begin, of the first n hours. -/
def fewN (need : List Int) (len : Int) : Nat → List Int
  | 0 => []
  | n + 1 => fewN need len n ++ List.replicate (misL need len (fewN need len n) n).toNat (n : Int)
def fewK (need : List Int) (len : Int) (n k : Nat) : List Int := fewN need len n ++ List.replicate k (n : Int)
theorem fewN_0 : fewN need len 0 = [] := rfl
theorem fewK_0 (n : Nat) : fewN need len n = fewK need len n 0 := by unfold fewK; simp
theorem fewK_s (n k : Nat) : fewK need len n k ++ [(n : Int)] = fewK need len n (k + 1) := by unfold fewK; rw [List.append_assoc, List.replicate_succ']
theorem fewK_end {n k : Nat} (h : k ≤ (misL need len (fewN need len n) n).toNat) (h2 : ¬ (k : Int) < misL need len (fewN need len n) n) : fewK need len n k = fewN need len (n + 1) := by
  show fewN need len n ++ List.replicate k (n : Int) = fewN need len n ++ List.replicate (misL need len (fewN need len n) n).toNat (n : Int)
  rw [show k = (misL need len (fewN need len n) n).toNat by omega]
theorem fewK_length (n k : Nat) : (fewK need len n k).length = (fewN need len n).length + k := by unfold fewK; simp
theorem fewN_b (h : inL need 0 20 = true) (n : Nat) (hn : n ≤ need.length) : (fewN need len n).length ≤ 20 * n := by
  induction n with
  | zero => simp [fewN]
  | succ n ih =>
    have h1 := ih (by omega)
    have h2 := inL_get h n (by omega)
    have h3 := wkL_b (fewN need len n) len n
    unfold fewN
    rw [List.length_append, List.length_replicate]
    have h4 : misL need len (fewN need len n) n ≤ 20 := by unfold misL; omega
    omega
theorem fewN_in (n : Nat) (i : Nat) (hi : i < (fewN need len n).length) : 0 ≤ atI (fewN need len n) i ∧ atI (fewN need len n) i ≤ n := by
  have key : ∀ n, ∀ x ∈ fewN need len n, 0 ≤ x ∧ x ≤ (n : Int) := by
    intro n
    induction n with
    | zero => intro x hx; simp [fewN] at hx
    | succ n ih =>
      intro x hx
      unfold fewN at hx
      rcases List.mem_append.1 hx with h | h
      · have := ih x h; omega
      · have := (List.mem_replicate.1 h).2; omega
  exact key n _ (atI_mem hi)
def fewL (need : List Int) (len : Int) : List Int := fewN need len need.length
theorem fewN_end {n : Nat} (h1 : n ≤ need.length) (h : ¬ (n : Int) < need.length) : fewN need len n = fewL need len := by rw [show n = need.length by omega]; rfl
end
theorem fewL_b {need : List Int} {len : Int} (h : shC need len [] = 0) : (fewL need len).length ≤ 1000 := by
  have h1 := shB_t (shC_0 h)
  have h2 := fewN_b (len := len) h1.2.2.1 need.length (Nat.le_refl _)
  unfold fewL
  omega
attribute [irreducible] idxL inLN shB cntL fewN sIdx misL wkL
end Go.Proofs.Ytdhidmigngmgjaa
