/-
  The fewest places: the search, told once for both. No conditions.
-/
import Derived.Test.YtldlaohefgianaaGr
namespace Go.Proofs.Ytldlaohefgianaa
open Go.RowKit
set_option linter.unusedSimpArgs false
set_option linter.unusedVariables false

--# fw
/-- What a search tells: what it found, whether there were too many looks, how many looks there were. -/
structure FwR where
  fd : Option (List Int)
  ov : Bool
  lk : Int
section
variable {F : Fld} {w l B c k lk : Int} {s : Int × Int} {o L : List Int} {m n i : Nat}
/-- Looks at the places of a list, one after the other. -/
def lpF (F : Fld) (w l B : Int) (f : Int → Int → FwR) (c : Int) : List Int → Int → FwR
  | [], lk => ⟨none, false, lk⟩
  | k :: r, lk => if hasB (cvP F w l k).1 (cvP F w l k).2 c = true then (if lk = B then ⟨none, true, lk⟩ else if (f k (lk + 1)).fd.isSome = true ∨ (f k (lk + 1)).ov = true then f k (lk + 1) else lpF F w l B f c r (f k (lk + 1)).lk) else lpF F w l B f c r lk
/-- The first number of a set, 100 if there is none. -/
def fsC (s : Int × Int) : Int := if (listL s.1 s.2).length = 0 then 100 else atI (listL s.1 s.2) 0
def seekF (F : Fld) (w l B : Int) : Nat → Int × Int → List Int → Int → FwR
  | 0, s, o, lk => if eq2 s.1 s.2 0 0 = true then ⟨some o, false, lk⟩ else ⟨none, false, lk⟩
  | m + 1, s, o, lk => if eq2 s.1 s.2 0 0 = true then ⟨some o, false, lk⟩ else lpF F w l B (fun k lk => seekF F w l B m (wo0 s.1 (cvP F w l k).1, wo1 s.2 (cvP F w l k).2) (o ++ [k]) lk) (fsC s) (cellsL F) lk
/-- The search's step at a place. -/
def stF (F : Fld) (w l B : Int) (m : Nat) (s : Int × Int) (o : List Int) (k lk : Int) : FwR := seekF F w l B m (wo0 s.1 (cvP F w l k).1, wo1 s.2 (cvP F w l k).2) (o ++ [k]) lk
/-- What is left of the search at the cell j. -/
def atF (F : Fld) (w l B : Int) (m : Nat) (s : Int × Int) (o : List Int) (j : Nat) (lk : Int) : FwR := lpF F w l B (stF F w l B m s o) (fsC s) ((cellsL F).drop j) lk
theorem seek_e (h : eq2 s.1 s.2 0 0 = true) : seekF F w l B m s o lk = ⟨some o, false, lk⟩ := by
  cases m <;> (unfold seekF; rw [if_pos h])
theorem seek_0 (h : eq2 s.1 s.2 0 0 = false) : seekF F w l B 0 s o lk = ⟨none, false, lk⟩ := by unfold seekF; rw [if_neg (by rw [h]; decide)]
theorem seek_s (h : eq2 s.1 s.2 0 0 = false) : seekF F w l B (m + 1) s o lk = atF F w l B m s o 0 lk := by
  unfold seekF
  rw [if_neg (by rw [h]; decide)]
  rfl
theorem drop_at {j : Nat} (h : j < L.length) : L.drop j = atI L j :: L.drop (j + 1) := by
  have e : atI L j = L[j] := by unfold atI; simp [List.getD, List.getElem?_eq_getElem h]
  rw [e, List.getElem_cons_drop]
theorem at_end {j : Nat} (h : (cellsL F).length ≤ j) : atF F w l B m s o j lk = ⟨none, false, lk⟩ := by
  unfold atF
  rw [List.drop_eq_nil_of_le h]
  rfl
theorem at_skip {j : Nat} (h : j < (cellsL F).length) (hb : hasB (cvP F w l (atI (cellsL F) j)).1 (cvP F w l (atI (cellsL F) j)).2 (fsC s) = false) : atF F w l B m s o j lk = atF F w l B m s o (j + 1) lk := by
  unfold atF
  rw [drop_at h, lpF, if_neg (by rw [hb]; decide)]
theorem at_over {j : Nat} (h : j < (cellsL F).length) (hb : hasB (cvP F w l (atI (cellsL F) j)).1 (cvP F w l (atI (cellsL F) j)).2 (fsC s) = true) (hk : lk = B) : atF F w l B m s o j lk = ⟨none, true, lk⟩ := by
  unfold atF
  rw [drop_at h, lpF, if_pos hb, if_pos hk]
theorem at_ret {j : Nat} (h : j < (cellsL F).length) (hb : hasB (cvP F w l (atI (cellsL F) j)).1 (cvP F w l (atI (cellsL F) j)).2 (fsC s) = true) (hk : lk ≠ B) (hr : (stF F w l B m s o (atI (cellsL F) j) (lk + 1)).fd.isSome = true ∨ (stF F w l B m s o (atI (cellsL F) j) (lk + 1)).ov = true) : atF F w l B m s o j lk = stF F w l B m s o (atI (cellsL F) j) (lk + 1) := by
  unfold atF
  rw [drop_at h, lpF, if_pos hb, if_neg hk, if_pos hr]
theorem at_next {j : Nat} (h : j < (cellsL F).length) (hb : hasB (cvP F w l (atI (cellsL F) j)).1 (cvP F w l (atI (cellsL F) j)).2 (fsC s) = true) (hk : lk ≠ B) (hr : ¬ ((stF F w l B m s o (atI (cellsL F) j) (lk + 1)).fd.isSome = true ∨ (stF F w l B m s o (atI (cellsL F) j) (lk + 1)).ov = true)) : atF F w l B m s o j lk = atF F w l B m s o (j + 1) (stF F w l B m s o (atI (cellsL F) j) (lk + 1)).lk := by
  unfold atF
  rw [drop_at h, lpF, if_pos hb, if_neg hk, if_neg hr]
/-- The cells below n: how many there are. -/
def cpN (F : Fld) (n : Nat) : Nat := (cellsN F n).length
theorem cpN_0 : cpN F 0 = 0 := by unfold cpN; rw [cellsN_0]; rfl
theorem cpN_t (h : isB F (n : Int) = true) : cpN F (n + 1) = cpN F n + 1 := by unfold cpN; rw [cellsN_1 h, List.length_append]; rfl
theorem cpN_f (h : isB F (n : Int) = false) : cpN F (n + 1) = cpN F n := by unfold cpN; rw [cellsN_2 h]
theorem cells_pre : ∀ m, n ≤ m → ∃ E, cellsN F m = cellsN F n ++ E
  | 0, h => ⟨[], by rw [show n = 0 by omega]; simp⟩
  | m + 1, h => by
    by_cases hm : n ≤ m
    · obtain ⟨E, hE⟩ := cells_pre m hm
      cases hb : isB F (m : Int) with
      | true => exact ⟨E ++ [(m : Int)], by rw [cellsN_1 hb, hE, List.append_assoc]⟩
      | false => exact ⟨E, by rw [cellsN_2 hb, hE]⟩
    · exact ⟨[], by rw [show n = m + 1 by omega]; simp⟩
/-- The cell that the numbers below n lead to. -/
theorem cpN_at (hn : n < 100) (h : isB F (n : Int) = true) : cpN F n < (cellsL F).length ∧ atI (cellsL F) (cpN F n) = (n : Int) := by
  obtain ⟨E, hE⟩ := cells_pre (F := F) (n := n + 1) 100 (by omega)
  have e : cellsL F = cellsN F n ++ ((n : Int) :: E) := by
    rw [show cellsL F = cellsN F 100 by unfold cellsL; rfl, hE, cellsN_1 h, List.append_assoc]; rfl
  unfold cpN
  rw [e]
  refine ⟨by simp, ?_⟩
  unfold atI
  simp [List.getD]
theorem cpN_end : cpN F 100 = (cellsL F).length := by unfold cpN cellsL; rfl
theorem cv_no (hs : okP s) (h : isB F k = false) (d : Nat) : hasB (cvP F w l k).1 (cvP F w l k).2 (d : Int) = false := by
  rw [cvP_f (plB_out h)]
  exact hasB_0 d
theorem fsC_nat (h : eq2 s.1 s.2 0 0 = false) (hs : okP s) : ∃ d : Nat, d < 100 ∧ fsC s = (d : Int) := by
  have h0 := cn_0 hs
  rw [h] at h0
  have h1 : 0 < (listL s.1 s.2).length := by
    cases hd : decide (0 < ((listL s.1 s.2).length : Int)) with
    | true => have := of_decide_eq_true hd; omega
    | false => rw [hd] at h0; exact absurd h0 (by decide)
  have h2 := listL_in (x := s.1) (y := s.2) (j := 0) h1
  unfold fsC
  rw [if_neg (by omega)]
  exact ⟨(atI (listL s.1 s.2) 0).toNat, by omega, by omega⟩
/-- The number below which none is in a set: the first one. -/
theorem fsC_first (hn : n < 100) (h1 : ∀ j, j < n → hasB s.1 s.2 (j : Int) = false) (h2 : hasB s.1 s.2 (n : Int) = true) : fsC s = (n : Int) := by
  have e : listN s.1 s.2 n = [] := by
    unfold listN
    have : ∀ m, m ≤ n → pickL (fun i => hasB s.1 s.2 (i : Int)) m = [] := by
      intro m
      induction m with
      | zero => intro _; rfl
      | succ m ih => intro hm; rw [pickL_2 (h1 m (by omega)), ih (by omega)]
    exact this n (Nat.le_refl _)
  have e1 : ∀ m, n + 1 ≤ m → ∃ E, listN s.1 s.2 m = (n : Int) :: E := by
    intro m
    induction m with
    | zero => intro h; omega
    | succ m ih =>
      intro h
      by_cases hm : n + 1 ≤ m
      · obtain ⟨E, hE⟩ := ih hm
        cases hb : hasB s.1 s.2 (m : Int) with
        | true => exact ⟨E ++ [(m : Int)], by rw [listN_1 hb, hE]; rfl⟩
        | false => exact ⟨E, by rw [listN_2 hb, hE]⟩
      · rw [show m = n by omega, listN_1 h2, e]
        exact ⟨[], rfl⟩
  obtain ⟨E, hE⟩ := e1 100 (by omega)
  have hL : listL s.1 s.2 = (n : Int) :: E := by unfold listL; exact hE
  unfold fsC
  rw [hL, if_neg (by simp)]
  unfold atI
  simp [List.getD]
theorem fsC_none (hs : okP s) (h : ∀ j : Nat, j < 100 → hasB s.1 s.2 (j : Int) = false) : eq2 s.1 s.2 0 0 = true := eq2_0.2 ((empty_iff hs.1 hs.2).2 h)
theorem fsC_some (hs : okP s) {n : Nat} (hn : n < 100) (h : hasB s.1 s.2 (n : Int) = true) : eq2 s.1 s.2 0 0 = false := by
  cases he : eq2 s.1 s.2 0 0 with
  | false => rfl
  | true =>
    have := (empty_iff hs.1 hs.2).1 (eq2_0.1 he) n hn
    rw [h] at this
    exact absurd this (by decide)
theorem nt_f {b : Bool} (h : (!b) = true) : b = false := by cases b <;> simp_all
theorem nt_t {b : Bool} (h : (!b) = false) : b = true := by cases b <;> simp_all
theorem nn_t {b : Bool} (h : (!!b) = true) : (!b) = false := by cases b <;> simp_all
theorem ov_t {r : FwR} (h : (!!r.ov) = true) : r.ov = true := by simpa using h
theorem ov_f {r : FwR} (h : (!!r.ov) = false) : r.ov = false := by simpa using h
theorem no_or {r : FwR} (h : r.fd.isSome = false) (h2 : r.ov = false) : ¬ (r.fd.isSome = true ∨ r.ov = true) := by rw [h, h2]; simp
theorem lk_up (h : lk ≤ B) (h2 : ¬ lk = B) : lk + 1 ≤ B := by omega
theorem lk_nn (h : 0 ≤ lk) : 0 ≤ lk + 1 := by omega
theorem nat_lt {j n : Nat} (h : (j : Int) < (n : Int)) : j < n := by omega
theorem nat_le {j n : Nat} (h : ¬ (j : Int) < (n : Int)) : n ≤ j := by omega
theorem seek_len (hf : (seekF F w l B m s o lk).fd.isSome = true) : ∀ Q, (seekF F w l B m s o lk).fd = some Q → Q.length ≤ o.length + m := by
  have hl : ∀ (c : Int) (f : Int → Int → FwR) (b : Nat), (∀ k lk Q, (f k lk).fd = some Q → Q.length ≤ b) → ∀ L lk Q, (lpF F w l B f c L lk).fd = some Q → Q.length ≤ b := by
    intro c f b hfb L
    induction L with
    | nil => intro lk Q h; simp [lpF] at h
    | cons k r ih =>
      intro lk Q h
      rw [lpF] at h
      split at h
      · split at h
        · simp at h
        · split at h
          · exact hfb _ _ _ h
          · exact ih _ _ h
      · exact ih _ _ h
  clear hf
  revert s o lk
  induction m with
  | zero =>
    intro lk s o Q h
    unfold seekF at h
    split at h
    · simp at h; rw [← h]; omega
    · simp at h
  | succ m ih =>
    intro lk s o Q h
    unfold seekF at h
    split at h
    · simp at h; rw [← h]; omega
    · have := hl _ _ (o.length + 1 + m) (fun k lk Q h => by have := ih Q h; rw [List.length_append, List.length_singleton] at this; exact this) _ _ _ h
      omega
theorem seek_lk (h0 : 0 ≤ lk) (h : lk ≤ B) : 0 ≤ (seekF F w l B m s o lk).lk ∧ (seekF F w l B m s o lk).lk ≤ B := by
  have hl : ∀ (c : Int) (f : Int → Int → FwR), (∀ k lk, 0 ≤ lk → lk ≤ B → 0 ≤ (f k lk).lk ∧ (f k lk).lk ≤ B) → ∀ L lk, 0 ≤ lk → lk ≤ B → 0 ≤ (lpF F w l B f c L lk).lk ∧ (lpF F w l B f c L lk).lk ≤ B := by
    intro c f hfb L
    induction L with
    | nil => intro lk h h2; exact ⟨h, h2⟩
    | cons k r ih =>
      intro lk h h2
      rw [lpF]
      split
      · split
        · exact ⟨h, h2⟩
        · next hne =>
          have h3 := hfb k (lk + 1) (by omega) (by omega)
          split
          · exact h3
          · exact ih _ h3.1 h3.2
      · exact ih _ h h2
  revert s o lk
  induction m with
  | zero =>
    intro lk s o h0 h
    unfold seekF
    split <;> exact ⟨h0, h⟩
  | succ m ih =>
    intro lk s o h0 h
    unfold seekF
    split
    · exact ⟨h0, h⟩
    · exact hl _ _ (fun k lk h1 h2 => ih h1 h2) _ _ h0 h
end
end Go.Proofs.Ytldlaohefgianaa
