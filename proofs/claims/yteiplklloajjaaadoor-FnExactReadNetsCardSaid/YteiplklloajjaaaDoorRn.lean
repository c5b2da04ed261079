/-
  What the readers of texts ask for: words of nets. No conditions.
-/
import Derived.Test.YteiplklloajjaaaDoorRd
namespace Go.Proofs.YteiplklloajjaaaDoor
open Go.RowKit
set_option linter.unusedSimpArgs false
set_option linter.unusedVariables false

--# two
/-- Two numbers of at most 10 with c between them. -/
def twO (c : UInt8) (l : List UInt8) : Bool := decide ((cutL c l).length = 2) && (numO (atL (cutL c l) 0) && (numO (atL (cutL c l) 1) && (decide (numV (atL (cutL c l) 0) ≤ 10) && decide (numV (atL (cutL c l) 1) ≤ 10))))
def twA (c : UInt8) (l : List UInt8) : Int := if twO c l = true then numV (atL (cutL c l) 0) else 0
def twB (c : UInt8) (l : List UInt8) : Int := if twO c l = true then numV (atL (cutL c l) 1) else 0
section
variable {c : UInt8} {l : List UInt8}
theorem tw_1 (h : ¬ ((cutL c l).length : Int) = 2) : twO c l = false := by unfold twO; rw [decide_eq_false (by omega)]; rfl
theorem tw_2 (h : numO (atL (cutL c l) 0) = false) : twO c l = false := by unfold twO; rw [h]; simp
theorem tw_3 (h : numO (atL (cutL c l) 1) = false) : twO c l = false := by unfold twO; rw [h]; simp
theorem tw_4 (h : 10 < numV (atL (cutL c l) 0)) : twO c l = false := by unfold twO; rw [decide_eq_false (p := numV (atL (cutL c l) 0) ≤ 10) (by omega)]; simp
theorem tw_5 (h : 10 < numV (atL (cutL c l) 1)) : twO c l = false := by unfold twO; rw [decide_eq_false (p := numV (atL (cutL c l) 1) ≤ 10) (by omega)]; simp
theorem tw_t (h1 : ((cutL c l).length : Int) = 2) (h2 : numO (atL (cutL c l) 0) = true) (h3 : numO (atL (cutL c l) 1) = true) (h4 : numV (atL (cutL c l) 0) ≤ 10) (h5 : numV (atL (cutL c l) 1) ≤ 10) : twO c l = true := by
  unfold twO
  rw [decide_eq_true (p := (cutL c l).length = 2) (by omega), h2, h3, decide_eq_true h4, decide_eq_true h5]
  rfl
theorem tw_f (h : twO c l = false) : 0 = twA c l ∧ 0 = twB c l ∧ false = twO c l := by
  unfold twA twB
  rw [h]
  exact ⟨rfl, rfl, rfl⟩
theorem tw_y (h : twO c l = true) : numV (atL (cutL c l) 0) = twA c l ∧ numV (atL (cutL c l) 1) = twB c l ∧ true = twO c l := by
  unfold twA twB
  rw [h]
  exact ⟨rfl, rfl, rfl⟩
theorem tw_in : 0 ≤ twA c l ∧ twA c l ≤ 10 ∧ 0 ≤ twB c l ∧ twB c l ≤ 10 := by
  cases h : twO c l with
  | false => have := tw_f h; omega
  | true =>
    have h1 := tw_y h
    have h2 := numV_in (atL (cutL c l) 0)
    have h3 := numV_in (atL (cutL c l) 1)
    unfold twO at h
    simp only [Bool.and_eq_true, decide_eq_true_eq] at h
    omega
theorem tw_cu (h : twO c l = true) : (cutL c l).length = 2 ∧ numO (cu1 c l) = true ∧ numO (cu2 c l) = true ∧ twA c l = numV (cu1 c l) ∧ twB c l = numV (cu2 c l) := by
  have h1 := tw_y h
  unfold twO at h
  simp only [Bool.and_eq_true, decide_eq_true_eq] at h
  obtain ⟨h2, h3, h4, _, _⟩ := h
  have e := two0 h2
  rw [e.1] at h3 h1
  rw [e.2] at h4 h1
  exact ⟨h2, h3, h4, h1.1.symm, h1.2.1.symm⟩
theorem tw_pr (hc : c.toNat < 48 ∨ 57 < c.toNat) (h1 : numO (cu1 c l) = true) (h2 : numO (cu2 c l) = true) (h3 : numV (cu1 c l) ≤ 10) (h4 : numV (cu2 c l) ≤ 10) : twO c l = true := by
  have hm : (cutL c l).length = 2 := two_len (cu2_in (numO_ne h2)) (dig_no h2 hc)
  have e := two0 hm
  exact tw_t (by omega) (by rw [e.1]; exact h1) (by rw [e.2]; exact h2) (by rw [e.1]; exact h3) (by rw [e.2]; exact h4)
end

--# nets
def ntW (w : List UInt8) : Bool := parO (cu1 44 (cu1 58 w)) 0 9 && (parO (cu2 44 (cu1 58 w)) 0 9 && (parO (cu1 120 (cu2 58 w)) 1 10 && parO (cu2 120 (cu2 58 w)) 1 10))
def ntR (w : List UInt8) (j : Nat) : Int := if j = 0 then numV (cu1 44 (cu1 58 w)) else if j = 1 then numV (cu2 44 (cu1 58 w)) else if j = 2 then numV (cu1 120 (cu2 58 w)) else numV (cu2 120 (cu2 58 w))
def ntF (l : List UInt8) : Nat → Nat → Int := fun i => ntR (atL (cutL 32 l) i)
section
variable {w : List UInt8}
theorem ntW_1 (h : parO (cu1 44 (cu1 58 w)) 0 9 = false) : ntW w = false := by unfold ntW; rw [h]; rfl
theorem ntW_2 (h : parO (cu2 44 (cu1 58 w)) 0 9 = false) : ntW w = false := by unfold ntW; rw [h]; simp
theorem ntW_3 (h : parO (cu1 120 (cu2 58 w)) 1 10 = false) : ntW w = false := by unfold ntW; rw [h]; simp
theorem ntW_4 (h : parO (cu2 120 (cu2 58 w)) 1 10 = false) : ntW w = false := by unfold ntW; rw [h]; simp
theorem ntW_t (h1 : parO (cu1 44 (cu1 58 w)) 0 9 = true) (h2 : parO (cu2 44 (cu1 58 w)) 0 9 = true) (h3 : parO (cu1 120 (cu2 58 w)) 1 10 = true) (h4 : parO (cu2 120 (cu2 58 w)) 1 10 = true) : ntW w = true := by unfold ntW; rw [h1, h2, h3, h4]; rfl
end
theorem ntF_row {l : List UInt8} {i : Nat} {a b c d : Int} (h1 : a = numV (cu1 44 (cu1 58 (atL (cutL 32 l) i)))) (h2 : b = numV (cu2 44 (cu1 58 (atL (cutL 32 l) i)))) (h3 : c = numV (cu1 120 (cu2 58 (atL (cutL 32 l) i)))) (h4 : d = numV (cu2 120 (cu2 58 (atL (cutL 32 l) i)))) :
    (rowL [.i8, .i8, .i8, .i8] (ntF l i)).toArray = #[.int .i8 a, .int .i8 b, .int .i8 c, .int .i8 d] := by rw [h1, h2, h3, h4]; rfl
/-- The reference's words, and its check behind them. -/
def nvW (w : List UInt8) : Bool := decide ((cutL 58 w).length = 2) && (twO 44 (atL (cutL 58 w) 0) && twO 120 (atL (cutL 58 w) 1))
def nvR (w : List UInt8) (j : Nat) : Int := if j = 0 then twA 44 (atL (cutL 58 w) 0) else if j = 1 then twB 44 (atL (cutL 58 w) 0) else if j = 2 then twA 120 (atL (cutL 58 w) 1) else twB 120 (atL (cutL 58 w) 1)
def nvF (l : List UInt8) : Nat → Nat → Int := fun i => nvR (atL (cutL 32 l) i)
def plR (h : Nat → Int) : Bool := inB (h 0) 0 9 && (inB (h 1) 0 9 && (inB (h 2) 1 10 && inB (h 3) 1 10))
def plN (n : Nat) (f : Nat → Nat → Int) : Bool := (List.range n).all (fun i => plR (f i)) && decide ((n : Int) ≤ 20)
section
variable {w : List UInt8}
theorem nvW_1 (h : ¬ ((cutL 58 w).length : Int) = 2) : nvW w = false := by unfold nvW; rw [decide_eq_false (by omega)]; rfl
theorem nvW_2 (h : twO 44 (atL (cutL 58 w) 0) = false) : nvW w = false := by unfold nvW; rw [h]; simp
theorem nvW_3 (h : twO 120 (atL (cutL 58 w) 1) = false) : nvW w = false := by unfold nvW; rw [h]; simp
theorem nvW_t (h1 : ((cutL 58 w).length : Int) = 2) (h2 : twO 44 (atL (cutL 58 w) 0) = true) (h3 : twO 120 (atL (cutL 58 w) 1) = true) : nvW w = true := by unfold nvW; rw [decide_eq_true (p := (cutL 58 w).length = 2) (by omega), h2, h3]; rfl
end
theorem nvF_row {l : List UInt8} {i : Nat} : (rowL [.i8, .i8, .i8, .i8] (nvF l i)).toArray = #[.int .i8 (twA 44 (atL (cutL 58 (atL (cutL 32 l) i)) 0)), .int .i8 (twB 44 (atL (cutL 58 (atL (cutL 32 l) i)) 0)), .int .i8 (twA 120 (atL (cutL 58 (atL (cutL 32 l) i)) 1)), .int .i8 (twB 120 (atL (cutL 58 (atL (cutL 32 l) i)) 1))] := rfl
section
variable {n : Nat} {f : Nat → Nat → Int} {i : Nat}
theorem plN_f (hi : i < n) (h : plR (f i) = false) : plN n f = false := by
  unfold plN
  rw [Bool.and_eq_false_iff]
  left
  cases hh : (List.range n).all (fun i => plR (f i)) with
  | false => rfl
  | true =>
    have := List.all_eq_true.1 hh i (List.mem_range.2 hi)
    simp only [h] at this
    cases this
theorem plN_e (h : ∀ j, j < n → plR (f j) = true) : plN n f = decide ((n : Int) ≤ 20) := by
  unfold plN
  rw [List.all_eq_true.2 (fun i hi => h i (List.mem_range.1 hi)), Bool.true_and]
theorem plR_1 {h : Nat → Int} (e : inB (h 0) 0 9 = false) : plR h = false := by unfold plR; rw [e]; rfl
theorem plR_2 {h : Nat → Int} (e : inB (h 1) 0 9 = false) : plR h = false := by unfold plR; rw [e]; simp
theorem plR_3 {h : Nat → Int} (e : inB (h 2) 1 10 = false) : plR h = false := by unfold plR; rw [e]; simp
theorem plR_4 {h : Nat → Int} (e : inB (h 3) 1 10 = false) : plR h = false := by unfold plR; rw [e]; simp
theorem plR_t {h : Nat → Int} (e1 : inB (h 0) 0 9 = true) (e2 : inB (h 1) 0 9 = true) (e3 : inB (h 2) 1 10 = true) (e4 : inB (h 3) 1 10 = true) : plR h = true := by unfold plR; rw [e1, e2, e3, e4]; rfl
end
theorem nv_cu {w : List UInt8} (h : nvW w = true) : atL (cutL 58 w) 0 = cu1 58 w ∧ atL (cutL 58 w) 1 = cu2 58 w ∧ twO 44 (cu1 58 w) = true ∧ twO 120 (cu2 58 w) = true := by
  unfold nvW at h
  simp only [Bool.and_eq_true, decide_eq_true_eq] at h
  have e := two0 h.1
  rw [e.1, e.2] at h
  exact ⟨e.1, e.2, h.2.1, h.2.2⟩
theorem nt_eq {w : List UInt8} : ntW w = (nvW w && plR (nvR w)) := by
  cases hv : nvW w with
  | true =>
    obtain ⟨e1, e2, h1, h2⟩ := nv_cu hv
    have q1 := tw_cu h1
    have q2 := tw_cu h2
    unfold ntW plR nvR parO
    rw [q1.2.1, q1.2.2.1, q2.2.1, q2.2.2.1, e1, e2, q1.2.2.2.1, q1.2.2.2.2, q2.2.2.2.1, q2.2.2.2.2]
    simp
  | false =>
    cases hc : ntW w with
    | false => rfl
    | true =>
      exfalso
      unfold ntW at hc
      simp only [Bool.and_eq_true] at hc
      obtain ⟨p1, p2, p3, p4⟩ := hc
      have q1 := parO_num p1
      have q2 := parO_num p2
      have q3 := parO_num p3
      have q4 := parO_num p4
      have t1 := tw_pr (c := 44) (.inl (by decide)) q1.1 q2.1 (by omega) (by omega)
      have t2 := tw_pr (c := 120) (.inr (by decide)) q3.1 q4.1 (by omega) (by omega)
      have n58 : (58 : UInt8) ∉ cu2 58 w := cu_mem (by decide) (dig_no q3.1 (.inr (by decide))) (dig_no q4.1 (.inr (by decide)))
      have hne : cu2 58 w ≠ [] := fun e => by
        have := cu2_in (numO_ne q4.1)
        rw [e] at this
        cases this
      have m1 : (cutL 58 w).length = 2 := two_len (cu2_in hne) n58
      have e := two0 m1
      rw [nvW_t (by omega) (by rw [e.1]; exact t1) (by rw [e.2]; exact t2)] at hv
      cases hv
theorem nvF_in (l : List UInt8) {n : Nat} : ∀ a c, a < n → c < 4 → 0 ≤ nvF l a c ∧ nvF l a c ≤ 10 := by
  intro a c _ hc
  have h1 := tw_in (c := 44) (l := atL (cutL 58 (atL (cutL 32 l) a)) 0)
  have h2 := tw_in (c := 120) (l := atL (cutL 58 (atL (cutL 32 l) a)) 1)
  unfold nvF nvR
  rcases (by omega : c = 0 ∨ c = 1 ∨ c = 2 ∨ c = 3) with rfl | rfl | rfl | rfl
  · exact ⟨h1.1, h1.2.1⟩
  · exact ⟨h1.2.2.1, h1.2.2.2⟩
  · exact ⟨h2.1, h2.2.1⟩
  · exact ⟨h2.2.2.1, h2.2.2.2⟩
/-- Whether the reference reads a text of nets. -/
def nsO (l : List UInt8) : Bool := decide (l = []) || ((cutL 32 l).all nvW && plN (cutL 32 l).length (nvF l))
theorem nsO_nil {l : List UInt8} (h : l = []) : nsO l = true := by unfold nsO; rw [decide_eq_true h]; rfl
theorem nsO_bad {l : List UInt8} {i : Nat} (h : ¬ l = []) (hi : i < (cutL 32 l).length) (hw : nvW (atL (cutL 32 l) i) = false) : nsO l = false := by
  unfold nsO
  rw [decide_eq_false h, all_f hi hw]; rfl
theorem nsO_pl {l : List UInt8} {n : Nat} (h : ¬ l = []) (en : n = (cutL 32 l).length) (hw : plN n (nvF l) = false) : nsO l = false := by
  subst en
  unfold nsO
  rw [decide_eq_false h, hw, Bool.and_false]; rfl
theorem nsO_t {l : List UInt8} (h : ¬ l = []) (hw : ∀ j, j < (cutL 32 l).length → nvW (atL (cutL 32 l) j) = true) (hp : plN (cutL 32 l).length (nvF l) = true) : nsO l = true := by
  unfold nsO
  rw [decide_eq_false h, atL_map.2 hw, hp]; rfl
theorem ns_all (l : List UInt8) : nsO l = rdO 20 ntW l := by
  unfold nsO rdO
  by_cases hl : l = []
  · rw [decide_eq_true hl]; rfl
  · rw [decide_eq_false hl, Bool.false_or, Bool.false_or]
    unfold plN
    rw [show decide (((cutL 32 l).length : Int) ≤ 20) = decide ((cutL 32 l).length ≤ 20) from decide_eq_decide.2 (by omega)]
    cases hn : decide ((cutL 32 l).length ≤ 20) with
    | false => simp
    | true =>
      rw [Bool.and_true, Bool.true_and]
      apply Bool.eq_iff_iff.2
      rw [Bool.and_eq_true, atL_map, atL_map, List.all_eq_true]
      constructor
      · rintro ⟨h1, h2⟩ i hi
        rw [nt_eq, h1 i hi, Bool.true_and]
        exact h2 i (List.mem_range.2 hi)
      · intro h
        refine ⟨fun i hi => ?_, fun i hi => ?_⟩
        · have := h i hi
          rw [nt_eq, Bool.and_eq_true] at this
          exact this.1
        · have := h i (List.mem_range.1 hi)
          rw [nt_eq, Bool.and_eq_true] at this
          exact this.2
theorem ns_rows {l : List UInt8} (h : rdO 20 ntW l = true) : ∀ i j, i < rdN l → j < 4 → nvF l i j = ntF l i j := by
  intro i j hi hj
  unfold rdO at h
  unfold rdN at hi
  by_cases hl : l = []
  · rw [if_pos hl] at hi; omega
  · rw [if_neg hl] at hi
    rw [decide_eq_false hl] at h
    simp only [Bool.false_or, Bool.and_eq_true] at h
    have hw := atL_map.1 h.2 i hi
    rw [nt_eq, Bool.and_eq_true] at hw
    obtain ⟨e1, e2, h1, h2⟩ := nv_cu hw.1
    have q1 := tw_cu h1
    have q2 := tw_cu h2
    unfold nvF nvR ntF ntR
    rw [e1, e2, q1.2.2.2.1, q1.2.2.2.2, q2.2.2.2.1, q2.2.2.2.2]
end Go.Proofs.YteiplklloajjaaaDoor
