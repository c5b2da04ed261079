/-
  What the readers of texts ask for: words of flocks. No conditions.
-/
import Derived.Test.YteiplklloajjaaaDoorRd
namespace Go.Proofs.YteiplklloajjaaaDoor
open Go.RowKit
set_option linter.unusedSimpArgs false
set_option linter.unusedVariables false

--# six
def listF6 (a b c d e f : Int) : Nat → Int := fun i => match i with | 0 => a | 1 => b | 2 => c | 3 => d | 4 => e | _ => f
theorem arr6 (k : IntKind) (a b c d e f : Int) : (#[.int k a, .int k b, .int k c, .int k d, .int k e, .int k f] : Array Value) = arr 6 k (listF6 a b c d e f) := by
  refine Array.ext (by simp [size_arr]) (fun i h1 h2 => ?_)
  have : i < 6 := by simpa using h1
  rcases (by omega : i = 0 ∨ i = 1 ∨ i = 2 ∨ i = 3 ∨ i = 4 ∨ i = 5) with rfl | rfl | rfl | rfl | rfl | rfl <;> simp [arr, listF6]
abbrev flM : Nat → Int := listF6 99 200 20 1000 200 2
theorem flM_in (k : Nat) : 0 ≤ listF6 99 200 20 1000 200 2 k ∧ listF6 99 200 20 1000 200 2 k ≤ 1000 := by
  unfold listF6
  split <;> decide

--# words
/-- The parts of a word, and its test by the program and by the reference. -/
def fkL (w : List UInt8) : List (List UInt8) := cutL 47 w
def flW (w : List UInt8) : Bool := decide ((cutL 47 w).length = 6) && (List.range 6).all (fun k => parO (atL (cutL 47 w) k) 0 (flM k))
def fvW (w : List UInt8) : Bool := decide ((cutL 47 w).length = 6) && ((List.range 6).all (fun k => numO (atL (cutL 47 w) k) && decide (numV (atL (cutL 47 w) k) ≤ 1000)) && decide (numV (atL (cutL 47 w) 5) ≤ 2))
def flR (w : List UInt8) (j : Nat) : Int := numV (atL (cutL 47 w) j)
def flF (l : List UInt8) : Nat → Nat → Int := fun i => flR (atL (cutL 32 l) i)
section
variable {w : List UInt8} {k : Nat}
theorem flW_1 (h : ¬ ((cutL 47 w).length : Int) = 6) : flW w = false := by unfold flW; rw [decide_eq_false (by omega)]; rfl
theorem flW_2 (hk : k < 6) (h : parO (atL (cutL 47 w) k) 0 (listF6 99 200 20 1000 200 2 k) = false) : flW w = false := by
  unfold flW
  rw [Bool.and_eq_false_iff]
  right
  cases hh : (List.range 6).all (fun k => parO (atL (cutL 47 w) k) 0 (flM k)) with
  | false => rfl
  | true =>
    have := List.all_eq_true.1 hh k (List.mem_range.2 hk)
    rw [← this, ← h]
theorem flW_t (h1 : ((cutL 47 w).length : Int) = 6) (h : ∀ j, j < 6 → parO (atL (cutL 47 w) j) 0 (listF6 99 200 20 1000 200 2 j) = true) : flW w = true := by
  unfold flW
  rw [decide_eq_true (by omega), List.all_eq_true.2 (fun j hj => h j (List.mem_range.1 hj))]; rfl
theorem fvW_1 (h : ¬ ((cutL 47 w).length : Int) = 6) : fvW w = false := by unfold fvW; rw [decide_eq_false (by omega)]; rfl
theorem fvW_n (hk : k < 6) (h : (numO (atL (cutL 47 w) k) && decide (numV (atL (cutL 47 w) k) ≤ 1000)) = false) : fvW w = false := by
  unfold fvW
  rw [Bool.and_eq_false_iff]
  right
  rw [Bool.and_eq_false_iff]
  left
  cases hh : (List.range 6).all (fun k => numO (atL (cutL 47 w) k) && decide (numV (atL (cutL 47 w) k) ≤ 1000)) with
  | false => rfl
  | true =>
    have := List.all_eq_true.1 hh k (List.mem_range.2 hk)
    rw [← this, ← h]
theorem fvW_2 (hk : k < 6) (h : numO (atL (cutL 47 w) k) = false) : fvW w = false := fvW_n hk (by rw [h]; rfl)
theorem fvW_3 (hk : k < 6) (h : 1000 < numV (atL (cutL 47 w) k)) : fvW w = false := fvW_n hk (by rw [decide_eq_false (by omega), Bool.and_false])
theorem fvW_4 (h : 2 < numV (atL (cutL 47 w) 5)) : fvW w = false := by
  unfold fvW
  rw [decide_eq_false (p := numV (atL (cutL 47 w) 5) ≤ 2) (by omega), Bool.and_false, Bool.and_false]
theorem fvW_t (h1 : ((cutL 47 w).length : Int) = 6) (h : ∀ j, j < 6 → numO (atL (cutL 47 w) j) = true ∧ numV (atL (cutL 47 w) j) ≤ 1000) (h2 : numV (atL (cutL 47 w) 5) ≤ 2) : fvW w = true := by
  unfold fvW
  rw [decide_eq_true (by omega), decide_eq_true h2, List.all_eq_true.2 (fun j hj => by rw [(h j (List.mem_range.1 hj)).1, decide_eq_true (h j (List.mem_range.1 hj)).2]; rfl)]; rfl
end
theorem fl_b {x m : Int} {l : List UInt8} (h : x = numV l ∧ parO l 0 m = true) : 0 ≤ x ∧ x ≤ m := by
  have := parO_num h.2
  omega
theorem flF_row {l : List UInt8} {i : Nat} {a b c d e f : Int} (h0 : a = numV (atL (cutL 47 (atL (cutL 32 l) i)) 0)) (h1 : b = numV (atL (cutL 47 (atL (cutL 32 l) i)) 1)) (h2 : c = numV (atL (cutL 47 (atL (cutL 32 l) i)) 2)) (h3 : d = numV (atL (cutL 47 (atL (cutL 32 l) i)) 3)) (h4 : e = numV (atL (cutL 47 (atL (cutL 32 l) i)) 4)) (h5 : f = numV (atL (cutL 47 (atL (cutL 32 l) i)) 5)) :
    (rowL [.i16, .i16, .i16, .i16, .i16, .i8] (flF l i)).toArray = #[.int .i16 a, .int .i16 b, .int .i16 c, .int .i16 d, .int .i16 e, .int .i8 f] := by rw [h0, h1, h2, h3, h4, h5]; rfl
theorem flF_in (l : List UInt8) {n : Nat} : ∀ a c, a < n → c < 6 → 0 ≤ flF l a c ∧ flF l a c ≤ 999999999 := fun a c _ _ => numV_in _

--# told
def fkR (h : Nat → Int) : Bool := inB (h 1) 0 200 && (inB (h 2) 0 20 && (inB (h 3) 0 1000 && (inB (h 4) 0 200 && inB (h 5) 0 2)))
def fkP (h : Nat → Int) : Bool := fkR h && inB (h 0) 0 99
def fkN (n : Nat) (f : Nat → Nat → Int) : Bool := (List.range n).all (fun i => fkP (f i)) && decide ((n : Int) ≤ 12)
section
variable {n : Nat} {f : Nat → Nat → Int} {i : Nat} {h : Nat → Int}
theorem fkR_1 (e : inB (h 1) 0 200 = false) : fkR h = false := by unfold fkR; rw [e]; rfl
theorem fkR_2 (e : inB (h 2) 0 20 = false) : fkR h = false := by unfold fkR; rw [e]; simp
theorem fkR_3 (e : inB (h 3) 0 1000 = false) : fkR h = false := by unfold fkR; rw [e]; simp
theorem fkR_4 (e : inB (h 4) 0 200 = false) : fkR h = false := by unfold fkR; rw [e]; simp
theorem fkR_5 (e1 : inB (h 1) 0 200 = true) (e2 : inB (h 2) 0 20 = true) (e3 : inB (h 3) 0 1000 = true) (e4 : inB (h 4) 0 200 = true) : fkR h = inB (h 5) 0 2 := by unfold fkR; rw [e1, e2, e3, e4]; rfl
theorem fkN_f (hi : i < n) (h : fkP (f i) = false) : fkN n f = false := by
  unfold fkN
  rw [Bool.and_eq_false_iff]
  left
  cases hh : (List.range n).all (fun i => fkP (f i)) with
  | false => rfl
  | true =>
    have := List.all_eq_true.1 hh i (List.mem_range.2 hi)
    simp only [h] at this
    cases this
theorem fkP_1 (e : fkR h = false) : fkP h = false := by unfold fkP; rw [e]; rfl
theorem fkP_2 (e : inB (h 0) 0 99 = false) : fkP h = false := by unfold fkP; rw [e, Bool.and_false]
theorem fkP_t (e1 : fkR h = true) (e2 : inB (h 0) 0 99 = true) : fkP h = true := by unfold fkP; rw [e1, e2]; rfl
theorem fkN_e (h : ∀ j, j < n → fkP (f j) = true) : fkN n f = decide ((n : Int) ≤ 12) := by
  unfold fkN
  rw [List.all_eq_true.2 (fun i hi => h i (List.mem_range.1 hi)), Bool.true_and]
end
theorem fl_eq {w : List UInt8} : flW w = (fvW w && fkP (flR w)) := by
  have h0 := numV_in (atL (cutL 47 w) 0)
  have h1 := numV_in (atL (cutL 47 w) 1)
  have h2 := numV_in (atL (cutL 47 w) 2)
  have h3 := numV_in (atL (cutL 47 w) 3)
  have h4 := numV_in (atL (cutL 47 w) 4)
  have h5 := numV_in (atL (cutL 47 w) 5)
  have e : List.range 6 = [0, 1, 2, 3, 4, 5] := by decide
  unfold flW fvW fkP fkR flR
  rw [e]
  apply Bool.eq_iff_iff.2
  simp only [List.all_cons, List.all_nil, parO, inB, listF6, Bool.and_eq_true, decide_eq_true_eq, Bool.and_true]
  constructor
  · intro h; simp only [h, true_and, and_true] <;> omega
  · intro h; simp only [h, true_and, and_true] <;> omega
/-- Whether the reference reads a text of flocks. -/
def fsO (l : List UInt8) : Bool := decide (l = []) || ((cutL 32 l).all fvW && fkN (cutL 32 l).length (flF l))
theorem fsO_nil {l : List UInt8} (h : l = []) : fsO l = true := by unfold fsO; rw [decide_eq_true h]; rfl
theorem fsO_bad {l : List UInt8} {i : Nat} (h : ¬ l = []) (hi : i < (cutL 32 l).length) (hw : fvW (atL (cutL 32 l) i) = false) : fsO l = false := by
  unfold fsO
  rw [decide_eq_false h, all_f hi hw]; rfl
theorem fsO_pl {l : List UInt8} {n : Nat} (h : ¬ l = []) (en : n = (cutL 32 l).length) (hw : fkN n (flF l) = false) : fsO l = false := by
  subst en
  unfold fsO
  rw [decide_eq_false h, hw, Bool.and_false]; rfl
theorem fsO_t {l : List UInt8} (h : ¬ l = []) (hw : ∀ j, j < (cutL 32 l).length → fvW (atL (cutL 32 l) j) = true) (hp : fkN (cutL 32 l).length (flF l) = true) : fsO l = true := by
  unfold fsO
  rw [decide_eq_false h, atL_map.2 hw, hp]; rfl
theorem fs_all (l : List UInt8) : fsO l = rdO 12 flW l := by
  unfold fsO rdO
  by_cases hl : l = []
  · rw [decide_eq_true hl]; rfl
  · rw [decide_eq_false hl, Bool.false_or, Bool.false_or]
    unfold fkN
    rw [show decide (((cutL 32 l).length : Int) ≤ 12) = decide ((cutL 32 l).length ≤ 12) from decide_eq_decide.2 (by omega)]
    cases hn : decide ((cutL 32 l).length ≤ 12) with
    | false => simp
    | true =>
      rw [Bool.and_true, Bool.true_and]
      apply Bool.eq_iff_iff.2
      rw [Bool.and_eq_true, atL_map, atL_map, List.all_eq_true]
      constructor
      · rintro ⟨h1, h2⟩ i hi
        rw [fl_eq, h1 i hi, Bool.true_and]
        exact h2 i (List.mem_range.2 hi)
      · intro h
        refine ⟨fun i hi => ?_, fun i hi => ?_⟩
        · have := h i hi
          rw [fl_eq, Bool.and_eq_true] at this
          exact this.1
        · have := h i (List.mem_range.1 hi)
          rw [fl_eq, Bool.and_eq_true] at this
          exact this.2
end Go.Proofs.YteiplklloajjaaaDoor
