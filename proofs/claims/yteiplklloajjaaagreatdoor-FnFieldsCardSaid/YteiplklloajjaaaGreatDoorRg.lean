/-
  Texts as fields: words put into cells. No conditions.
-/
import Derived.Test.YteiplklloajjaaaGreatDoorRf
namespace Go.Proofs.YteiplklloajjaaaGreatDoor
open Go.RowKit
set_option linter.unusedSimpArgs false
set_option linter.unusedVariables false

--# reading
/-- The line y of a text and its words. -/
def lnW (l : List UInt8) (y : Nat) : List (List UInt8) := cutL 32 (atL (cutL 10 l) y)
/-- A word put into the cell c. -/
def cellW (F : Fld) (c : Nat) (w : List UInt8) : Fld :=
  if w = [104] then { F with k := upd F.k c 1 } else if w = [112] then { F with k := upd F.k c 2 } else if w = [116] then { F with k := upd F.k c 3 } else { F with s := upd F.s c (numV w) }
def rowW (F : Fld) (y : Nat) (ws : List (List UInt8)) : Nat → Fld
  | 0 => F
  | x + 1 => cellW (rowW F y ws x) (((x : Int) + 10 * (y : Int)).toNat) (atL ws x)
def rdF (l : List UInt8) (hh : Nat) : Nat → Fld
  | 0 => fldWH 0 hh
  | y + 1 => rowW { rdF l hh y with w := ((lnW l y).length : Int) } y (lnW l y) (lnW l y).length
/-- Whether a word is one of a field. -/
def wrdO (w : List UInt8) : Bool := decide (w = [104]) || (decide (w = [112]) || (decide (w = [116]) || parO w 0 1000))
def rowO (l : List UInt8) (y : Nat) : Bool := decide (((lnW l y).length : Int) ≤ 10) && (lnW l y).all wrdO
def samO (l : List UInt8) (hh y : Nat) : Bool := decide (y = 0) || decide (((lnW l y).length : Int) = (rdF l hh y).w)
/-- Whether the program reads a text, and the reference. -/
def iO (l : List UInt8) (hh : Nat) : Bool := decide ((l.length : Int) ≤ 600) && (inB (hh : Int) 1 10 && ((List.range hh).all (rowO l) && (okB (rdF l hh hh) && decide (fieldT (rdF l hh hh) = l))))
def sO (l : List UInt8) (hh : Nat) : Bool := decide (atL (cutL 10 l) hh = []) && (inB (hh : Int) 1 10 && ((List.range hh).all (rowO l) && (List.range hh).all (samO l hh)))
def rsF (ok : Bool) (l : List UInt8) (hh : Nat) : Fld := if ok = true then rdF l hh hh else Fld.zero
def rsC (ok : Bool) : Int := if ok = true then 0 else 5
section
variable {F G K : Fld} {c x y hh n : Nat} {l w : List UInt8} {ws : List (List UInt8)}
theorem cw_1 (h : w = [104]) : ({ F with k := upd F.k c 1 } : Fld) = cellW F c w := by unfold cellW; rw [if_pos h]
theorem cw_2 (h : w = [112]) : ({ F with k := upd F.k c 2 } : Fld) = cellW F c w := by unfold cellW; rw [if_neg (by rw [h]; decide), if_pos h]
theorem cw_3 (h : w = [116]) : ({ F with k := upd F.k c 3 } : Fld) = cellW F c w := by unfold cellW; rw [if_neg (by rw [h]; decide), if_neg (by rw [h]; decide), if_pos h]
theorem cw_4 (h1 : ¬ w = [104]) (h2 : ¬ w = [112]) (h3 : ¬ w = [116]) {v : Int} (hv : v = numV w) : ({ F with s := upd F.s c v } : Fld) = cellW F c w := by unfold cellW; rw [if_neg h1, if_neg h2, if_neg h3, hv]
theorem rw_s {K' : Fld} (hK : K = rowW G y ws x) (h : K' = cellW K (((x : Int) + 10 * (y : Int)).toNat) (atL ws x)) : K' = rowW G y ws (x + 1) := by rw [h, hK]; rfl
theorem rd_s (hG : G = rdF l hh y) (hK : K = rowW { G with w := ((lnW l y).length : Int) } y (lnW l y) x) (hx : x = (lnW l y).length) : K = rdF l hh (y + 1) := by rw [hK, hG, hx]; rfl
theorem wf_k (hF : F.wf) {v : Int} (hv : 0 ≤ v ∧ v ≤ 255) : ({ F with k := upd F.k c v } : Fld).wf :=
  ⟨hF.w1, hF.w2, hF.h1, hF.h2, fun i hi => by
    show 0 ≤ upd F.k c v i ∧ upd F.k c v i ≤ 255
    by_cases e : i = c
    · rw [e, upd_self]; exact hv
    · rw [upd_ne _ _ e]; exact hF.k1 i hi, hF.s1⟩
theorem wf_s (hF : F.wf) {v : Int} (hv : -32768 ≤ v ∧ v ≤ 32767) : ({ F with s := upd F.s c v } : Fld).wf :=
  ⟨hF.w1, hF.w2, hF.h1, hF.h2, hF.k1, fun i hi => by
    show -32768 ≤ upd F.s c v i ∧ upd F.s c v i ≤ 32767
    by_cases e : i = c
    · rw [e, upd_self]; exact hv
    · rw [upd_ne _ _ e]; exact hF.s1 i hi⟩
theorem wf_w (hF : F.wf) {v : Int} (hv : -128 ≤ v ∧ v ≤ 127) : ({ F with w := v } : Fld).wf := ⟨hv.1, hv.2, hF.h1, hF.h2, hF.k1, hF.s1⟩
theorem wf_0 {v : Int} (hv : -128 ≤ v ∧ v ≤ 127) : (fldWH 0 v).wf := ⟨(by decide : (-128 : Int) ≤ 0), (by decide : (0 : Int) ≤ 127), hv.1, hv.2, fun _ _ => ⟨(by decide : (0 : Int) ≤ 0), (by decide : (0 : Int) ≤ 255)⟩, fun _ _ => ⟨(by decide : (-32768 : Int) ≤ 0), (by decide : (0 : Int) ≤ 32767)⟩⟩
theorem wo_1 (h : w = [104]) : wrdO w = true := by unfold wrdO; rw [decide_eq_true h]; rfl
theorem wo_2 (h : w = [112]) : wrdO w = true := by unfold wrdO; rw [decide_eq_true h]; simp
theorem wo_3 (h : w = [116]) : wrdO w = true := by unfold wrdO; rw [decide_eq_true h]; simp
theorem wo_4 (h : parO w 0 1000 = true) : wrdO w = true := by unfold wrdO; rw [h]; simp
theorem wo_5 (h : numO w = true) (h2 : numV w ≤ 1000) : wrdO w = true := wo_4 (by
  have := numV_in w
  unfold parO inB
  rw [h, decide_eq_true this.1, decide_eq_true h2]; rfl)
theorem wo_f (h1 : ¬ w = [104]) (h2 : ¬ w = [112]) (h3 : ¬ w = [116]) (h : parO w 0 1000 = false) : wrdO w = false := by unfold wrdO; rw [decide_eq_false h1, decide_eq_false h2, decide_eq_false h3, h]; rfl
theorem wo_g (h1 : ¬ w = [104]) (h2 : ¬ w = [112]) (h3 : ¬ w = [116]) (h : numO w = false ∨ 1000 < numV w) : wrdO w = false := wo_f h1 h2 h3 (by
  unfold parO inB
  rcases h with h | h
  · rw [h]; rfl
  · rw [decide_eq_false (p := numV w ≤ 1000) (by omega)]; simp)
theorem ro_1 (h : 10 < ((lnW l y).length : Int)) : rowO l y = false := by unfold rowO; rw [decide_eq_false (by omega)]; rfl
theorem ro_2 (hx : x < (lnW l y).length) (h : wrdO (atL (lnW l y) x) = false) : rowO l y = false := by unfold rowO; rw [all_f hx h, Bool.and_false]
theorem ro_t (h : ((lnW l y).length : Int) ≤ 10) (hw : ∀ j, j < (lnW l y).length → wrdO (atL (lnW l y) j) = true) : rowO l y = true := by unfold rowO; rw [decide_eq_true h, atL_map.2 hw]; rfl
theorem rng_f {P : Nat → Bool} (hy : y < hh) (h : P y = false) : (List.range hh).all P = false := by
  cases hq : (List.range hh).all P with
  | false => rfl
  | true => rw [List.all_eq_true.1 hq y (List.mem_range.2 hy)] at h; cases h
theorem rng_t {P : Nat → Bool} (h : ∀ j, j < hh → P j = true) : (List.range hh).all P = true := List.all_eq_true.2 fun j hj => h j (List.mem_range.1 hj)
theorem io_1 (h : 600 < (l.length : Int)) : iO l hh = false := by unfold iO; rw [decide_eq_false (by omega)]; rfl
theorem io_2 (h : inB (hh : Int) 1 10 = false) : iO l hh = false := by unfold iO; rw [h]; simp
theorem io_3 (hy : y < hh) (h : rowO l y = false) : iO l hh = false := by unfold iO; rw [rng_f hy h]; simp
theorem io_4 (hG : G = rdF l hh hh) (h : okB G = false) : iO l hh = false := by unfold iO; rw [← hG, h]; simp
theorem io_5 (hG : G = rdF l hh hh) (h : ¬ fieldT G = l) : iO l hh = false := by unfold iO; rw [← hG, decide_eq_false h]; simp
theorem io_t (h1 : ¬ 600 < (l.length : Int)) (h2 : inB (hh : Int) 1 10 = true) (h3 : ∀ j, j < hh → rowO l j = true) (hG : G = rdF l hh hh) (h4 : okB G = true) (h5 : fieldT G = l) : iO l hh = true := by
  unfold iO; rw [decide_eq_true (by omega), h2, rng_t h3, ← hG, h4, decide_eq_true h5]; rfl
theorem so_1 (h : ¬ atL (cutL 10 l) hh = []) : sO l hh = false := by unfold sO; rw [decide_eq_false h]; rfl
theorem so_2 (h : (hh : Int) < 1 ∨ 10 < (hh : Int)) : sO l hh = false := by
  unfold sO
  rw [show inB (hh : Int) 1 10 = false by
    unfold inB
    rcases h with h | h
    · rw [decide_eq_false (p := 1 ≤ (hh : Int)) (by omega)]; rfl
    · rw [decide_eq_false (p := (hh : Int) ≤ 10) (by omega), Bool.and_false]]
  simp
theorem so_3 (hy : y < hh) (h : rowO l y = false) : sO l hh = false := by unfold sO; rw [rng_f hy h]; simp
theorem sm_f (hG : G = rdF l hh y) (hy : 0 < (y : Int)) (h : ¬ ((lnW l y).length : Int) = G.w) : samO l hh y = false := by unfold samO; rw [← hG, decide_eq_false (p := y = 0) (by omega), decide_eq_false h]; rfl
theorem sm_0 (hy : ¬ 0 < (y : Int)) : samO l hh y = true := by unfold samO; rw [decide_eq_true (p := y = 0) (by omega)]; rfl
theorem sm_1 (hG : G = rdF l hh y) (h : ((lnW l y).length : Int) = G.w) : samO l hh y = true := by unfold samO; rw [← hG, decide_eq_true h, Bool.or_true]
theorem so_4 (hy : y < hh) (h : samO l hh y = false) : sO l hh = false := by unfold sO; rw [rng_f hy h]; simp
theorem so_t (h1 : atL (cutL 10 l) hh = []) (h2 : 1 ≤ (hh : Int) ∧ (hh : Int) ≤ 10) (h3 : ∀ j, j < hh → rowO l j = true) (h4 : ∀ j, j < hh → samO l hh j = true) : sO l hh = true := by
  unfold sO
  rw [decide_eq_true h1, rng_t h3, rng_t h4, show inB (hh : Int) 1 10 = true by unfold inB; rw [decide_eq_true h2.1, decide_eq_true h2.2]; rfl]
  rfl
theorem rs_f {ok : Bool} (h : ok = false) : Fld.zero = rsF ok l hh ∧ 5 = rsC ok := by unfold rsF rsC; rw [h]; exact ⟨rfl, rfl⟩
theorem rs_t {ok : Bool} (h : ok = true) (hG : G = rdF l hh hh) : G = rsF ok l hh ∧ 0 = rsC ok := by unfold rsF rsC; rw [h]; exact ⟨hG, rfl⟩
theorem st_j {P : Nat → Bool} (h : ∀ j, j < y → P j = true) (hy : P y = true) : ∀ j, j < y + 1 → P j = true := fun j hj => by
  rcases (by omega : j < y ∨ j = y) with e | e
  · exact h j e
  · rw [e]; exact hy
end
end Go.Proofs.YteiplklloajjaaaGreatDoor
