/-
  Plain laws: fields moved. No conditions.
-/
import Derived.Test.YteiplklloajjaaaGreatDoorMth
namespace Go.Proofs.YteiplklloajjaaaGreatDoor
set_option linter.unusedSimpArgs false
set_option linter.unusedVariables false

--# moved
/-- A cell of a field gets what another field has elsewhere. -/
def mvSt (F : Fld) (q : Int → Int → Int) (G : Fld) (c : Int) : Fld := { G with k := upd G.k c.toNat (F.k (q (c % 10) (c / 10)).toNat), s := upd G.s c.toNat (F.s (q (c % 10) (c / 10)).toNat) }
def mvC (F : Fld) (a b : Int) (q : Int → Int → Int) (n : Nat) : Fld := foldC (fldWH a b) (mvSt F q) (fldWH a b) n
def mvT (F : Fld) (a b : Int) (q : Int → Int → Int) (n : Nat) : Fld := foldT (fldWH a b) (mvSt F q) (fldWH a b) n
section
variable {F : Fld} {a b : Int} {q : Int → Int → Int} {n : Nat} {other : Int}
theorem mvC_0 : mvC F a b q 0 = fldWH a b := by unfold mvC; rw [foldC_0]
theorem mvT_0 : mvT F a b q 0 = fldWH a b := by unfold mvT; rw [foldT_0]
theorem mvC_s (h : isB (fldWH a b) (n : Int) = true) (ho : other = q ((n : Int) % 10) ((n : Int) / 10)) : mvC F a b q (n + 1) = { (mvC F a b q n) with k := upd (mvC F a b q n).k ((n : Int)).toNat (F.k other.toNat), s := upd (mvC F a b q n).s ((n : Int)).toNat (F.s other.toNat) } := by
  subst ho
  unfold mvC
  rw [foldC_1 h]
  rfl
theorem mvC_2 (h : isB (fldWH a b) (n : Int) = false) : mvC F a b q (n + 1) = mvC F a b q n := foldC_2 h
theorem mvT_s (h : n < (cellsL (fldWH a b)).length) : mvT F a b q (n + 1) = { (mvT F a b q n) with k := upd (mvT F a b q n).k (atI (cellsL (fldWH a b)) n).toNat (F.k (q (atI (cellsL (fldWH a b)) n % 10) (atI (cellsL (fldWH a b)) n / 10)).toNat), s := upd (mvT F a b q n).s (atI (cellsL (fldWH a b)) n).toNat (F.s (q (atI (cellsL (fldWH a b)) n % 10) (atI (cellsL (fldWH a b)) n / 10)).toNat) } := by
  unfold mvT
  rw [foldT_s h]
  rfl
theorem mvT_end (h : (cellsL (fldWH a b)).length ≤ n) : mvT F a b q n = mvC F a b q 100 := foldT_end h
theorem wh8 (ha : -128 ≤ a ∧ a ≤ 127) (hb : -128 ≤ b ∧ b ≤ 127) : (fldWH a b).wf :=
  ⟨ha.1, ha.2, hb.1, hb.2, fun i _ => by show (0 : Int) ≤ 0 ∧ (0 : Int) ≤ 255; omega, fun i _ => by show (-32768 : Int) ≤ 0 ∧ (0 : Int) ≤ 32767; omega⟩
theorem isB_F (F : Fld) (c : Int) : isB (fldWH F.w F.h) c = isB F c := isB_wh rfl rfl
theorem isB_W {c : Int} (h : isB (fldWH a b) c = true) : 0 ≤ c ∧ c ≤ 99 ∧ c % 10 < a ∧ c / 10 < b := isB_true.1 h
theorem mvC_inv (hF : F.wf) (hq : ∀ c, isB (fldWH a b) c = true → 0 ≤ q (c % 10) (c / 10) ∧ q (c % 10) (c / 10) ≤ 99) : (mvC F a b q n).w = a ∧ (mvC F a b q n).h = b ∧ (∀ i, 0 ≤ (mvC F a b q n).k i ∧ (mvC F a b q n).k i ≤ 255) ∧ ∀ i, -32768 ≤ (mvC F a b q n).s i ∧ (mvC F a b q n).s i ≤ 32767 := by
  unfold mvC
  refine foldC_inv (P := fun G : Fld => G.w = a ∧ G.h = b ∧ (∀ i, 0 ≤ G.k i ∧ G.k i ≤ 255) ∧ ∀ i, -32768 ≤ G.s i ∧ G.s i ≤ 32767) n ⟨rfl, rfl, fun _ => by show (0 : Int) ≤ 0 ∧ (0 : Int) ≤ 255; omega, fun _ => by show (-32768 : Int) ≤ 0 ∧ (0 : Int) ≤ 32767; omega⟩ (fun G c hc h => ?_)
  have h1 := hq c hc
  refine ⟨h.1, h.2.1, fun i => ?_, fun i => ?_⟩
  · show 0 ≤ upd G.k c.toNat _ i ∧ upd G.k c.toNat _ i ≤ 255
    by_cases hi : i = c.toNat
    · rw [hi, upd_self]; exact hF.k1 _ (by omega)
    · rw [upd_ne _ _ hi]; exact h.2.2.1 i
  · show -32768 ≤ upd G.s c.toNat _ i ∧ upd G.s c.toNat _ i ≤ 32767
    by_cases hi : i = c.toNat
    · rw [hi, upd_self]; exact hF.s1 _ (by omega)
    · rw [upd_ne _ _ hi]; exact h.2.2.2 i
theorem mvC_wf (hF : F.wf) (ha : -128 ≤ a ∧ a ≤ 127) (hb : -128 ≤ b ∧ b ≤ 127) (hq : ∀ c, isB (fldWH a b) c = true → 0 ≤ q (c % 10) (c / 10) ∧ q (c % 10) (c / 10) ≤ 99) : (mvC F a b q n).wf := by
  obtain ⟨h1, h2, h3, h4⟩ := mvC_inv (n := n) hF hq
  exact ⟨by omega, by omega, by omega, by omega, fun i _ => h3 i, fun i _ => h4 i⟩
theorem mvC_is (hF : F.wf) (hq : ∀ c, isB (fldWH a b) c = true → 0 ≤ q (c % 10) (c / 10) ∧ q (c % 10) (c / 10) ≤ 99) (c : Int) : isB (mvC F a b q n) c = isB (fldWH a b) c := isB_wh (mvC_inv hF hq).1 (mvC_inv hF hq).2.1
end
def mirQ (F : Fld) (x y : Int) : Int := F.w - 1 - x + 10 * y
def turQ (F : Fld) (x y : Int) : Int := y + 10 * (F.h - 1 - x)
def mirF (F : Fld) : Fld := if okB F = true then mvC F F.w F.h (mirQ F) 100 else Fld.zero
def turF (F : Fld) : Fld := if okB F = true then mvC F F.h F.w (turQ F) 100 else Fld.zero
section
variable {F : Fld}
theorem mirF_t (h : okB F = true) : mirF F = mvC F F.w F.h (mirQ F) 100 := if_pos h
theorem mirF_f (h : okB F = false) : mirF F = Fld.zero := if_neg (by rw [h]; decide)
theorem turF_t (h : okB F = true) : turF F = mvC F F.h F.w (turQ F) 100 := if_pos h
theorem turF_f (h : okB F = false) : turF F = Fld.zero := if_neg (by rw [h]; decide)
theorem okC_t (h : okB F = true) : okC F = 0 := if_pos h
theorem okC_f (h : okB F = false) : okC F = 1 := if_neg (by rw [h]; decide)
end
attribute [irreducible] mvC mvT
end Go.Proofs.YteiplklloajjaaaGreatDoor
