/-
  Rules, more: division by what is no literal. No conditions.
-/
import Derived.Test.YtdhidmigngmgjaaSl
import Derived.Test.YtdhidmigngmgjaaMth3
namespace Go.Proofs.Ytdhidmigngmgjaa
open Go.RowKit
set_option linter.unusedSimpArgs false
set_option linter.unusedVariables false

--# div
section
variable {P : Program} {ρ : Operand → Value} {o : Oper} {w : World} {R : Value → World → Prop} {x y : Operand} {ty ty2 : TypeId}
theorem OpRun.remz (k : IntKind) (a b : Int) (ho : o.op = .binOp .rem ty x y ty2) (hx : ρ x = .int k a) (hy : ρ y = .int k b) (h0 : 0 ≤ a) (h1 : 0 < b) (h : R (.int k (a % b)) w) : OpRun P ρ o w R := by
  have hr : (binOp .rem ty (.int k a) (.int k b)).run P w = .ok (.int k (a % b)) w := by
    have h2 : b ≠ 0 := by omega
    simp [binOp, Op.intDiv, h2, Int.tmod_eq_emod_of_nonneg h0]
  have hg : (eqGuard .rem ty x y (.int k a) (.int k b)).run P w = .ok () w := rfl
  unfold OpRun execOp
  simp only [ho, hx, hy, Sem.run_bind, hg, Result.andThen_ok, hr]
  exact h
theorem OpRun.quoz (a b : Int) (ho : o.op = .binOp .quo ty x y ty2) (hx : ρ x = .int .i64 a) (hy : ρ y = .int .i64 b) (h0 : 0 ≤ a ∧ a ≤ 9223372036854775807) (h1 : 0 < b) (h : R (.int .i64 (a / b)) w) : OpRun P ρ o w R := by
  have hr : (binOp .quo ty (.int .i64 a) (.int .i64 b)).run P w = .ok (.int .i64 (a / b)) w := by
    have h2 : b ≠ 0 := by omega
    have h3 := quo_in h0 h1
    simp [binOp, Op.intDiv, h2, h3]
  have hg : (eqGuard .quo ty x y (.int .i64 a) (.int .i64 b)).run P w = .ok () w := rfl
  unfold OpRun execOp
  simp only [ho, hx, hy, Sem.run_bind, hg, Result.andThen_ok, hr]
  exact h
end
section
variable {P : Program} {ops : Array Oper} {Q : Exit → Act → World → Prop} {rest : List Oper} {o : Oper} {a : Act} {w : World} {x y : Operand} {ty ty2 : TypeId}
theorem wremz (kd : IntKind) (u v : Int) (k : wpList P ops Q rest (putL a o.dst (.int kd (u % v))) w) (h0 : 0 ≤ u := by omega) (h1 : 0 < v := by omega) (hw : Region.wanted o (yielded ops a.tmps) = true := by kernel_rfl)
    (ho : o.op = .binOp .rem ty x y ty2 := by exact rfl) (hx : evalL a x = .int kd u := by kernel_rfl) (hy : evalL a y = .int kd v := by kernel_rfl) : wpList P ops Q (o :: rest) a w :=
  wpl_op (R := fun v' w' => v' = _ ∧ w' = w) rfl hw (OpRun.remz kd u v ho hx hy h0 h1 ⟨rfl, rfl⟩) (fun v' w' h => by rw [h.1, h.2]; exact k)
theorem wquoz (u v : Int) (k : wpList P ops Q rest (putL a o.dst (.int .i64 (u / v))) w) (h0 : 0 ≤ u ∧ u ≤ 9223372036854775807 := by omega) (h1 : 0 < v := by omega) (hw : Region.wanted o (yielded ops a.tmps) = true := by kernel_rfl)
    (ho : o.op = .binOp .quo ty x y ty2 := by exact rfl) (hx : evalL a x = .int .i64 u := by kernel_rfl) (hy : evalL a y = .int .i64 v := by kernel_rfl) : wpList P ops Q (o :: rest) a w :=
  wpl_op (R := fun v' w' => v' = _ ∧ w' = w) rfl hw (OpRun.quoz u v ho hx hy h0 h1 ⟨rfl, rfl⟩) (fun v' w' h => by rw [h.1, h.2]; exact k)
end

--# ways
/-- Whether a number is a cell of soil or of a path. -/
def wayB (F : Fld) (c : Int) : Bool := isB F c && ((F.k c.toNat == 0) || (F.k c.toNat == 2))
section
variable {F : Fld} {c : Int}
theorem wayB_1 (h : isB F c = false) : wayB F c = false := by unfold wayB; rw [h]; rfl
theorem wayB_2 (h : isB F c = true) (h2 : (F.k c.toNat == 0) = true) : wayB F c = true := by unfold wayB; rw [h, h2]; rfl
theorem wayB_3 (h : isB F c = true) (h2 : (F.k c.toNat == 0) = false) : wayB F c = (F.k c.toNat == 2) := by unfold wayB; rw [h, h2]; rfl
theorem wayB_is (h : wayB F c = true) : isB F c = true := by unfold wayB at h; rw [Bool.and_eq_true] at h; exact h.1
end
theorem sqr_comm (a b : Int) : sqr a b = sqr b a := by
  unfold sqr
  rw [show a % 10 - b % 10 = -(b % 10 - a % 10) by omega, show a / 10 - b / 10 = -(b / 10 - a / 10) by omega, Int.neg_mul_neg, Int.neg_mul_neg]
/-- The index before another one, around. -/
def prv (n i : Nat) : Nat := (((i : Int) + (n : Int) - 1) % (n : Int)).toNat
theorem prv_lt {n i : Nat} (h : 0 < n) : prv n i < n := by
  unfold prv
  have h1 := Int.emod_nonneg ((i : Int) + (n : Int) - 1) (show (n : Int) ≠ 0 by omega)
  have h2 := Int.emod_lt_of_pos ((i : Int) + (n : Int) - 1) (show 0 < (n : Int) by omega)
  omega
def btC (F : Fld) (xs : List Int) (n i : Nat) : Bool := wayB F (atI xs i) && (wayB F (atI xs (prv n i)) && decide (sqr (atI xs i) (atI xs (prv n i)) ≤ 1))
section
variable {F : Fld} {xs : List Int} {n i : Nat}
theorem btC_1 (h : wayB F (atI xs i) = false) : btC F xs n i = false := by unfold btC; rw [h]; rfl
theorem btC_2 (h : wayB F (atI xs (prv n i)) = false) : btC F xs n i = false := by unfold btC; rw [h, Bool.false_and, Bool.and_false]
theorem btC_3 (h : ¬ sqr (atI xs i) (atI xs (prv n i)) ≤ 1) : btC F xs n i = false := by unfold btC; rw [decide_eq_false h, Bool.and_false, Bool.and_false]
theorem btC_t (h : wayB F (atI xs i) = true) (h2 : wayB F (atI xs (prv n i)) = true) (h3 : sqr (atI xs i) (atI xs (prv n i)) ≤ 1) : btC F xs n i = true := by unfold btC; rw [h, h2, decide_eq_true h3]; rfl
def beatB (F : Fld) (xs : List Int) : Bool := inB xs.length 1 40 && allB xs.length (btC F xs xs.length)
theorem beatB_0 (hn : n = xs.length) (h : inB n 1 40 = false) : beatB F xs = false := by subst hn; unfold beatB; rw [h]; rfl
theorem beatB_f (hn : n = xs.length) (i : Nat) (hi : i < n) (h : btC F xs n i = false) : beatB F xs = false := by subst hn; unfold beatB; rw [allB_false i hi h, Bool.and_false]
theorem beatB_t (hn : n = xs.length) (h0 : inB n 1 40 = true) (h : ∀ i, i < n → btC F xs n i = true) : beatB F xs = true := by subst hn; unfold beatB; rw [h0, allB_true h]; rfl
theorem beatB_w (hn : n = xs.length) (h0 : inB n 1 40 = true) (h : ∀ i, i < n → wayB F (atI xs i) = true ∧ sqr (atI xs (prv n i)) (atI xs i) ≤ 1) : beatB F xs = true :=
  beatB_t hn h0 (fun i hi => btC_t (h i hi).1 (h _ (prv_lt (by omega))).1 (by rw [sqr_comm]; exact (h i hi).2))
end
attribute [irreducible] wayB btC beatB

--# covers
/-- Whether cell c is covered from place p, of which nothing is said. -/
def cvR (F : Fld) (p c w l : Int) : Bool := (F.k p.toNat != 3) && ((isB F c && (F.k c.toNat == 0)) && decide (l ≤ w / (1 + sqr p c)))
section
variable {F : Fld} {p c w l : Int}
theorem cvR_1 (h : (F.k p.toNat != 3) = false) : cvR F p c w l = false := by unfold cvR; rw [h]; rfl
theorem cvR_2 (h : isB F c = false) : cvR F p c w l = false := by unfold cvR; rw [h, Bool.false_and, Bool.false_and, Bool.and_false]
theorem cvR_3 (h : (F.k c.toNat == 0) = false) : cvR F p c w l = false := by unfold cvR; rw [h, Bool.and_false, Bool.false_and, Bool.and_false]
theorem cvR_t (h : (F.k p.toNat != 3) = true) (h2 : isB F c = true) (h3 : (F.k c.toNat == 0) = true) : cvR F p c w l = decide (l ≤ w / (1 + sqr p c)) := by unfold cvR; rw [h, h2, h3]; rfl
theorem cvR_5 (hp : isB F p = true) (h : (isB F p && (F.k p.toNat != 3)) = false) : cvR F p c w l = false := by rw [hp, Bool.true_and] at h; exact cvR_1 h
theorem cvR_4 (h : (isB F c && (F.k c.toNat == 0)) = false) : cvR F p c w l = false := by unfold cvR; rw [h, Bool.false_and, Bool.and_false]
theorem bneF {x y : Int} (h : (x == y) = true) : (x != y) = false := by unfold bne; rw [h]; rfl
theorem bneT {x y : Int} (h : (x == y) = false) : (x != y) = true := by unfold bne; rw [h]; rfl
theorem sqr_b (a b : Int) (ha : 0 ≤ a ∧ a ≤ 1000) (hb : 0 ≤ b ∧ b ≤ 1000) : 0 ≤ sqr a b ∧ sqr a b ≤ 2000000 := by
  unfold sqr
  have h1 := sq_b (x := a % 10 - b % 10) (by omega)
  have h2 := sq_b (x := a / 10 - b / 10) (by omega)
  omega
end
attribute [irreducible] cvR
def cvrS (F : Fld) (c w l : Int) : Int × Int := if code F (isB F c && (inB w 1 1000 && inB l 1 1000)) = 0 then setC F (fun c_ => cvR F c_ c w l) 100 else (0, 0)
theorem cvrS_f {F : Fld} {c w l : Int} (h : code F (isB F c && (inB w 1 1000 && inB l 1 1000)) ≠ 0) : cvrS F c w l = (0, 0) := if_neg h
theorem cvrS_t {F : Fld} {c w l : Int} (h : code F (isB F c && (inB w 1 1000 && inB l 1 1000)) = 0) : cvrS F c w l = setC F (fun c_ => cvR F c_ c w l) 100 := if_pos h
attribute [irreducible] cvrS
end Go.Proofs.Ytdhidmigngmgjaa
