/-
  Fields as texts: cells, rows, lines; a text of one byte. No conditions.
-/
import Derived.Test.YteiplklloajjaaaGreatDoorRd
import Derived.Test.YteiplklloajjaaaGreatDoorMth
import Derived.Lib.ItoaMem
import Derived.Laws.BytesArg
namespace Go.Proofs.YteiplklloajjaaaGreatDoor
open Go.RowKit
set_option linter.unusedSimpArgs false
set_option linter.unusedVariables false

--# one byte
def digC (x : Int) : UInt8 := UInt8.ofNat x.toNat
section
variable {P : Program} {ρ : Operand → Value} {o : Oper} {w : World} {t d ty2 : TypeId} {e : TypeId} {x y : Operand} {R : Value → World → Prop}
theorem run_b2s {g : Nat} {v : Int} {size bytes : Nat} {z : Value} (hT : SlT P t e size bytes z) (he : P.underlying e = some (.int .u8)) (hd : P.underlying d = some .string) (hb : Blk w g e #[.int .u8 v]) :
    (convert t d (.slice (some ⟨g, 0, none⟩) 1 1)).run P w = .ok (.string (bs [digC v])) w :=
  run_convert_bytes_arg w t e hT.1 he g 0 1 1 [v] rfl (fun i hi => by
    obtain rfl : i = 0 := by omega
    rw [hb.cell]; rfl) d hd
theorem OpRun.b2s {g : Nat} {v : Int} {size bytes : Nat} {z : Value} (hT : SlT P t e size bytes z) (he : P.underlying e = some (.int .u8)) (hd : P.underlying d = some .string) (hb : Blk w g e #[.int .u8 v]) (ho : o.op = .convert t d x) (hx : ρ x = .slice (some ⟨g, 0, none⟩) 1 1)
    (h : R (.string (bs [digC v])) w) : OpRun P ρ o w R := by
  have hr := run_b2s hT he hd hb
  unfold OpRun execOp
  simp only [ho, hx, Sem.run_bind, hr, Result.andThen_ok, Sem.run_pure]
  exact h
end
section
variable {P : Program} {ops : Array Oper} {Q : Exit → Act → World → Prop} {rest : List Oper} {o : Oper} {a : Act} {w : World} {t d e : TypeId} {x : Operand}
theorem wb2s {g : Nat} {v : Int} {size bytes : Nat} {z : Value} (hT : SlT P t e size bytes z) (he : P.underlying e = some (.int .u8)) (hd : P.underlying d = some .string) (hb : Blk w g e #[.int .u8 v]) (k : wpList P ops Q rest (putL a o.dst (.string (bs [digC v]))) w)
    (hw : Region.wanted o (yielded ops a.tmps) = true := by kernel_rfl) (ho : o.op = .convert t d x := by exact rfl) (hx : evalL a x = .slice (some ⟨g, 0, none⟩) 1 1 := by kernel_rfl) : wpList P ops Q (o :: rest) a w :=
  wpl_op (R := fun v' w' => v' = _ ∧ w' = w) rfl hw (OpRun.b2s hT he hd hb ho hx ⟨rfl, rfl⟩) (fun v' w' h => by rw [h.1, h.2]; exact k)
end
/-- A list of one of its own. -/
def Fct.sl1 (B : Nat) (t : TypeId) (cs : Array Value) : Fct := ⟨fun v w => ∃ g, v = .slice (some ⟨g, 0, none⟩) 1 1 ∧ B ≤ g ∧ Blk w g t cs, fun _ _ _ h k => by
  obtain ⟨g, e, hB, hb⟩ := h
  exact ⟨g, e, hB, hb.ext k⟩⟩
theorem dec_lt {n : Int} (h0 : 0 ≤ n) (h : n < 10) : [digC (48 + n % 10)] = Lib.decDigits n.toNat := by
  unfold Lib.decDigits
  rw [dif_pos (by omega)]
  unfold digC
  rw [show (48 + n % 10).toNat = 48 + n.toNat by omega]
theorem dec_ge {n : Int} (h0 : 0 ≤ n) (h : ¬ n < 10) : Lib.decDigits (n / 10).toNat ++ [digC (48 + n % 10)] = Lib.decDigits n.toNat := by
  conv => rhs; unfold Lib.decDigits
  rw [dif_neg (by omega)]
  unfold digC
  rw [show (48 + n % 10).toNat = 48 + n.toNat % 10 by omega, show (n / 10).toNat = n.toNat / 10 by omega]
theorem dec_l19 {n : Int} (h : n ≤ 9223372036854775807) : (Lib.decDigits (n / 10).toNat).length ≤ 19 := decDigits_len (by decide) (by
  have : (10 : Nat) ^ 19 = 10000000000000000000 := by decide
  omega)

--# glue
theorem glu_one (c : UInt8) (p : List UInt8) : gluL c ([] ++ [p]) = p := by simp [gluL]
theorem glu_snoc {c : UInt8} {p : List UInt8} : ∀ {xs : List (List UInt8)}, xs ≠ [] → gluL c (xs ++ [p]) = gluL c xs ++ c :: p
  | [], h => absurd rfl h
  | [q], _ => by simp [gluL]
  | q :: r :: s, _ => by
    have ih := glu_snoc (c := c) (p := p) (xs := r :: s) (by simp)
    have e1 : gluL c (q :: (r :: s ++ [p])) = q ++ c :: gluL c (r :: s ++ [p]) := gluL_cons (by simp)
    have e2 : gluL c (q :: r :: s) = q ++ c :: gluL c (r :: s) := gluL_cons (by simp)
    show gluL c (q :: (r :: s ++ [p])) = _
    rw [e1, ih, e2, List.append_assoc]; rfl

--# fields
/-- A cell's word. -/
def cellT (F : Fld) (c : Nat) : List UInt8 := if F.k c = 0 then Lib.decDigits (F.s c).toNat else if F.k c = 1 then [104] else if F.k c = 2 then [112] else [116]
def rowC (F : Fld) (y x : Nat) : List (List UInt8) := (List.range x).map fun (j : Nat) => cellT F (((j : Int) + 10 * (y : Int)).toNat)
def preT (F : Fld) (y x : Nat) : List UInt8 := gluL 32 (rowC F y x)
def lineT (F : Fld) (y : Nat) : List UInt8 := preT F y F.w.toNat ++ [10]
def fieldP (F : Fld) : Nat → List UInt8
  | 0 => []
  | y + 1 => fieldP F y ++ lineT F y
/-- The field's text. -/
def fieldT (F : Fld) : List UInt8 := fieldP F F.h.toNat
section
variable {F : Fld} {y x c : Nat}
theorem cellT_0 (h : F.k c = 0) : Lib.decDigits (F.s c).toNat = cellT F c := by unfold cellT; rw [if_pos h]
theorem cellT_1 (h : F.k c = 1) : [104] = cellT F c := by unfold cellT; rw [if_neg (by omega), if_pos h]
theorem cellT_2 (h : F.k c = 2) : [112] = cellT F c := by unfold cellT; rw [if_neg (by omega), if_neg (by omega), if_pos h]
theorem cellT_3 (h0 : ¬ F.k c = 0) (h1 : ¬ F.k c = 1) (h2 : ¬ F.k c = 2) : [116] = cellT F c := by unfold cellT; rw [if_neg h0, if_neg h1, if_neg h2]
theorem rowC_succ : rowC F y (x + 1) = rowC F y x ++ [cellT F (((x : Int) + 10 * (y : Int)).toNat)] := by
  unfold rowC
  rw [List.range_succ, List.map_append]; rfl
theorem rowC_len : (rowC F y x).length = x := by simp [rowC]
theorem preT_0 : preT F y 0 = [] := rfl
theorem preT_z (h : ¬ 0 < (x : Int)) : preT F y x ++ cellT F (((x : Int) + 10 * (y : Int)).toNat) = preT F y (x + 1) := by
  obtain rfl : x = 0 := by omega
  unfold preT
  rw [rowC_succ]
  exact (glu_one 32 _).symm
theorem preT_s (h : 0 < (x : Int)) : preT F y x ++ [32] ++ cellT F (((x : Int) + 10 * (y : Int)).toNat) = preT F y (x + 1) := by
  unfold preT
  rw [rowC_succ, glu_snoc (by intro e; have := rowC_len (F := F) (y := y) (x := x); rw [e] at this; simp at this; omega), List.append_assoc]; rfl
theorem cell_len (hk : okB F = true) (hc : c < 100) : (cellT F c).length ≤ 4 := by
  have h := ok_cell hk c hc
  unfold cellT
  split
  · exact decDigits_len (by decide) (by have : (10 : Nat) ^ 4 = 10000 := by decide
                                        omega)
  · split
    · decide
    · split <;> decide
theorem preT_len (hk : okB F = true) (hy : y < 10) : ∀ x, x ≤ 10 → (preT F y x).length ≤ 5 * x
  | 0, _ => by rw [preT_0]; exact Nat.le_refl 0
  | x + 1, hx => by
    have ih := preT_len hk hy x (by omega)
    have hc := cell_len (F := F) (c := ((x : Int) + 10 * (y : Int)).toNat) hk (by omega)
    by_cases h : 0 < (x : Int)
    · rw [← preT_s h]
      simp only [List.length_append, List.length_singleton]
      omega
    · rw [← preT_z h]
      simp only [List.length_append]
      omega
theorem fieldP_len (hk : okB F = true) : ∀ y, y ≤ 10 → (fieldP F y).length ≤ 51 * y
  | 0, _ => Nat.le_refl 0
  | y + 1, hy => by
    have ih := fieldP_len hk y (by omega)
    have hw := ok_wh hk
    have hp := preT_len (F := F) (y := y) hk (by omega) F.w.toNat (by omega)
    show (fieldP F y ++ lineT F y).length ≤ _
    unfold lineT
    simp only [List.length_append, List.length_singleton]
    omega
end
--# the program's text
theorem rc_a {F : Fld} {y x : Nat} {T : List UInt8} (hT : T = cellT F (((x : Int) + 10 * (y : Int)).toNat)) : rowC F y x ++ [T] = rowC F y (x + 1) := by rw [rowC_succ, hT]
theorem bl_c {F : Fld} {y x : Nat} (h : x = F.w.toNat) : fieldP F y ++ (gluL 32 (rowC F y x) ++ [10]) = fieldP F (y + 1) := by rw [h]; rfl
theorem rowC_le {F : Fld} {y x : Nat} (h : x ≤ 10) : (rowC F y x).length ≤ 1048576 := by rw [rowC_len]; omega
theorem glu_le {F : Fld} {y x : Nat} (hk : okB F = true) (hy : y < 10) (h : x ≤ 10) : (gluL 32 (rowC F y x)).length ≤ 50 := by
  have := preT_len (F := F) (y := y) hk hy x h
  unfold preT at this
  omega
theorem itoa_dec {n : Int} (h : 0 ≤ n) : Lib.itoa n = Lib.decDigits n.toNat := by unfold Lib.itoa; rw [if_neg (by omega)]
--# the reference's text
theorem atC_get {l : List (List UInt8)} {i : Nat} (h : i < l.length) : ((l.map fun l => Value.string (bs l)).toArray)[0 + i]? = some (.string (bs (atL l i))) := by
  simp [atL, List.getD, h]
theorem dec_l19b {n : Int} (h : n ≤ 9223372036854775807) : (Lib.decDigits n.toNat).length ≤ 19 := decDigits_len (by decide) (by
  have : (10 : Nat) ^ 19 = 10000000000000000000 := by decide
  omega)
theorem knd_len (k : Nat) : (atL [([] : List UInt8), [104], [112], [116]] k).length ≤ 1 := by
  unfold atL
  rcases (by omega : k = 0 ∨ k = 1 ∨ k = 2 ∨ k = 3 ∨ 4 ≤ k) with rfl | rfl | rfl | rfl | h
  · decide
  · decide
  · decide
  · decide
  · rw [List.getD, List.getElem?_eq_none (by simpa using h)]; decide
section
variable {F : Fld} {y x c : Nat} {o T A : List UInt8}
theorem cellT_k (hk : okB F = true) (hc : c < 100) (h : ¬ F.k c = 0) : atL [([] : List UInt8), [104], [112], [116]] (F.k c).toNat = cellT F c := by
  have hb := ok_cell hk c hc
  rcases (by omega : F.k c = 1 ∨ F.k c = 2 ∨ F.k c = 3) with e | e | e
  · rw [← cellT_1 e, e]; rfl
  · rw [← cellT_2 e, e]; rfl
  · rw [← cellT_3 h (by omega) (by omega), e]; rfl
theorem ho_a (ho : o = A ++ preT F y x) (h : 0 < (x : Int)) (hT : T = cellT F (((x : Int) + 10 * (y : Int)).toNat)) : o ++ [32] ++ T = A ++ preT F y (x + 1) := by
  rw [ho, hT, ← preT_s h, List.append_assoc, List.append_assoc, List.append_assoc]
theorem ho_b (ho : o = A ++ preT F y x) (h : ¬ 0 < (x : Int)) (hT : T = cellT F (((x : Int) + 10 * (y : Int)).toNat)) : o ++ T = A ++ preT F y (x + 1) := by
  rw [ho, hT, ← preT_z h, List.append_assoc]
theorem ho_c (ho : o = fieldP F y ++ preT F y x) (h : x = F.w.toNat) : o ++ [10] = fieldP F (y + 1) := by
  rw [ho, h, List.append_assoc]; rfl
theorem ho_l (ho : o = fieldP F y ++ preT F y x) (hk : okB F = true) (hy : y < 10) (hx : x ≤ 10) : o.length ≤ 600 := by
  have h1 := fieldP_len hk y (by omega)
  have h2 := preT_len (F := F) (y := y) hk hy x hx
  rw [ho, List.length_append]
  omega
theorem ho_p (ho : o = fieldP F y) (hk : okB F = true) (hy : y ≤ 10) : o.length ≤ 600 := by
  have h1 := fieldP_len hk y hy
  rw [ho]
  omega
end
end Go.Proofs.YteiplklloajjaaaGreatDoor
