/-
 Equality of structs and arrays of whole numbers. No conditions.
-/
import Derived.Test.YtgglcebaanomhaaSl
import Derived.Laws.StructEq
import Derived.ChangeKeysEq
namespace Go.Proofs.Ytgglcebaanomhaa
open Go.RowKit
set_option linter.unusedSimpArgs false
set_option linter.unusedVariables false
def eqN (n : Nat) (f g : Nat → Int) : Bool := (List.range n).all fun i => f i == g i
section
variable {P : Program}
theorem part_arr {e : TypeId} {k : IntKind} (he : P.underlying e = some (.int k)) (w : World) {cs : Array Value} {i : Nat} {v : Value} (h : cs[i]? = some v) : (part e cs i).run P w = .ok v w := by
 simp [part, isAgg, run_underlying he, h]
theorem eqItems_arr {e : TypeId} {k : IntKind} (he : P.underlying e = some (.int k)) (hc : P.cellsOf e = 1) (d n : Nat) (f g : Nat → Int) (w : World) : ∀ (is : List Nat), (∀ i ∈ is, i < n) →
 (Op.eqItems (d + 1) e (P.cellsOf e) (arr n k f) (arr n k g) is).run P w = .ok (is.all fun i => f i == g i) w
 | [], _ => by simp [Op.eqItems]
 | i :: is, h => by
  have hi := h i (by simp)
  have ih := eqItems_arr he hc d n f g w is (fun j hj => h j (by simp [hj]))
  have p1 := part_arr (P := P) he w (get_arr (k := k) (f := f) hi)
  have p2 := part_arr (P := P) he w (get_arr (k := k) (f := g) hi)
  have p3 := run_equalIn_int (P := P) w d e k k (f i) (g i) he
  rw [hc] at ih ⊢
  simp only [Op.eqItems, Sem.run_bind, Nat.mul_one, p1, p2, p3, Result.andThen_ok, List.all_cons]
  cases hb : (f i == g i)
  ·simp
  ·simpa using ih
theorem equalIn_arr {t e : TypeId} {n : Nat} {k : IntKind} (ht : P.underlying t = some (.array n e)) (he : P.underlying e = some (.int k)) (hc : P.cellsOf e = 1) (hi : (P.info? e).isSome = true) (d : Nat) (f g : Nat → Int) (w : World) :
 (Op.equalIn (d + 2) t (.agg (arr n k f)) (.agg (arr n k g))).run P w = .ok (eqN n f g) w := by
 obtain ⟨i, hi⟩ := Option.isSome_iff_exists.1 hi
 rw [run_equalIn_array (P := P) w (d + 1) _ _ ht hi, eqItems_arr he hc d n f g w _ (fun i hi => List.mem_range.1 hi)]
 rfl
end
def eqFld (F G : Fld) : Bool := (F.w == G.w) && ((F.h == G.h) && (eqN 100 F.k G.k && eqN 100 F.s G.s))
section
variable {P : Program} {w : World}
end
attribute [irreducible] eqFld eqN
section
variable {P : Program} {ρ : Operand → Value} {o : Oper} {w : World} {R : Value → World → Prop} {x y : Operand} {t ty2 : TypeId} {A B : Array Value} {r : Bool}
theorem OpRun.eqlA (ho : o.op = .binOp .eql t x y ty2) (hx : ρ x = .agg A) (hy : ρ y = .agg B) (hg : P.eqGuardType P.depth t = false) (he : (Op.equalIn 10000 t (.agg A) (.agg B)).run P w = .ok r w) (h : R (.bool r) w) : OpRun P ρ o w R := by
 have hr : (binOp .eql t (.agg A) (.agg B)).run P w = .ok (.bool r) w := by rw [run_eql_struct, he]; rfl
 unfold OpRun execOp
 simp only [ho, hx, hy, Sem.run_bind, run_eqGuard_agg w .eql t x y A B hg, Result.andThen_ok, hr]
 exact h
theorem OpRun.neqA (ho : o.op = .binOp .neq t x y ty2) (hx : ρ x = .agg A) (hy : ρ y = .agg B) (hg : P.eqGuardType P.depth t = false) (he : (Op.equalIn 10000 t (.agg A) (.agg B)).run P w = .ok r w) (h : R (.bool (!r)) w) : OpRun P ρ o w R := by
 have hr : (binOp .neq t (.agg A) (.agg B)).run P w = .ok (.bool (!r)) w := by rw [run_neq_struct, he]; rfl
 unfold OpRun execOp
 simp only [ho, hx, hy, Sem.run_bind, run_eqGuard_agg w .neq t x y A B hg, Result.andThen_ok, hr]
 exact h
end
section
variable {P : Program} {ops : Array Oper} {Q : Exit → Act → World → Prop} {rest : List Oper} {o : Oper} {a : Act} {w : World} {x y : Operand} {t ty2 : TypeId} {A B : Array Value} {r : Bool}
theorem weqA (hg : P.eqGuardType P.depth t = false) (he : (Op.equalIn 10000 t (.agg A) (.agg B)).run P w = .ok r w) (k : wpList P ops Q rest (putL a o.dst (.bool r)) w) (hw : Region.wanted o (yielded ops a.tmps) = true := by kernel_rfl)
 (ho : o.op = .binOp .eql t x y ty2 := by exact rfl) (hx : evalL a x = .agg A := by kernel_rfl) (hy : evalL a y = .agg B := by kernel_rfl) : wpList P ops Q (o :: rest) a w :=
 wpl_op (R := fun v' w' => v' = _ ∧ w' = w) rfl hw (OpRun.eqlA ho hx hy hg he ⟨rfl, rfl⟩) (fun v' w' h => by rw [h.1, h.2]; exact k)
theorem wneA (hg : P.eqGuardType P.depth t = false) (he : (Op.equalIn 10000 t (.agg A) (.agg B)).run P w = .ok r w) (k : wpList P ops Q rest (putL a o.dst (.bool (!r))) w) (hw : Region.wanted o (yielded ops a.tmps) = true := by kernel_rfl)
 (ho : o.op = .binOp .neq t x y ty2 := by exact rfl) (hx : evalL a x = .agg A := by kernel_rfl) (hy : evalL a y = .agg B := by kernel_rfl) : wpList P ops Q (o :: rest) a w :=
 wpl_op (R := fun v' w' => v' = _ ∧ w' = w) rfl hw (OpRun.neqA ho hx hy hg he ⟨rfl, rfl⟩) (fun v' w' h => by rw [h.1, h.2]; exact k)
end
end Go.Proofs.Ytgglcebaanomhaa
