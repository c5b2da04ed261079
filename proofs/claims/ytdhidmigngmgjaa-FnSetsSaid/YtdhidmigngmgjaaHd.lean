/-
  The head of a slice. No conditions.
-/
import Derived.Test.YtdhidmigngmgjaaSl
namespace Go.Proofs.Ytdhidmigngmgjaa
open Go.RowKit
set_option linter.unusedSimpArgs false
set_option linter.unusedVariables false

--# sliceH
section
variable {P : Program} {ρ : Operand → Value} {o : Oper} {w : World} {R : Value → World → Prop} {x y : Operand} {t e : TypeId} {g n m cap : Nat} {k : IntKind}
/-- The first m elements of a slice. -/
theorem OpRun.sliceH (hT : SliT P t 1) (ho : o.op = .slice t x none (some y) none) (hx : ρ x = .slice (some ⟨g, 0, none⟩) n cap) (hy : ρ y = .int k (m : Int)) (hc : m ≤ cap) (h : R (.slice (some ⟨g, 0, none⟩) m cap) w) : OpRun P ρ o w R := by
  obtain ⟨e, hu, hi⟩ := hT
  have hb : (Instr.sliceBound (.int k (m : Int)) cap .sliceAcap).run P w = .ok m w := by
    have := run_sliceBound (P := P) (w := w) k m cap .sliceAcap (by omega) (by omega)
    simpa using this
  have hr : (Instr.sliceAt t (ρ x) none (some (ρ y)) none).run P w = .ok (.slice (some ⟨g, 0, none⟩) m cap) w := by
    rw [hx, hy]
    by_cases h2 : cap = 0
    · subst h2; simp [Instr.sliceAt, Instr.slice, Instr.sliceBounds, Sem.run_bind, run_underlying hu w, hb, run_size hi]
    · simp [Instr.sliceAt, Instr.slice, Instr.sliceBounds, Sem.run_bind, run_underlying hu w, hb, run_size hi, h2, Addr.add_mid]
  unfold OpRun execOp
  simp only [ho, Option.map_some, Option.map_none, Sem.run_bind, hr, Result.andThen_ok]
  exact h
end
section
variable {P : Program} {ops : Array Oper} {Q : Exit → Act → World → Prop} {rest : List Oper} {o : Oper} {a : Act} {w : World} {x y : Operand} {t : TypeId}
theorem wsliceH (g n m cap : Nat) (k : IntKind) (hT : SliT P t 1) (hc : m ≤ cap) (kk : wpList P ops Q rest (putL a o.dst (.slice (some ⟨g, 0, none⟩) m cap)) w)
    (hw : Region.wanted o (yielded ops a.tmps) = true := by kernel_rfl) (ho : o.op = .slice t x none (some y) none := by exact rfl) (hx : evalL a x = .slice (some ⟨g, 0, none⟩) n cap := by kernel_rfl) (hy : evalL a y = .int k (m : Int) := by kernel_rfl) : wpList P ops Q (o :: rest) a w :=
  wpl_op (R := fun v' w' => v' = _ ∧ w' = w) rfl hw (OpRun.sliceH hT ho hx hy hc ⟨rfl, rfl⟩) (fun v' w' h => by rw [h.1, h.2]; exact kk)
end
theorem SlI.take {cs : Array Value} {n cap m : Nat} {k : IntKind} {xs : List Int} (h : SlI cs n cap k xs) (hm : m ≤ n) : SlI cs m cap k (xs.take m) := by
  have hl := h.len
  have e : iv k (xs.take m) = (iv k xs).take m := by simp [iv, List.map_take]
  refine ⟨?_, ?_, ?_, SlO.cm h, SlO.sz h⟩
  · rw [e, List.length_take, iv_length, ← List.take_take, ← iv_length k xs, h.pre]
  · rw [e, List.length_take, iv_length]; omega
  · have := SlO.nc h; omega

end Go.Proofs.Ytdhidmigngmgjaa
