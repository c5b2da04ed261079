/-
  Two stores into one block within a region of any order. No conditions.
-/
import Derived.Test.YteiplklloajjaaaGreatDoorRegR
import Derived.Test.YteiplklloajjaaaGreatDoorSl
namespace Go.Proofs.YteiplklloajjaaaGreatDoor
open Go.RowKit
set_option linter.unusedSimpArgs false
set_option linter.unusedVariables false

--# rls
/-- Block g alone turns: to cs1, then to cs2. -/
def RlS (g : Nat) (t : TypeId) (cs1 cs2 : Array Value) (w w' : World) : Prop :=
  Wr g w w' ∧ (w'.heap[g]? = w.heap[g]? ∨ (Blk w' g t cs1 ∧ ¬ Blk w g t cs2) ∨ Blk w' g t cs2)
section
variable {g : Nat} {t : TypeId} {cs0 cs1 cs2 : Array Value} {w w' : World}
theorem RlS.refl (w : World) : RlS g t cs1 cs2 w w := ⟨Wr.of_ext (Ext.refl w), .inl rfl⟩
theorem RlS.drew (w : World) : RlS g t cs1 cs2 w w.drew := ⟨Wr.of_ext (Ext.refl w).drew, .inl rfl⟩
theorem Blk.same {w w' : World} {cs : Array Value} (h : Blk w g t cs) (e : w'.heap[g]? = w.heap[g]?) : Blk w' g t cs := e.trans h
theorem RlS.trans (u v w : World) (h : RlS g t cs1 cs2 u v) (k : RlS g t cs1 cs2 v w) : RlS g t cs1 cs2 u w := by
  refine ⟨h.1.trans k.1, ?_⟩
  rcases k.2 with k2 | ⟨k2, k3⟩ | k2
  · rcases h.2 with h2 | ⟨h2, h3⟩ | h2
    · exact .inl (k2.trans h2)
    · exact .inr (.inl ⟨h2.same k2, h3⟩)
    · exact .inr (.inr (h2.same k2))
  · rcases h.2 with h2 | ⟨h2, h3⟩ | h2
    · exact .inr (.inl ⟨k2, fun e => k3 (e.same h2)⟩)
    · exact .inr (.inl ⟨k2, h3⟩)
    · exact absurd h2 k3
  · exact .inr (.inr k2)
theorem RlS.st2 (h : Blk w g t cs2) (k : RlS g t cs1 cs2 w w') : Blk w' g t cs2 := by
  rcases k.2 with k2 | ⟨k2, k3⟩ | k2
  · exact h.same k2
  · exact absurd h k3
  · exact k2
theorem RlS.st1 (h : Blk w g t cs1 ∨ Blk w g t cs2) (k : RlS g t cs1 cs2 w w') : Blk w' g t cs1 ∨ Blk w' g t cs2 := by
  rcases h with h | h
  · rcases k.2 with k2 | ⟨k2, _⟩ | k2
    · exact .inl (h.same k2)
    · exact .inl k2
    · exact .inr k2
  · exact .inr (RlS.st2 h k)
def fct1 (g : Nat) (t : TypeId) (cs1 cs2 : Array Value) : RR.Fct (RlS g t cs1 cs2) := ⟨fun v w => v = undef ∧ (Blk w g t cs1 ∨ Blk w g t cs2), fun _ _ _ h k => ⟨h.1, RlS.st1 h.2 k⟩⟩
def fct2 (g : Nat) (t : TypeId) (cs1 cs2 : Array Value) : RR.Fct (RlS g t cs1 cs2) := ⟨fun v w => v = undef ∧ Blk w g t cs2, fun _ _ _ h k => ⟨h.1, RlS.st2 h.2 k⟩⟩
end
section
variable {P : Program} {ρ : Operand → Value} {o : Oper} {w w0 : World} {g off : Nat} {t ty : TypeId} {x y : Operand} {cs cs0 cs1 cs2 : Array Value}
theorem OpRun.set1 {R : Value → World → Prop} (v : Value) (hs : ScalT P ty) (ho : o.op = .store ty x y) (hx : ρ x = .pointer (some ⟨g, off, none⟩)) (hy : ρ y = v) (hv : v.oneCell' = true) (hb : Blk w g t cs) (hoff : off < cs.size)
    (h : ∀ w', Blk w' g t (cs.setIfInBounds off v) → Wr g w w' → R undef w') : OpRun P ρ o w R := by
  have hr := run_storeVar_one (P := P) (w := w) (ty := ty) hs hv hb hoff
  unfold OpRun execOp
  simp only [ho, hx, hy, Instr.storeAt, Instr.sureAddr, Sem.run_bind, Sem.run_pure, Result.andThen_ok, hr]
  exact h _ (hb.set_ off v) (Wr.setCell w g off v)
theorem st1 (v : Value) (hb0 : Blk w0 g t cs0) (hw : RlS g t cs1 cs2 w0 w) (e0 : cs0.setIfInBounds off v = cs1) (e1 : cs1.setIfInBounds off v = cs1) (e2 : cs2.setIfInBounds off v = cs2) (hoff : off < cs0.size ∧ off < cs1.size ∧ off < cs2.size)
    (hs : ScalT P ty) (ho : o.op = .store ty x y) (hx : ρ x = .pointer (some ⟨g, off, none⟩)) (hy : ρ y = v) (hv : v.oneCell' = true) :
    OpRun P ρ o w fun v' w' => RlS g t cs1 cs2 w w' ∧ v' = undef ∧ (Blk w' g t cs1 ∨ Blk w' g t cs2) := by
  rcases hw.2 with h | ⟨h, _⟩ | h
  · have hb := hb0.same h
    refine OpRun.set1 v hs ho hx hy hv hb hoff.1 (fun w' h1 h2 => ?_)
    rw [e0] at h1
    refine ⟨⟨h2, ?_⟩, rfl, .inl h1⟩
    by_cases hc : Blk w g t cs2
    · have hq : cs0 = cs2 := by
        unfold Blk at hb hc
        rw [hb] at hc
        simpa using hc
      have hq2 : cs1 = cs2 := by rw [← e0, hq, e2]
      exact .inr (.inr (hq2 ▸ h1))
    · exact .inr (.inl ⟨h1, hc⟩)
  · refine OpRun.set1 v hs ho hx hy hv h hoff.2.1 (fun w' h1 h2 => ?_)
    rw [e1] at h1
    exact ⟨⟨h2, .inl (h1.trans h.symm)⟩, rfl, .inl h1⟩
  · refine OpRun.set1 v hs ho hx hy hv h hoff.2.2 (fun w' h1 h2 => ?_)
    rw [e2] at h1
    exact ⟨⟨h2, .inr (.inr h1)⟩, rfl, .inr h1⟩
theorem st2 (v : Value) (hf : Blk w g t cs1 ∨ Blk w g t cs2) (e1 : cs1.setIfInBounds off v = cs2) (e2 : cs2.setIfInBounds off v = cs2) (hoff : off < cs1.size ∧ off < cs2.size)
    (hs : ScalT P ty) (ho : o.op = .store ty x y) (hx : ρ x = .pointer (some ⟨g, off, none⟩)) (hy : ρ y = v) (hv : v.oneCell' = true) :
    OpRun P ρ o w fun v' w' => RlS g t cs1 cs2 w w' ∧ v' = undef ∧ Blk w' g t cs2 := by
  rcases hf with h | h
  · refine OpRun.set1 v hs ho hx hy hv h hoff.1 (fun w' h1 h2 => ?_)
    rw [e1] at h1
    exact ⟨⟨h2, .inr (.inr h1)⟩, rfl, h1⟩
  · refine OpRun.set1 v hs ho hx hy hv h hoff.2 (fun w' h1 h2 => ?_)
    rw [e2] at h1
    exact ⟨⟨h2, .inr (.inr h1)⟩, rfl, h1⟩
theorem upd_upd (f : Nat → Int) (i : Nat) (v : Int) : upd (upd f i v) i v = upd f i v := by
  funext j
  by_cases h : j = i
  · rw [h, upd_self, upd_self]
  · rw [upd_ne _ _ h]
end
end Go.Proofs.YteiplklloajjaaaGreatDoor
