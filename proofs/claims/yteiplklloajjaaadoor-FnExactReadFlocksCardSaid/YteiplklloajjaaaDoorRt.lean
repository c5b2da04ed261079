/-
  Two stores into two blocks within a region of any order. No conditions.
-/
import Derived.Test.YteiplklloajjaaaDoorRegR
import Derived.Test.YteiplklloajjaaaDoorSl
namespace Go.Proofs.YteiplklloajjaaaDoor
open Go.RowKit
set_option linter.unusedSimpArgs false
set_option linter.unusedVariables false

--# rlt
namespace RR
theorem end34 {P : Program} {ops : Array Oper} {Q : Exit → Act → World → Prop} {a0 : Act} {w0 : World} {Rl : World → World → Prop} {φ : Nat → Fct Rl} {d0 d1 d2 d3 d4 d5 d6 d7 d8 d9 d10 d11 d12 d13 d14 d15 d16 d17 d18 d19 d20 d21 d22 d23 d24 d25 d26 d27 d28 d29 d30 d31 d32 d33 : Tmp}
    (h : ∀ (u0 u1 u2 u3 u4 u5 u6 u7 u8 u9 u10 u11 u12 u13 u14 u15 u16 u17 u18 u19 u20 u21 u22 u23 u24 u25 u26 u27 u28 u29 u30 u31 u32 u33 : Value) (w : World), Rl w0 w → (φ 0).R u0 w → (φ 1).R u1 w → (φ 2).R u2 w → (φ 3).R u3 w → (φ 4).R u4 w → (φ 5).R u5 w → (φ 6).R u6 w → (φ 7).R u7 w → (φ 8).R u8 w → (φ 9).R u9 w → (φ 10).R u10 w → (φ 11).R u11 w → (φ 12).R u12 w → (φ 13).R u13 w → (φ 14).R u14 w → (φ 15).R u15 w → (φ 16).R u16 w → (φ 17).R u17 w → (φ 18).R u18 w → (φ 19).R u19 w → (φ 20).R u20 w → (φ 21).R u21 w → (φ 22).R u22 w → (φ 23).R u23 w → (φ 24).R u24 w → (φ 25).R u25 w → (φ 26).R u26 w → (φ 27).R u27 w → (φ 28).R u28 w → (φ 29).R u29 w → (φ 30).R u30 w → (φ 31).R u31 w → (φ 32).R u32 w → (φ 33).R u33 w → wpList P ops Q (ops.toList.drop 34) ((((((((((((((((((((((((((((((((((a0.put (some d0) u0).put (some d1) u1).put (some d2) u2).put (some d3) u3).put (some d4) u4).put (some d5) u5).put (some d6) u6).put (some d7) u7).put (some d8) u8).put (some d9) u9).put (some d10) u10).put (some d11) u11).put (some d12) u12).put (some d13) u13).put (some d14) u14).put (some d15) u15).put (some d16) u16).put (some d17) u17).put (some d18) u18).put (some d19) u19).put (some d20) u20).put (some d21) u21).put (some d22) u22).put (some d23) u23).put (some d24) u24).put (some d25) u25).put (some d26) u26).put (some d27) u27).put (some d28) u28).put (some d29) u29).put (some d30) u30).put (some d31) u31).put (some d32) u32).put (some d33) u33) w) :
    ∀ (vals : Nat → Value) (w : World), Rl w0 w → (∀ i, i < 34 → (φ i).R (vals i) w) → wpList P ops Q (ops.toList.drop 34) (putAll a0 ((List.range 34).map fun j => (([d0, d1, d2, d3, d4, d5, d6, d7, d8, d9, d10, d11, d12, d13, d14, d15, d16, d17, d18, d19, d20, d21, d22, d23, d24, d25, d26, d27, d28, d29, d30, d31, d32, d33] : List Tmp).getD j 0, vals j))) w := fun vals w he hf =>
  h (vals 0) (vals 1) (vals 2) (vals 3) (vals 4) (vals 5) (vals 6) (vals 7) (vals 8) (vals 9) (vals 10) (vals 11) (vals 12) (vals 13) (vals 14) (vals 15) (vals 16) (vals 17) (vals 18) (vals 19) (vals 20) (vals 21) (vals 22) (vals 23) (vals 24) (vals 25) (vals 26) (vals 27) (vals 28) (vals 29) (vals 30) (vals 31) (vals 32) (vals 33) w he (hf 0 (by omega)) (hf 1 (by omega)) (hf 2 (by omega)) (hf 3 (by omega)) (hf 4 (by omega)) (hf 5 (by omega)) (hf 6 (by omega)) (hf 7 (by omega)) (hf 8 (by omega)) (hf 9 (by omega)) (hf 10 (by omega)) (hf 11 (by omega)) (hf 12 (by omega)) (hf 13 (by omega)) (hf 14 (by omega)) (hf 15 (by omega)) (hf 16 (by omega)) (hf 17 (by omega)) (hf 18 (by omega)) (hf 19 (by omega)) (hf 20 (by omega)) (hf 21 (by omega)) (hf 22 (by omega)) (hf 23 (by omega)) (hf 24 (by omega)) (hf 25 (by omega)) (hf 26 (by omega)) (hf 27 (by omega)) (hf 28 (by omega)) (hf 29 (by omega)) (hf 30 (by omega)) (hf 31 (by omega)) (hf 32 (by omega)) (hf 33 (by omega))
end RR
/-- Blocks g and k alone turn: from A to X, from B to Y. -/
structure RlT (g : Nat) (t : TypeId) (A X : Array Value) (k : Nat) (s : TypeId) (B Y : Array Value) (w w' : World) : Prop where
  ext : ∀ w0 : World, w0.heap.size ≤ g → w0.heap.size ≤ k → Ext w0 w → Ext w0 w'
  oth : ∀ j, j < w.heap.size → j ≠ g → j ≠ k → w'.heap[j]? = w.heap[j]?
  size : w.heap.size ≤ w'.heap.size
  g0 : Blk w g t A ∨ Blk w g t X → Blk w' g t A ∨ Blk w' g t X
  g1 : Blk w g t X → Blk w' g t X
  k0 : Blk w k s B ∨ Blk w k s Y → Blk w' k s B ∨ Blk w' k s Y
  k1 : Blk w k s Y → Blk w' k s Y
section
variable {g k : Nat} {t s : TypeId} {A X B Y : Array Value} {w w' : World}
theorem RlT.refl (w : World) : RlT g t A X k s B Y w w := ⟨fun _ _ _ h => h, fun _ _ _ _ => rfl, Nat.le_refl _, id, id, id, id⟩
theorem RlT.drew (w : World) : RlT g t A X k s B Y w w.drew := ⟨fun _ _ _ h => h.drew, fun _ _ _ _ => rfl, Nat.le_refl _, id, id, id, id⟩
theorem RlT.trans (u v w : World) (h : RlT g t A X k s B Y u v) (q : RlT g t A X k s B Y v w) : RlT g t A X k s B Y u w :=
  ⟨fun w0 h1 h2 h3 => q.ext w0 h1 h2 (h.ext w0 h1 h2 h3), fun j hj h1 h2 => (q.oth j (Nat.lt_of_lt_of_le hj h.size) h1 h2).trans (h.oth j hj h1 h2), Nat.le_trans h.size q.size,
   fun e => q.g0 (h.g0 e), fun e => q.g1 (h.g1 e), fun e => q.k0 (h.k0 e), fun e => q.k1 (h.k1 e)⟩
theorem RlT.blk (h : RlT g t A X k s B Y w w') {b : Nat} {t2 : TypeId} {cs : Array Value} (hb : Blk w b t2 cs) (h1 : b ≠ g) (h2 : b ≠ k) : Blk w' b t2 cs := (h.oth b hb.lt h1 h2).trans hb
/-- The stores' facts. -/
def fctG : RR.Fct (RlT g t A X k s B Y) := ⟨fun v w => v = undef ∧ Blk w g t X, fun _ _ _ h q => ⟨h.1, q.g1 h.2⟩⟩
def fctK : RR.Fct (RlT g t A X k s B Y) := ⟨fun v w => v = undef ∧ Blk w k s Y, fun _ _ _ h q => ⟨h.1, q.k1 h.2⟩⟩
end
section
variable {P : Program} {ρ : Operand → Value} {o : Oper} {w w0 : World} {g k n : Nat} {t s ty : TypeId} {x y : Operand} {A X B Y : Array Value}
theorem OpRun.put1 {R : Value → World → Prop} {old cells : Array Value} (hr : RowT P ty n) (ho : o.op = .store ty x y) (hx : ρ x = .pointer (some ⟨g, 0, none⟩)) (hy : ρ y = .agg cells) (hb : Blk w g t old) (hn : cells.size = n) (hold : old.size = n) (h1 : cells.all (·.oneCell') = true)
    (h : ∀ w', Blk w' g t cells → Wr g w w' → R undef w') : OpRun P ρ o w R := by
  obtain ⟨d, hu, hd, hi⟩ := hr
  have hs := run_storeVar_row (P := P) w g t ty old cells hb (by rw [hi, hn]) (by rw [hold, hn]) h1
  unfold OpRun execOp
  simp only [ho, hx, hy, Instr.storeAt, Instr.sureAddr, Sem.run_bind, Sem.run_pure, Result.andThen_ok, hs]
  exact h _ (setRow_blk hb) ⟨fun w0 h0 he => setRow_ext h0 he, fun j _ hne => setRow_far w cells hne, by simp⟩
theorem putG (hw : RlT g t A X k s B Y w0 w) (hb : Blk w0 g t A) (hne : g ≠ k) (hr : RowT P ty n) (hX : X.size = n) (hA : A.size = n) (h1 : X.all (·.oneCell') = true) (ho : o.op = .store ty x y) (hx : ρ x = .pointer (some ⟨g, 0, none⟩)) (hy : ρ y = .agg X) :
    OpRun P ρ o w fun v' w' => RlT g t A X k s B Y w w' ∧ v' = undef ∧ Blk w' g t X := by
  have key : ∀ old : Array Value, Blk w g t old → old.size = n → OpRun P ρ o w fun v' w' => RlT g t A X k s B Y w w' ∧ v' = undef ∧ Blk w' g t X := fun old ho1 ho2 =>
    OpRun.put1 hr ho hx hy ho1 hX ho2 h1 fun w' e1 e2 => ⟨⟨fun v0 q1 _ q3 => e2.ext v0 q1 q3, fun j hj q1 _ => e2.oth j hj q1, e2.size, fun _ => .inr e1, fun _ => e1,
      fun q => q.elim (fun q => .inl (e2.blk q (Ne.symm hne))) (fun q => .inr (e2.blk q (Ne.symm hne))), fun q => e2.blk q (Ne.symm hne)⟩, rfl, e1⟩
  rcases hw.g0 (.inl hb) with h | h
  · exact key A h hA
  · exact key X h hX
theorem putK (hw : RlT g t A X k s B Y w0 w) (hb : Blk w0 k s B) (hne : g ≠ k) (hr : RowT P ty n) (hY : Y.size = n) (hB : B.size = n) (h1 : Y.all (·.oneCell') = true) (ho : o.op = .store ty x y) (hx : ρ x = .pointer (some ⟨k, 0, none⟩)) (hy : ρ y = .agg Y) :
    OpRun P ρ o w fun v' w' => RlT g t A X k s B Y w w' ∧ v' = undef ∧ Blk w' k s Y := by
  have key : ∀ old : Array Value, Blk w k s old → old.size = n → OpRun P ρ o w fun v' w' => RlT g t A X k s B Y w w' ∧ v' = undef ∧ Blk w' k s Y := fun old ho1 ho2 =>
    OpRun.put1 hr ho hx hy ho1 hY ho2 h1 fun w' e1 e2 => ⟨⟨fun v0 _ q2 q3 => e2.ext v0 q2 q3, fun j hj _ q2 => e2.oth j hj q2, e2.size,
      fun q => q.elim (fun q => .inl (e2.blk q hne)) (fun q => .inr (e2.blk q hne)), fun q => e2.blk q hne, fun _ => .inr e1, fun _ => e1⟩, rfl, e1⟩
  rcases hw.k0 (.inl hb) with h | h
  · exact key B h hB
  · exact key Y h hY
end
end Go.Proofs.YteiplklloajjaaaDoor
