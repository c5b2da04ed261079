/-
  One rule for each kind of operation, for walks that a program prints. No conditions.
-/
import Derived.Test.YtdhidmigngmgjaaReg
import Derived.Laws.Entries
import Derived.Deep.MidRow
import Derived.KernelRfl
import Derived.IntWalk
namespace Go.Proofs.Ytdhidmigngmgjaa
open Go.RowKit
set_option linter.unusedSimpArgs false
set_option linter.unusedVariables false

--# wpl
/-- The frame's slots as a list: cheap to evaluate. -/
def putL (a : Act) (d : Option Tmp) (v : Value) : Act :=
  match d with
  | some t => ⟨⟨a.tmps.toList.set t v⟩, a.defers⟩
  | none => a
theorem putL_eq (a : Act) (d : Option Tmp) (v : Value) : a.put d v = putL a d v := by
  cases d with
  | none => rfl
  | some t =>
    show (⟨_, _⟩ : Act) = ⟨_, _⟩
    congr 1
    apply Array.toList_inj.1
    simp
def evalL (a : Act) : Operand → Value
  | .tmp t => a.tmps.toList.getD t undef
  | .const v => v
  | .global g => .pointer (some ⟨g, 0, none⟩)
  | .func f => .func (.func f) #[] #[]
theorem evalL_eq (a : Act) : a.eval = evalL a := by
  funext x
  cases x with
  | tmp t => simp [Act.eval, evalL, Array.getD, List.getD]; split <;> simp_all
  | const v => rfl
  | global g => rfl
  | func f => rfl
section
variable {P : Program} {ops : Array Oper} {Q : Exit → Act → World → Prop} {l rest : List Oper} {o : Oper} {a : Act} {w : World}
theorem wpl_op {R : Value → World → Prop} (hl : l = o :: rest) (hw : Region.wanted o (yielded ops a.tmps) = true) (h : OpRun P (evalL a) o w R) (k : ∀ v w', R v w' → wpList P ops Q rest (putL a o.dst v) w') : wpList P ops Q l a w := by
  rw [hl]
  unfold wpList
  rw [if_pos hw]
  rw [← evalL_eq] at h
  exact .inl (OpRun.wp h rfl fun v w' hv => by rw [putL_eq]; exact k v w' hv)
theorem wpl_skip (hl : l = o :: rest) (hw : Region.wanted o (yielded ops a.tmps) = false) (k : wpList P ops Q rest (putL a o.dst undef) w) : wpList P ops Q l a w := by
  rw [hl]
  unfold wpList
  rw [if_neg (by rw [hw]; simp), putL_eq]
  exact k
theorem wpl_val (v0 v : Value) (hl : l = o :: rest) (hw : Region.wanted o (yielded ops a.tmps) = true) (hv : (execOp (evalL a) o).run P w = .ok (.value v0) w) (he : v0 = v) (k : wpList P ops Q rest (putL a o.dst v) w) : wpList P ops Q l a w := by
  subst he
  refine wpl_op (R := fun v' w' => v' = v0 ∧ w' = w) hl hw ?_ (fun v' w' h => by rw [h.1, h.2]; exact k)
  unfold OpRun
  rw [hv]
  exact ⟨rfl, rfl⟩
theorem wpl_skipop (hl : l = o :: rest) (hw : Region.wanted o (yielded ops a.tmps) = true) (hv : (execOp (evalL a) o).run P w = .ok .skip w) (k : wpList P ops Q rest (putL a o.dst undef) w) : wpList P ops Q l a w := by
  refine wpl_op (R := fun v' w' => v' = undef ∧ w' = w) hl hw ?_ (fun v' w' h => by rw [h.1, h.2]; exact k)
  unfold OpRun
  rw [hv]
  exact ⟨rfl, rfl⟩
/-- A call whose contract tells the value. -/
theorem wpl_call {V : Value} {S : World → Prop} (f : FuncId) (args : Array Value) (hl : l = o :: rest) (hw : Region.wanted o (yielded ops a.tmps) = true) (he : (execOp (evalL a) o).run P w = .ok (.enter f args) w)
    (hc : Calls P f args w fun e w' => e = .returned V ∧ S w') (k : ∀ w', S w' → wpList P ops Q rest (putL a o.dst V) w') : wpList P ops Q l a w := by
  refine wpl_op (R := fun v' w' => v' = V ∧ S w') hl hw ?_ (fun v' w' h => by rw [h.1]; exact k w' h.2)
  unfold OpRun
  rw [he]
  exact hc.mono fun e w' h => ⟨V, h.1, rfl, h.2⟩
/-- A call whose contract tells less. -/
theorem wpl_callx {R : Ending → World → Prop} {S : Value → World → Prop} (f : FuncId) (args : Array Value) (hl : l = o :: rest) (hw : Region.wanted o (yielded ops a.tmps) = true) (he : (execOp (evalL a) o).run P w = .ok (.enter f args) w)
    (hc : Calls P f args w R) (hR : ∀ e w', R e w' → ∃ v, e = .returned v ∧ S v w') (k : ∀ v w', S v w' → wpList P ops Q rest (putL a o.dst v) w') : wpList P ops Q l a w := by
  refine wpl_op (R := S) hl hw ?_ k
  unfold OpRun
  rw [he]
  exact hc.mono hR
end

--# closures
/-- The call of a function value. -/
def callV (V : Value) (xs : Array Value) : Sem Next := do
  let d ← Deferred.ofValue V xs
  invoke d.target d.args
def Clo (P : Program) (V : Value) (xs : Array Value) (f : FuncId) (full : Array Value) : Prop := ∀ w, (callV V xs).run P w = .ok (.enter f full) w

--# new blocks
section
variable {P : Program} {ρ : Operand → Value} {o : Oper} {w : World} {R : Value → World → Prop}
/-- A new block. -/
theorem OpRun.box {ty : TypeId} {x : Operand} {v : Value} (ho : o.op = .box ty x) (hx : ρ x = v) (h : R (.pointer (some ⟨w.heap.size, 0, none⟩)) (w.alloc (.cells v.cells ty))) : OpRun P ρ o w R := by
  unfold OpRun execOp
  simp only [ho, hx]
  exact h
theorem OpRun.alloc {ty : TypeId} {z : Value} (ho : o.op = .alloc ty) (hz : (zeroValue ty).run P w = .ok z w) (h : R (.pointer (some ⟨w.heap.size, 0, none⟩)) (w.alloc (.cells z.cells ty))) : OpRun P ρ o w R := by
  unfold OpRun execOp
  simp only [ho, Instr.alloc, Sem.run_bind, hz, Result.andThen_ok]
  exact h
end
section
variable {P : Program} {ops : Array Oper} {Q : Exit → Act → World → Prop} {l rest : List Oper} {o : Oper} {a : Act} {w : World}
theorem wpl_new {ty : TypeId} {cs : Array Value} (hl : l = o :: rest) (hw : Region.wanted o (yielded ops a.tmps) = true)
    (h : ∀ R : Value → World → Prop, R (.pointer (some ⟨w.heap.size, 0, none⟩)) (w.alloc (.cells cs ty)) → OpRun P (evalL a) o w R)
    (k : ∀ g w', Blk w' g ty cs → Ext w w' → w.heap.size ≤ g → wpList P ops Q rest (putL a o.dst (.pointer (some ⟨g, 0, none⟩))) w') : wpList P ops Q l a w := by
  refine wpl_op (R := fun v w' => ∃ g, v = .pointer (some ⟨g, 0, none⟩) ∧ Blk w' g ty cs ∧ Ext w w' ∧ w.heap.size ≤ g) hl hw (h _ ⟨_, rfl, Blk.new _ _ _, (Ext.refl _).alloc _, Nat.le_refl _⟩) ?_
  rintro v w' ⟨g, rfl, h1, h2, h3⟩
  exact k g w' h1 h2 h3
theorem wpl_box {ty : TypeId} {x : Operand} {v : Value} (cs : Array Value) (hl : l = o :: rest) (hw : Region.wanted o (yielded ops a.tmps) = true) (ho : o.op = .box ty x) (hx : evalL a x = v) (hv : v.cells = cs)
    (k : ∀ g w', Blk w' g ty cs → Ext w w' → w.heap.size ≤ g → wpList P ops Q rest (putL a o.dst (.pointer (some ⟨g, 0, none⟩))) w') : wpList P ops Q l a w :=
  wpl_new hl hw (fun R h => OpRun.box ho hx (by rw [hv]; exact h)) k
theorem wpl_alloc {ty : TypeId} {z : Value} (cs : Array Value) (hl : l = o :: rest) (hw : Region.wanted o (yielded ops a.tmps) = true) (ho : o.op = .alloc ty) (hz : ∀ w, (zeroValue ty).run P w = .ok z w) (hv : z.cells = cs)
    (k : ∀ g w', Blk w' g ty cs → Ext w w' → w.heap.size ≤ g → wpList P ops Q rest (putL a o.dst (.pointer (some ⟨g, 0, none⟩))) w') : wpList P ops Q l a w :=
  wpl_new hl hw (fun R h => OpRun.alloc ho (hz w) (by rw [hv]; exact h)) k
end

--# loads
/-- A type of one cell. -/
def ScalT (P : Program) (ty : TypeId) : Prop := ∃ d, P.underlying ty = some d ∧ rowDesc d = false ∧ (P.info? ty).map (·.size) = some 1
section
variable {P : Program} {ρ : Operand → Value} {o : Oper} {w : World} {R : Value → World → Prop} {g off : Nat} {ty : TypeId} {x : Operand}
theorem run_isAgg {ty : TypeId} {d : TypeDesc} (hu : P.underlying ty = some d) (w : World) : (isAgg ty).run P w = .ok (rowDesc d) w := by
  unfold isAgg
  rw [Sem.run_bind, run_underlying hu w]
  cases d <;> rfl
theorem OpRun.cell {v : Value} (hs : ScalT P ty) (ho : o.op = .load ty x) (hx : ρ x = .pointer (some ⟨g, off, none⟩)) (hc : w.cell? ⟨g, off, none⟩ = some v) (h : R v w) : OpRun P ρ o w R := by
  obtain ⟨d, hu, hd, _⟩ := hs
  have hl : (loadVar ty ⟨g, off, none⟩).run P w = .ok v w := by
    unfold loadVar
    rw [Sem.run_bind, run_isAgg hu, hd]
    simp [Result.andThen, load, Sem.run, hc]
  unfold OpRun execOp
  simp only [ho, hx, Instr.loadAt, Instr.sureAddr, Sem.run_bind, Sem.run_pure, Result.andThen_ok, hl]
  exact h
/-- A row within a block. -/
theorem OpRun.mid {cs : List Value} {n : Nat} (hr : RowT P ty n) (hn : cs.length = n) (hc : w.rangeAt g off cs) (ho : o.op = .load ty x) (hx : ρ x = .pointer (some ⟨g, off, none⟩)) (h : R (.agg cs.toArray) w) : OpRun P ρ o w R := by
  obtain ⟨d, hu, hd, hi⟩ := hr
  have hl := run_loadVar_mid (P := P) w g off ty cs d hc hu (by cases d <;> simp_all [rowDesc]) (by rw [hi, hn])
  unfold OpRun execOp
  simp only [ho, hx, Instr.loadAt, Instr.sureAddr, Sem.run_bind, Sem.run_pure, Result.andThen_ok, hl]
  exact h
end
section
variable {P : Program} {ops : Array Oper} {Q : Exit → Act → World → Prop} {l rest : List Oper} {o : Oper} {a : Act} {w : World} {ty : TypeId} {g off : Nat} {x : Operand}
theorem wpl_cell (v : Value) (hl : l = o :: rest) (hw : Region.wanted o (yielded ops a.tmps) = true) (hs : ScalT P ty) (ho : o.op = .load ty x) (hx : evalL a x = .pointer (some ⟨g, off, none⟩)) (hc : w.cell? ⟨g, off, none⟩ = some v)
    (k : wpList P ops Q rest (putL a o.dst v) w) : wpList P ops Q l a w :=
  wpl_op (R := fun v' w' => v' = v ∧ w' = w) hl hw (OpRun.cell hs ho hx hc ⟨rfl, rfl⟩) (fun v' w' h => by rw [h.1, h.2]; exact k)
theorem wpl_row {t : TypeId} {n : Nat} (cs : Array Value) (hl : l = o :: rest) (hw : Region.wanted o (yielded ops a.tmps) = true) (hr : RowT P ty n) (hb : Blk w g t cs) (hn : cs.size = n) (ho : o.op = .load ty x) (hx : evalL a x = .pointer (some ⟨g, 0, none⟩))
    (k : wpList P ops Q rest (putL a o.dst (.agg cs)) w) : wpList P ops Q l a w :=
  wpl_op (R := fun v' w' => v' = .agg cs ∧ w' = w) hl hw (OpRun.row hr hb hn ho hx ⟨rfl, rfl⟩) (fun v' w' h => by rw [h.1, h.2]; exact k)
theorem wpl_mid {n : Nat} (cs : Array Value) (hl : l = o :: rest) (hw : Region.wanted o (yielded ops a.tmps) = true) (hr : RowT P ty n) (hn : cs.size = n) (hc : w.rangeAt g off cs.toList) (ho : o.op = .load ty x) (hx : evalL a x = .pointer (some ⟨g, off, none⟩))
    (k : wpList P ops Q rest (putL a o.dst (.agg cs)) w) : wpList P ops Q l a w :=
  wpl_op (R := fun v' w' => v' = .agg cs ∧ w' = w) hl hw (OpRun.mid hr (by simpa using hn) hc ho hx ⟨by simp, rfl⟩) (fun v' w' h => by rw [h.1, h.2]; exact k)
end

--# writes
/-- Block b alone has been written (and new blocks made). -/
structure Wr (b : Nat) (w w' : World) : Prop where
  ext : ∀ w0 : World, w0.heap.size ≤ b → Ext w0 w → Ext w0 w'
  oth : ∀ k, k < w.heap.size → k ≠ b → w'.heap[k]? = w.heap[k]?
  size : w.heap.size ≤ w'.heap.size
theorem Wr.blk {b g : Nat} {w w' : World} {t : TypeId} {cs : Array Value} (h : Wr b w w') (hb : Blk w g t cs) (hne : g ≠ b) : Blk w' g t cs := (h.oth g hb.lt hne).trans hb
theorem Wr.trans {b : Nat} {w w' w'' : World} (h : Wr b w w') (k : Wr b w' w'') : Wr b w w'' :=
  ⟨fun w0 h0 he => k.ext w0 h0 (h.ext w0 h0 he), fun j hj hne => (k.oth j (Nat.lt_of_lt_of_le hj h.size) hne).trans (h.oth j hj hne), Nat.le_trans h.size k.size⟩
theorem Wr.of_ext {b : Nat} {w w' : World} (h : Ext w w') : Wr b w w' :=
  ⟨fun w0 h0 he => he.trans h, fun j hj _ => h.below.block j hj, h.size⟩
theorem Wr.setCell (w : World) (g off : Nat) (v : Value) : Wr g w (w.setCell ⟨g, off, none⟩ v) :=
  ⟨fun w0 h0 he => he.setCell (p := ⟨g, off, none⟩) h0 v, fun j hj hne => Below.heap_setCell w ⟨g, off, none⟩ v j hne, by simp⟩
section
variable {P : Program} {ops : Array Oper} {Q : Exit → Act → World → Prop} {l rest : List Oper} {o : Oper} {a : Act} {w : World} {ty t : TypeId} {g off : Nat} {x y : Operand}
theorem run_storeVar_one {v : Value} {cs : Array Value} (hs : ScalT P ty) (hv : v.oneCell' = true) (hb : Blk w g t cs) (ho : off < cs.size) : (storeVar ty ⟨g, off, none⟩ v).run P w = .ok () (w.setCell ⟨g, off, none⟩ v) := by
  obtain ⟨d, hu, hd, hi⟩ := hs
  have hc : w.cell? ⟨g, off, none⟩ = some cs[off] := by rw [hb.cell]; exact Array.getElem?_eq_getElem ho
  have hf := hb.frozen off
  cases hq : P.info? ty with
  | none => simp [hq] at hi
  | some i =>
    have hsz : i.size = 1 := by simpa [hq] using hi
    cases v <;> first | (simp [Value.oneCell'] at hv; done) | simp [storeVar, sizeOf, typeInfo, hq, hsz, Value.cells, storeCells, Addr.add, store, Sem.run, hc, hf, Sem.run_bind]
theorem wpl_set {cs : Array Value} (v : Value) (hl : l = o :: rest) (hw : Region.wanted o (yielded ops a.tmps) = true) (hs : ScalT P ty) (ho : o.op = .store ty x y) (hx : evalL a x = .pointer (some ⟨g, off, none⟩)) (hy : evalL a y = v)
    (hv : v.oneCell' = true) (hb : Blk w g t cs) (hoff : off < cs.size) (k : ∀ w', Blk w' g t (cs.setIfInBounds off v) → Wr g w w' → wpList P ops Q rest (putL a o.dst undef) w') : wpList P ops Q l a w := by
  refine wpl_op (R := fun v' w' => v' = undef ∧ Blk w' g t (cs.setIfInBounds off v) ∧ Wr g w w') hl hw ?_ (fun v' w' h => by rw [h.1]; exact k w' h.2.1 h.2.2)
  have hr := run_storeVar_one (P := P) (w := w) (ty := ty) hs hv hb hoff
  unfold OpRun execOp
  simp only [ho, hx, hy, Instr.storeAt, Instr.sureAddr, Sem.run_bind, Sem.run_pure, Result.andThen_ok, hr]
  first | exact ⟨rfl, hb.set_ off v, Wr.setCell w g off v⟩ | exact ⟨trivial, hb.set_ off v, Wr.setCell w g off v⟩
theorem wpl_put {n : Nat} {old : Array Value} (cells : Array Value) (hl : l = o :: rest) (hw : Region.wanted o (yielded ops a.tmps) = true) (hr : RowT P ty n) (ho : o.op = .store ty x y) (hx : evalL a x = .pointer (some ⟨g, 0, none⟩)) (hy : evalL a y = .agg cells)
    (hb : Blk w g t old) (hn : cells.size = n) (hold : old.size = n) (h1 : cells.all (·.oneCell') = true) (k : ∀ w', Blk w' g t cells → Wr g w w' → wpList P ops Q rest (putL a o.dst undef) w') : wpList P ops Q l a w := by
  refine wpl_op (R := fun v' w' => v' = undef ∧ Blk w' g t cells ∧ Wr g w w') hl hw ?_ (fun v' w' h => by rw [h.1]; exact k w' h.2.1 h.2.2)
  obtain ⟨d, hu, hd, hi⟩ := hr
  have hs := run_storeVar_row (P := P) w g t ty old cells hb (by rw [hi, hn]) (by rw [hold, hn]) h1
  unfold OpRun execOp
  simp only [ho, hx, hy, Instr.storeAt, Instr.sureAddr, Sem.run_bind, Sem.run_pure, Result.andThen_ok, hs]
  refine ⟨trivial, setRow_blk hb, ⟨fun w0 h0 he => setRow_ext h0 he, fun j _ hne => setRow_far w cells hne, by simp⟩⟩
end
/-- A part of a row put anew. -/
def spliceAt (old : Array Value) (off : Nat) (new : List Value) : Array Value := (old.toList.take off ++ new ++ old.toList.drop (off + new.length)).toArray
theorem setCells_blk (b : Nat) (t : TypeId) : ∀ (vs : List Value) (o : Nat) (w : World) (old : Array Value), Blk w b t old → o + vs.length ≤ old.size → Blk (w.setCells b o vs) b t (spliceAt old o vs)
  | [], o, w, old, h, hl => by
    have : spliceAt old o [] = old := by
      unfold spliceAt
      simp
    rw [this]
    exact h
  | v :: r, o, w, old, h, hl => by
    have hl' : o + 1 + r.length ≤ old.size := by simpa [Nat.add_assoc, Nat.add_comm 1] using hl
    have ih := setCells_blk b t r (o + 1) (w.setCell ⟨b, o, none⟩ v) (old.setIfInBounds o v) (h.set_ o v) (by simpa using hl')
    have e : spliceAt (old.setIfInBounds o v) (o + 1) r = spliceAt old o (v :: r) := by
      have hos : o < old.toList.length := by simp at hl ⊢; omega
      unfold spliceAt
      rw [Array.toList_setIfInBounds]
      have e1 : (old.toList.set o v).take (o + 1) = old.toList.take o ++ [v] := by
        rw [List.take_add_one, List.getElem?_set_self hos, List.take_set_of_le (Nat.le_refl o)]
        rfl
      have e2 : (old.toList.set o v).drop (o + 1 + r.length) = old.toList.drop (o + (v :: r).length) := by
        rw [List.drop_set_of_lt (by omega), List.length_cons]
        congr 1
        omega
      rw [e1, e2]
      simp
    rw [← e]
    exact ih
theorem setCells_far (b : Nat) : ∀ (vs : List Value) (o : Nat) (w : World) (k : Nat), k ≠ b → (w.setCells b o vs).heap[k]? = w.heap[k]?
  | [], _, _, _, _ => rfl
  | v :: r, o, w, k, h => by
    rw [World.setCells]
    exact (setCells_far b r (o + 1) _ k h).trans (Below.heap_setCell w ⟨b, o, none⟩ v k h)
theorem setCells_ext (b : Nat) {w0 : World} (hb : w0.heap.size ≤ b) : ∀ (vs : List Value) (o : Nat) (w : World), Ext w0 w → Ext w0 (w.setCells b o vs)
  | [], _, _, h => h
  | v :: r, o, w, h => by
    rw [World.setCells]
    exact setCells_ext b hb r (o + 1) _ (h.setCell (p := ⟨b, o, none⟩) hb v)
theorem setCells_size (b : Nat) : ∀ (vs : List Value) (o : Nat) (w : World), (w.setCells b o vs).heap.size = w.heap.size
  | [], _, _ => rfl
  | v :: r, o, w => by
    rw [World.setCells, setCells_size b r]
    simp
section
variable {P : Program} {ops : Array Oper} {Q : Exit → Act → World → Prop} {l rest : List Oper} {o : Oper} {a : Act} {w : World} {ty t : TypeId} {g off : Nat} {x y : Operand}
theorem wpl_putmid {n : Nat} {old : Array Value} (cells : Array Value) (hl : l = o :: rest) (hw : Region.wanted o (yielded ops a.tmps) = true) (hr : RowT P ty n) (ho : o.op = .store ty x y) (hx : evalL a x = .pointer (some ⟨g, off, none⟩)) (hy : evalL a y = .agg cells)
    (hb : Blk w g t old) (hn : cells.size = n) (hold : off + n ≤ old.size) (h1 : cells.all (·.oneCell') = true) (k : ∀ w', Blk w' g t (spliceAt old off cells.toList) → Wr g w w' → wpList P ops Q rest (putL a o.dst undef) w') : wpList P ops Q l a w := by
  refine wpl_op (R := fun v' w' => v' = undef ∧ Blk w' g t (spliceAt old off cells.toList) ∧ Wr g w w') hl hw ?_ (fun v' w' h => by rw [h.1]; exact k w' h.2.1 h.2.2)
  obtain ⟨d, hu, hd, hi⟩ := hr
  have hth : w.there g off cells.size := fun j hj => by
    have hlt : off + j < old.size := by omega
    exact ⟨by rw [hb.cell, Array.getElem?_eq_getElem hlt]; rfl, hb.frozen _⟩
  have hs := run_storeVar_mid (P := P) w g off ty cells hth (by rw [hi, hn]) h1
  unfold OpRun execOp
  simp only [ho, hx, hy, Instr.storeAt, Instr.sureAddr, Sem.run_bind, Sem.run_pure, Result.andThen_ok, hs]
  refine ⟨trivial, setCells_blk g t cells.toList off w old hb (by simp; omega), ⟨fun w0 h0 he => setCells_ext g h0 _ _ _ he, fun j _ hne => setCells_far g _ _ _ j hne, by rw [setCells_size]; exact Nat.le_refl _⟩⟩
end

--# indexaddr
section
variable {P : Program} {ρ : Operand → Value} {o : Oper} {w : World} {R : Value → World → Prop} {g off : Nat} {ty e : TypeId} {x y : Operand}
/-- An array's type: n elements of one cell. -/
def ArrT (P : Program) (ty : TypeId) (n : Nat) : Prop := ∃ e, P.underlying ty = some (.array n e) ∧ (P.info? e).map (·.size) = some 1
/-- A slice's type: elements of m cells. -/
def SliT (P : Program) (ty : TypeId) (m : Nat) : Prop := ∃ e, P.underlying ty = some (.slice e) ∧ (P.info? e).map (·.size) = some m
theorem run_size {e : TypeId} {m : Nat} (h : (P.info? e).map (·.size) = some m) (w : World) : (sizeOf e).run P w = .ok m w := by
  cases hq : P.info? e with
  | none => simp [hq] at h
  | some i =>
    have : i.size = m := by simpa [hq] using h
    simp [sizeOf, typeInfo, hq, this]
theorem OpRun.ixa {n : Nat} {k : IntKind} {i : Int} (ha : ArrT P ty n) (ho : o.op = .indexAddr ty x y) (hx : ρ x = .pointer (some ⟨g, off, none⟩)) (hy : ρ y = .int k i) (h0 : 0 ≤ i) (h1 : i < n)
    (h : R (.pointer (some ⟨g, off + i.toNat, none⟩)) w) : OpRun P ρ o w R := by
  obtain ⟨e, hu, hi⟩ := ha
  have hr : (Instr.indexAt ty (ρ x) (ρ y)).run P w = .ok (.pointer (some ⟨g, off + i.toNat, none⟩)) w := by
    rw [hx, hy]
    unfold Instr.indexAt
    simp [Sem.run_bind, asIntOf, run_underlying hu w, Instr.sureAddr, h0, h1, run_size hi, Addr.add_mid]
  unfold OpRun execOp
  simp only [ho, Sem.run_bind, hr, Result.andThen_ok]
  exact h
theorem OpRun.ixan {n : Nat} {k : IntKind} {i : Nat} (ha : ArrT P ty n) (ho : o.op = .indexAddr ty x y) (hx : ρ x = .pointer (some ⟨g, off, none⟩)) (hy : ρ y = .int k (i : Int)) (h1 : i < n)
    (h : R (.pointer (some ⟨g, off + i, none⟩)) w) : OpRun P ρ o w R :=
  OpRun.ixa ha ho hx hy (Int.natCast_nonneg i) (by omega) (by rw [Int.toNat_natCast]; exact h)
end
section
variable {P : Program} {ops : Array Oper} {Q : Exit → Act → World → Prop} {l rest : List Oper} {o : Oper} {a : Act} {w : World} {ty : TypeId} {g off : Nat} {x y : Operand}
theorem wpl_ixan {n : Nat} {k : IntKind} {i : Nat} (hl : l = o :: rest) (hw : Region.wanted o (yielded ops a.tmps) = true) (ha : ArrT P ty n) (ho : o.op = .indexAddr ty x y) (hx : evalL a x = .pointer (some ⟨g, off, none⟩)) (hy : evalL a y = .int k (i : Int)) (h1 : i < n)
    (k : wpList P ops Q rest (putL a o.dst (.pointer (some ⟨g, off + i, none⟩))) w) : wpList P ops Q l a w :=
  wpl_op (R := fun v' w' => v' = _ ∧ w' = w) hl hw (OpRun.ixan ha ho hx hy h1 ⟨rfl, rfl⟩) (fun v' w' h => by rw [h.1, h.2]; exact k)
theorem wpl_ixa {n : Nat} {k : IntKind} {i : Int} (hl : l = o :: rest) (hw : Region.wanted o (yielded ops a.tmps) = true) (ha : ArrT P ty n) (ho : o.op = .indexAddr ty x y) (hx : evalL a x = .pointer (some ⟨g, off, none⟩)) (hy : evalL a y = .int k i) (h0 : 0 ≤ i) (h1 : i < n)
    (k : wpList P ops Q rest (putL a o.dst (.pointer (some ⟨g, off + i.toNat, none⟩))) w) : wpList P ops Q l a w :=
  wpl_op (R := fun v' w' => v' = _ ∧ w' = w) hl hw (OpRun.ixa ha ho hx hy h0 h1 ⟨rfl, rfl⟩) (fun v' w' h => by rw [h.1, h.2]; exact k)
end

--# index
section
variable {P : Program} {ops : Array Oper} {Q : Exit → Act → World → Prop} {l rest : List Oper} {o : Oper} {a : Act} {w : World} {ty : TypeId} {x y : Operand} {ρ : Operand → Value} {R : Value → World → Prop}
/-- An array of one-cell elements. -/
def ArrE (P : Program) (ty : TypeId) (n : Nat) : Prop := ∃ e, P.underlying ty = some (.array n e) ∧ (P.info? e).map (·.size) = some 1 ∧ ∀ w, (isAgg e).run P w = .ok false w
theorem OpRun.index {n : Nat} {k k2 : IntKind} {f : Nat → Int} {i : Nat} (ha : ArrE P ty n) (ho : o.op = .index ty x y) (hx : ρ x = .agg (arr n k f)) (hy : ρ y = .int k2 (i : Int)) (h1 : i < n)
    (h : R (.int k (f i)) w) : OpRun P ρ o w R := by
  obtain ⟨e, hu, hi, hg⟩ := ha
  have hr : (Instr.index ty (ρ x) (ρ y)).run P w = .ok (.int k (f i)) w := by
    rw [hx, hy]
    unfold Instr.index part
    simp [Sem.run_bind, asIntOf, run_underlying hu w, run_size hi, h1, hg, get_arr h1]
  unfold OpRun execOp
  simp only [ho, Sem.run_bind, hr, Result.andThen_ok]
  exact h
theorem wpl_index {n : Nat} {k k2 : IntKind} {f : Nat → Int} {i : Nat} (hl : l = o :: rest) (hw : Region.wanted o (yielded ops a.tmps) = true) (ha : ArrE P ty n) (ho : o.op = .index ty x y) (hx : evalL a x = .agg (arr n k f)) (hy : evalL a y = .int k2 (i : Int)) (h1 : i < n)
    (kk : wpList P ops Q rest (putL a o.dst (.int k (f i))) w) : wpList P ops Q l a w :=
  wpl_op (R := fun v' w' => v' = .int k (f i) ∧ w' = w) hl hw (OpRun.index ha ho hx hy h1 ⟨rfl, rfl⟩) (fun v' w' h => by rw [h.1, h.2]; exact kk)
end

--# arith
theorem sq_in {x : Int} (h : -3000000000 ≤ x ∧ x ≤ 3000000000) : -9223372036854775808 ≤ x * x ∧ x * x ≤ 9223372036854775807 := by
  have h1 : x * x = (x.natAbs : Int) * (x.natAbs : Int) := by rw [← Int.natCast_mul, Int.natAbs_mul_self]
  have h2 : x.natAbs ≤ 3000000000 := by omega
  have h3 : x.natAbs * x.natAbs ≤ 3000000000 * 3000000000 := Nat.mul_le_mul h2 h2
  rw [h1, ← Int.natCast_mul]
  omega
theorem quo_in {x y : Int} (h0 : 0 ≤ x ∧ x ≤ 9223372036854775807) (h1 : 0 < y) : IntKind.i64.wrap (Int.tdiv x y) = x / y := by
  rw [Int.tdiv_eq_ediv_of_nonneg h0.1]
  have h2 := Int.ediv_le_self y h0.1
  have h3 := Int.ediv_nonneg h0.1 (Int.le_of_lt h1)
  exact IntWalk.i64_in _ (by omega)
section
variable {P : Program} {ρ : Operand → Value} {o : Oper} {w : World} {R : Value → World → Prop} {ty ty2 : TypeId} {x y : Operand} {k k2 : IntKind} {a n : Int}
theorem OpRun.val (v0 v : Value) (hv : (execOp ρ o).run P w = .ok (.value v0) w) (he : v0 = v) (h : R v w) : OpRun P ρ o w R := by
  subst he
  unfold OpRun
  rw [hv]
  exact h
theorem OpRun.call (f : FuncId) (args : Array Value) (he : (execOp ρ o).run P w = .ok (.enter f args) w) (hc : Calls P f args w fun e w'' => ∃ v, e = .returned v ∧ R v w'') : OpRun P ρ o w R := by
  unfold OpRun
  rw [he]
  exact hc
theorem run_guard_shift (op : BinOp) (h : op = .shl ∨ op = .shr) (t : TypeId) (x y : Operand) (u v : Value) : (eqGuard op t x y u v).run P w = .ok () w := by
  rcases h with rfl | rfl <;> rfl
theorem OpRun.shr (ho : o.op = .binOp .shr ty x y ty2) (hx : ρ x = .int k a) (hy : ρ y = .int k2 n) (h0 : 0 ≤ n) (h1 : n < k.bits) (h : R (.int k (a / 2 ^ n.toNat)) w) : OpRun P ρ o w R := by
  have hr : (binOp .shr ty (.int k a) (.int k2 n)).run P w = .ok (.int k (a / 2 ^ n.toNat)) w := by
    have h2 : ¬ n < 0 := by omega
    have h3 : min n.toNat k.bits = n.toNat := by omega
    have h4 : a.fdiv (2 ^ n.toNat) = a / 2 ^ n.toNat := Int.fdiv_eq_ediv_of_nonneg _ (Int.le_of_lt (Int.pow_pos (by omega)))
    simp only [binOp, Op.shift, h2, if_false, h3, h4, Sem.run_pure]
  unfold OpRun execOp
  simp only [ho, hx, hy, Sem.run_bind, run_guard_shift .shr (.inr rfl), Result.andThen_ok, hr]
  exact h
theorem OpRun.shl (ho : o.op = .binOp .shl ty x y ty2) (hx : ρ x = .int k a) (hy : ρ y = .int k2 n) (h0 : 0 ≤ n) (h1 : n < k.bits) (h : R (.int k (k.wrap (a * 2 ^ n.toNat))) w) : OpRun P ρ o w R := by
  have hr : (binOp .shl ty (.int k a) (.int k2 n)).run P w = .ok (.int k (k.wrap (a * 2 ^ n.toNat))) w := by
    have h2 : ¬ n < 0 := by omega
    have h3 : min n.toNat k.bits = n.toNat := by omega
    simp only [binOp, Op.shift, h2, if_false, h3, Sem.run_pure]
  unfold OpRun execOp
  simp only [ho, hx, hy, Sem.run_bind, run_guard_shift .shl (.inl rfl), Result.andThen_ok, hr]
  exact h
end
theorem Wr.own {b g : Nat} {w w1 w2 : World} (h : Wr b w w1) (k : Wr g w1 w2) (hg : w.heap.size ≤ g) : Wr b w w2 :=
  ⟨fun w0 h0 he => k.ext w0 (Nat.le_trans he.size hg) (h.ext w0 h0 he), fun j hj hne => (k.oth j (Nat.lt_of_lt_of_le hj h.size) (by omega)).trans (h.oth j hj hne), Nat.le_trans h.size k.size⟩
theorem cells2a (x y c : Int) (h1 : 0 ≤ c) (h2 : c ≤ 127) : (#[Value.int IntKind.u64 x, Value.int IntKind.u64 y] : Array Value)[(c / 64).toNat]? = some (.int .u64 (wd x y c)) := by
  have := cells2 x y c h1 h2
  simpa using this
theorem Fld.putk {F : Fld} {f : Nat → Int} : spliceAt F.cells 2 (arr 100 .u8 f).toList = Fld.cells { F with k := f } := by
  refine Fld.ext_cells ?_ (fun i hi => ?_)
  · simp [spliceAt, size_arr, Fld.size_cells]
  · rw [Fld.get _ i hi]
    have hs : F.cells.toList.length = 202 := by simp [Fld.size_cells]
    have hl : (arr 100 .u8 f).toList.length = 100 := by simp [size_arr]
    unfold spliceAt
    rw [List.getElem?_toArray, List.append_assoc]
    by_cases h2 : i < 2
    · rw [List.getElem?_append_left (by simp [hs]; omega), List.getElem?_take_of_lt h2, Array.getElem?_toList, F.get i hi]
      rcases (show i = 0 ∨ i = 1 by omega) with rfl | rfl <;> simp
    · rw [List.getElem?_append_right (by simp [hs]; omega)]
      have e : i - (List.take 2 F.cells.toList).length = i - 2 := by simp [hs]
      rw [e]
      by_cases h3 : i < 102
      · rw [List.getElem?_append_left (by rw [hl]; omega), Array.getElem?_toList, get_arr (by omega), if_neg (by omega), if_neg (by omega), if_pos h3]
      · rw [List.getElem?_append_right (by rw [hl]; omega), hl, List.getElem?_drop, Array.getElem?_toList, show 2 + 100 + (i - 2 - 100) = i by omega, F.get i hi, if_neg (by omega), if_neg (by omega), if_neg h3, if_neg (by omega), if_neg (by omega), if_neg h3]
theorem Fld.puts {F : Fld} {f : Nat → Int} : spliceAt F.cells 102 (arr 100 .i16 f).toList = Fld.cells { F with s := f } := by
  refine Fld.ext_cells ?_ (fun i hi => ?_)
  · simp [spliceAt, size_arr, Fld.size_cells]
  · rw [Fld.get _ i hi]
    have hs : F.cells.toList.length = 202 := by simp [Fld.size_cells]
    have hl : (arr 100 .i16 f).toList.length = 100 := by simp [size_arr]
    unfold spliceAt
    rw [List.getElem?_toArray, List.append_assoc]
    by_cases h2 : i < 102
    · rw [List.getElem?_append_left (by simp [hs]; omega), List.getElem?_take_of_lt h2, Array.getElem?_toList, F.get i hi]
      by_cases h0 : i = 0
      · subst h0; simp
      · by_cases h1 : i = 1
        · subst h1; simp
        · simp only [if_neg h0, if_neg h1, if_pos h2]
    · rw [List.getElem?_append_right (by simp [hs]; omega)]
      have e : i - (List.take 102 F.cells.toList).length = i - 102 := by simp [hs]
      rw [e, List.getElem?_append_left (by rw [hl]; omega), Array.getElem?_toList, get_arr (by omega), if_neg (by omega), if_neg (by omega), if_neg h2]
--# chains
section
variable {P : Program} {Q : Exit → Act → World → Prop} {next : Act → World → Prop} {a : Act} {w : World} {id id' : Nat}
theorem then_exit (h : Q (.exit id) a w) : Exit.then next Q (.exit id) a w := h
theorem then_ret (h : Q .ret a w) : Exit.then next Q .ret a w := h
theorem block_normal (h : Q .normal a w) : Exit.inBlock id Q .normal a w := h
theorem block_ret (h : Q .ret a w) : Exit.inBlock id Q .ret a w := h
theorem block_exit (h : Q .normal a w) : Exit.inBlock id Q (.exit id) a w := by
  show if id = id then Q .normal a w else Q (.exit id) a w
  rw [if_pos rfl]
  exact h
theorem block_exit_ne (hne : id' ≠ id) (h : Q (.exit id') a w) : Exit.inBlock id Q (.exit id') a w := by
  show if id' = id then Q .normal a w else Q (.exit id') a w
  rw [if_neg hne]
  exact h
/-- A loop with a measure that stands in no slot. -/
theorem wp_loop_k {c : Code} (I : Nat → Act → World → Prop) (n : Nat) (h0 : I n a w) (round : ∀ m a w, I m a w → c.wp P (Exit.then (fun a' w' => ∃ m', m' < m ∧ I m' a' w') Q) a w) : (Code.loop c).wp P Q a w := by
  classical
  have ex : ∀ a w, (∃ m, I m a w) → ∃ m, I m a w ∧ ∀ m', m' < m → ¬ I m' a w := fun a w ⟨m, hm⟩ => by
    induction m using Nat.strongRecOn with
    | _ m ih =>
      by_cases h : ∃ m', m' < m ∧ I m' a w
      · obtain ⟨m', hlt, hm'⟩ := h
        exact ih m' hlt hm'
      · exact ⟨m, hm, fun m' hlt hm' => h ⟨m', hlt, hm'⟩⟩
  refine wp_loop (fun a w => ∃ m, I m a w) (fun a w => if h : ∃ m, I m a w then (ex a w h).choose else 0) ⟨n, h0⟩ (fun a w hI => ?_)
  have hs := (ex a w hI).choose_spec
  refine Code.wp_mono ?_ (round _ a w hs.1)
  intro e a' w' hq
  cases e with
  | normal =>
    obtain ⟨m', hlt, hm'⟩ := hq
    have hex : ∃ m, I m a' w' := ⟨m', hm'⟩
    refine ⟨hex, ?_⟩
    rw [dif_pos hex, dif_pos hI]
    have hs' := (ex a' w' hex).choose_spec
    rcases Nat.lt_or_ge m' (ex a' w' hex).choose with h | h
    · exact absurd hm' (hs'.2 m' h)
    · exact Nat.lt_of_le_of_lt h hlt
  | _ => exact hq
theorem split_bool (b : Bool) {p : Prop} (ht : b = true → p) (hf : b = false → p) : p := by
  cases b
  · exact hf rfl
  · exact ht rfl
theorem wpl_frame {ops : Array Oper} {l : List Oper} {a' : Act} (h : a = a') (k : wpList P ops Q l a' w) : wpList P ops Q l a w := h ▸ k
theorem body_frame {fn : Func} {R : Ending → World → Prop} {e : Exit} {a' : Act} (h : a = a') (k : bodyPost P fn R e a' w) : bodyPost P fn R e a w := h ▸ k
theorem q_frame {e : Exit} {a' : Act} (h : a = a') (k : Q e a' w) : Q e a w := h ▸ k
end

--# results
/-- What a result variable holds. -/
def ResIs (P : Program) (W : World) (tmps : Array Value) : ResultVar → Value → Prop
  | .tmp t, v => tmps.getD t undef = v
  | .cell p ty, v => ∃ g t cs n, tmps.getD p undef = .pointer (some ⟨g, 0, none⟩) ∧ Blk W g t cs ∧ RowT P ty n ∧ cs.size = n ∧ v = .agg cs
def resVar (tmps : Array Value) : ResultVar → Sem Value
  | .tmp t => pure (tmps.getD t undef)
  | .cell p t => do loadVar t (← asAddr (tmps.getD p undef))
theorem results_eq (fn : Func) (tmps : Array Value) : results fn tmps = (do let vs ← fn.results.mapM (resVar tmps); pure (if h : vs.size = 1 then vs[0] else .tuple vs)) := by
  unfold results
  have : (fun r : ResultVar => (match r with | .tmp t => pure (tmps.getD t undef) | .cell a t => do loadVar t (← asAddr (tmps.getD a undef)) : Sem Value)) = resVar tmps := by
    funext r
    cases r <;> rfl
  exact congrArg (fun f => (do let vs ← fn.results.mapM f; pure (if h : vs.size = 1 then vs[0] else .tuple vs) : Sem Value)) this
theorem run_resVar {P : Program} {W : World} {tmps : Array Value} {r : ResultVar} {v : Value} (h : ResIs P W tmps r v) : (resVar tmps r).run P W = .ok v W := by
  cases r with
  | tmp t => simp only [ResIs] at h; simp only [resVar, h, Sem.run_pure]
  | cell p ty =>
    obtain ⟨g, t, cs, n, hp, hb, ⟨d, hu, hd, hi⟩, hn, rfl⟩ := h
    have hl := run_loadVar_row (P := P) W g t ty cs (0, 0) d hb hu (by cases d <;> simp_all [rowDesc]) (by rw [hi, hn])
    simp only [resVar, hp, asAddr, Sem.run_bind, Sem.run_pure, Result.andThen_ok, hl]
section
variable {P : Program} {fn : Func} {R : Ending → World → Prop} {a : Act} {w : World} {e : Exit}
theorem ret0 (hres : fn.results = #[]) (hd : a.defers = []) (hR : R (.returned (.tuple #[])) w) : bodyPost P fn R .ret a w := bodyPost_ret (results_none hres _ _ _) hd hR
theorem end0_ (hres : fn.results = #[]) (hd : a.defers = []) (hR : R (.returned (.tuple #[])) w) : bodyPost P fn R .normal a w := bodyPost_end (results_none hres _ _ _) hd hR
theorem ret1 {r : ResultVar} (v : Value) (hres : fn.results = #[r]) (h : ResIs P w a.tmps r v) (hd : a.defers = []) (hR : R (.returned v) w) : bodyPost P fn R .ret a w := by
  refine bodyPost_ret (v := v) ?_ hd hR
  have h1 := run_resVar h
  rw [results_eq, hres]
  simp [h1]
theorem ret2 {r0 r1 : ResultVar} (v0 v1 : Value) (hres : fn.results = #[r0, r1]) (h0 : ResIs P w a.tmps r0 v0) (h1 : ResIs P w a.tmps r1 v1) (hd : a.defers = []) (hR : R (.returned (.tuple #[v0, v1])) w) : bodyPost P fn R .ret a w := by
  refine bodyPost_ret (v := .tuple #[v0, v1]) ?_ hd hR
  have k0 := run_resVar h0
  have k1 := run_resVar h1
  rw [results_eq, hres]
  simp [k0, k1]
theorem ret3 {r0 r1 r2 : ResultVar} (v0 v1 v2 : Value) (hres : fn.results = #[r0, r1, r2]) (h0 : ResIs P w a.tmps r0 v0) (h1 : ResIs P w a.tmps r1 v1) (h2 : ResIs P w a.tmps r2 v2) (hd : a.defers = []) (hR : R (.returned (.tuple #[v0, v1, v2])) w) : bodyPost P fn R .ret a w := by
  refine bodyPost_ret (v := .tuple #[v0, v1, v2]) ?_ hd hR
  have k0 := run_resVar h0
  have k1 := run_resVar h1
  have k2 := run_resVar h2
  rw [results_eq, hres]
  simp [k0, k1, k2]
end
end Go.Proofs.Ytdhidmigngmgjaa
