/-
  Maps from whole numbers, made by the call itself, never written twice at one key. No conditions.
-/
import Derived.Test.YtldlaohefgianaaSl
import Derived.Maps.Keyed
import Derived.Carry
namespace Go.Proofs.Ytldlaohefgianaa
open Go.RowKit
open Go.Maps Go.ChangeMaps Go.MapKept
set_option linter.unusedSimpArgs false
set_option linter.unusedVariables false

--# mb
/-- Block b is a map: the value f c at each of the numbers ks. -/
def MB (w : World) (b : Nat) (ks : List Int) (f : Int → Value) : Prop :=
  ∃ es clock, w.heap[b]? = some (.map es clock) ∧ es.toList.map (fun e => (e.key, e.val)) = ks.map (fun c => (Value.int .i64 c, f c)) ∧ ∀ c ∈ ks, 0 ≤ c ∧ c ≤ 99
/-- Block b is a map: what reads at c is v c. -/
def MV (w : World) (b : Nat) (z : Value) (v : Int → Value) : Prop := ∃ ks f, MB w b ks f ∧ ∀ c, (if c ∈ ks then f c else z) = v c
section
variable {w w' : World} {b g : Nat} {ks : List Int} {f v : Int → Value} {z : Value}
theorem MB.lt (h : MB w b ks f) : b < w.heap.size := by
  obtain ⟨es, clock, hb, _⟩ := h
  exact (Array.getElem?_eq_some_iff.1 hb).1
theorem MB.ext (h : MB w b ks f) (k : Ext w w') : MB w' b ks f := by
  have hl := h.lt
  obtain ⟨es, clock, hb, h1⟩ := h
  exact ⟨es, clock, (k.below.block b hl).trans hb, h1⟩
theorem Wr.mb (k : Wr g w w') (h : MB w b ks f) (hne : b ≠ g) : MB w' b ks f := by
  have hl := h.lt
  obtain ⟨es, clock, hb, h1⟩ := h
  exact ⟨es, clock, (k.oth b hl hne).trans hb, h1⟩
theorem MV.lt (h : MV w b z v) : b < w.heap.size := by obtain ⟨ks, f, h1, _⟩ := h; exact h1.lt
theorem MV.ext (h : MV w b z v) (k : Ext w w') : MV w' b z v := by obtain ⟨ks, f, h1, h2⟩ := h; exact ⟨ks, f, h1.ext k, h2⟩
theorem Wr.mv (k : Wr g w w') (h : MV w b z v) (hne : b ≠ g) : MV w' b z v := by obtain ⟨ks, f, h1, h2⟩ := h; exact ⟨ks, f, Wr.mb k h1 hne, h2⟩
theorem MB.ne {t : TypeId} {cs : Array Value} (h : MB w b ks f) (k : Blk w g t cs) : b ≠ g := by
  intro e
  subst e
  obtain ⟨es, clock, hb, _⟩ := h
  have := k.symm.trans hb
  simp at this
theorem MV.ne {t : TypeId} {cs : Array Value} (h : MV w b z v) (k : Blk w g t cs) : b ≠ g := by obtain ⟨ks, f, h1, _⟩ := h; exact h1.ne k
theorem MB.new (w : World) (f : Int → Value) : MB (w.alloc (.map #[] 0)) w.heap.size [] f := ⟨#[], 0, (MapKept.heap_alloc w _).1, rfl, fun c h => by cases h⟩
theorem MB.find {P : Program} {k : TypeId} (hk : P.underlying k = some (.int .i64)) {es : Array MapEntry} {c : Int} (hc : 0 ≤ c ∧ c ≤ 9223372036854775807)
    (he : es.toList.map (fun e => (e.key, e.val)) = ks.map (fun c => (Value.int .i64 c, f c))) (hr : ∀ c ∈ ks, 0 ≤ c ∧ c ≤ 99) :
    (Instr.checkKey es.isEmpty 10000 k (.int .i64 c)).run P w = .ok () w ∧ (Instr.checkKey false 10000 k (.int .i64 c)).run P w = .ok () w ∧
    (((Instr.findKey k (.int .i64 c) es.toList).run P w = .ok none w ∧ c ∉ ks) ∨ ∃ j, (Instr.findKey k (.int .i64 c) es.toList).run P w = .ok (some (j, f c)) w ∧ c ∈ ks) := by
  have wf : ∀ {c : Int}, 0 ≤ c ∧ c ≤ 9223372036854775807 → (Lit.int .i64 c).wf = true := fun h => WalkArith.wf_i64 (by omega)
  have hkey := keyOf_int_mk hk (wf hc)
  have K := int_keyed hk
  refine ⟨K.check w _ hkey, K.check w _ hkey, ?_⟩
  have hmem : ∀ e ∈ es.toList, ∃ c' ∈ ks, e.key = .int .i64 c' ∧ e.val = f c' := fun e h => by
    have h1 : (e.key, e.val) ∈ es.toList.map (fun e => (e.key, e.val)) := List.mem_map.2 ⟨e, h, rfl⟩
    rw [he, List.mem_map] at h1
    obtain ⟨c', hc', h2⟩ := h1
    simp only [Prod.mk.injEq] at h2
    exact ⟨c', hc', h2.1.symm, h2.2.symm⟩
  rcases K.find w hkey es.toList (fun e h => by
    obtain ⟨c', hc', h1, _⟩ := hmem e h
    have := hr c' hc'
    exact ⟨_, by rw [h1]; exact keyOf_int_mk hk (wf (by omega))⟩) with ⟨h1, h2⟩ | ⟨j, e0, h1, h2, h3⟩
  · refine .inl ⟨h1, fun hin => ?_⟩
    have h4 : (Value.int .i64 c, f c) ∈ es.toList.map (fun e => (e.key, e.val)) := by rw [he]; exact List.mem_map.2 ⟨c, hin, rfl⟩
    obtain ⟨e, he1, he2⟩ := List.mem_map.1 h4
    simp only [Prod.mk.injEq] at he2
    exact h2 e he1 he2.1
  · obtain ⟨c', hc', h4, h5⟩ := hmem e0 (List.mem_of_getElem? h2)
    rw [h3] at h4
    have e : c = c' := by simpa using h4
    subst e
    rw [h5] at h1
    exact .inr ⟨j, h1, hc'⟩
/-- A map's type. -/
structure MapT (P : Program) (t k e : TypeId) (z : Value) : Prop where
  ht : P.underlying t = some (.map k e)
  hk : P.underlying k = some (.int .i64)
  hz : ∀ w, (zeroValue e).run P w = .ok z w
variable {P : Program} {t k e : TypeId}
theorem MV.look (h : MV w b z v) (T : MapT P t k e z) {c : Int} (hc : 0 ≤ c ∧ c ≤ 9223372036854775807) : (Instr.lookup t (.map (some b)) (.int .i64 c) false).run P w = .ok (v c) w := by
  obtain ⟨ks, f, ⟨es, clock, hb, he, hr⟩, hv⟩ := h
  obtain ⟨h1, _, h2 | ⟨j, h2⟩⟩ := MB.find (w := w) T.hk hc he hr
  · have := hv c
    rw [if_neg h2.2] at this
    subst this
    simp [Instr.lookup, run_underlying T.ht, MapKept.run_getObj_map hb, h1, h2.1, T.hz, Result.andThen]
  · have := hv c
    rw [if_pos h2.2] at this
    rw [← this]
    simp [Instr.lookup, run_underlying T.ht, MapKept.run_getObj_map hb, h1, h2.1, Result.andThen]
theorem MB.put (h : MB w b ks f) (T : MapT P t k e z) {c : Int} (hc : 0 ≤ c ∧ c ≤ 99) (hn : c ∉ ks) : ∃ w', (Instr.mapUpdate t (.map (some b)) (.int .i64 c) (f c)).run P w = .ok () w' ∧ MB w' b (ks ++ [c]) f ∧ Wr b w w' := by
  obtain ⟨es, clock, hb, he, hr⟩ := h
  obtain ⟨_, h1, h2 | ⟨j, h2⟩⟩ := MB.find (w := w) T.hk (c := c) (by omega) he hr
  · refine ⟨setBlock w b (.map (es.push ⟨.int .i64 c, f c, clock⟩) (clock + 1)), ?_, ⟨_, _, heap_setBlock_same hb _, ?_, ?_⟩, Wr.grown ⟨rfl, rfl, rfl, by simp [setBlock], fun i _ hi => heap_setBlock_other hb _ (fun e => hi (by rw [e]))⟩⟩
    · simp [Instr.mapUpdate, run_underlying T.ht, MapKept.run_getObj_map hb, h1, h2.1, MapKept.run_setObj_map _ hb, Result.andThen, setBlock]
    · simp only [Array.toList_push, List.map_append, he, List.map_cons, List.map_nil]
    · intro c' h
      rw [List.mem_append, List.mem_singleton] at h
      rcases h with h | rfl
      · exact hr c' h
      · exact hc
  · exact absurd h2.2 hn
variable {ρ : Operand → Value} {o : Oper} {R : Value → World → Prop} {x y y2 : Operand}
theorem OpRun.mlk (c : Int) (hm : MV w b z v) (T : MapT P t k e z) (hc : 0 ≤ c ∧ c ≤ 9223372036854775807) (ho : o.op = .lookup t x y false) (hx : ρ x = .map (some b)) (hy : ρ y = .int .i64 c) (h : R (v c) w) : OpRun P ρ o w R := by
  have hr := hm.look T hc
  unfold OpRun execOp
  simp only [ho, hx, hy, Sem.run_bind, hr, Result.andThen_ok]
  exact h
theorem OpRun.mmk (ho : o.op = .makeMap t none) (h : R (.map (some w.heap.size)) (w.alloc (.map #[] 0))) : OpRun P ρ o w R := by
  unfold OpRun execOp
  simp only [ho, Option.map_none, Sem.run_bind, run_makeMap, Result.andThen_ok]
  exact h
theorem OpRun.mup (c : Int) (u : Value) (hm : MB w b ks f) (T : MapT P t k e z) (hc : 0 ≤ c ∧ c ≤ 99) (hn : c ∉ ks) (hu : f c = u) (ho : o.op = .mapUpdate t x y y2) (hx : ρ x = .map (some b)) (hy : ρ y = .int .i64 c) (hy2 : ρ y2 = u)
    (h : ∀ w', MB w' b (ks ++ [c]) f → Wr b w w' → R undef w') : OpRun P ρ o w R := by
  subst hu
  obtain ⟨w', hr, h1, h2⟩ := hm.put T hc hn
  unfold OpRun execOp
  simp only [ho, hx, hy, hy2, Sem.run_bind, hr, Result.andThen_ok]
  exact h w' h1 h2
end
section
variable {P : Program} {ops : Array Oper} {Q : Exit → Act → World → Prop} {rest : List Oper} {o : Oper} {a : Act} {w : World} {x y y2 : Operand} {t k e : TypeId} {z : Value} {f v : Int → Value} {ks : List Int}
theorem wmlk (b : Nat) (c : Int) (T : MapT P t k e z) (hm : MV w b z v) (hc : 0 ≤ c ∧ c ≤ 9223372036854775807) (kk : wpList P ops Q rest (putL a o.dst (v c)) w)
    (hw : Region.wanted o (yielded ops a.tmps) = true := by kernel_rfl) (ho : o.op = .lookup t x y false := by exact rfl) (hx : evalL a x = .map (some b) := by kernel_rfl) (hy : evalL a y = .int .i64 c := by kernel_rfl) : wpList P ops Q (o :: rest) a w :=
  wpl_op (R := fun v' w' => v' = _ ∧ w' = w) rfl hw (OpRun.mlk c hm T hc ho hx hy ⟨rfl, rfl⟩) (fun v' w' h => by rw [h.1, h.2]; exact kk)
theorem wmmk (f : Int → Value) (kk : ∀ g w', MB w' g [] f → Ext w w' → w.heap.size ≤ g → wpList P ops Q rest (putL a o.dst (.map (some g))) w')
    (hw : Region.wanted o (yielded ops a.tmps) = true := by kernel_rfl) (ho : o.op = .makeMap t none := by exact rfl) : wpList P ops Q (o :: rest) a w := by
  refine wpl_op (R := fun v' w' => ∃ g, v' = .map (some g) ∧ MB w' g [] f ∧ Ext w w' ∧ w.heap.size ≤ g) rfl hw (OpRun.mmk ho ⟨_, rfl, MB.new w f, (Ext.refl w).alloc _, Nat.le_refl _⟩) ?_
  rintro v' w' ⟨g, rfl, h1, h2, h3⟩
  exact kk g w' h1 h2 h3
theorem wmup (b : Nat) (c : Int) (u : Value) (T : MapT P t k e z) (hm : MB w b ks f) (hc : 0 ≤ c ∧ c ≤ 99) (hn : c ∉ ks) (hu : f c = u) (kk : ∀ w', MB w' b (ks ++ [c]) f → Wr b w w' → wpList P ops Q rest (putL a o.dst undef) w')
    (hw : Region.wanted o (yielded ops a.tmps) = true := by kernel_rfl) (ho : o.op = .mapUpdate t x y y2 := by exact rfl) (hx : evalL a x = .map (some b) := by kernel_rfl) (hy : evalL a y = .int .i64 c := by kernel_rfl) (hy2 : evalL a y2 = u := by kernel_rfl) : wpList P ops Q (o :: rest) a w := by
  refine wpl_op (R := fun v' w' => v' = undef ∧ MB w' b (ks ++ [c]) f ∧ Wr b w w') rfl hw (OpRun.mup c u hm T hc hn hu ho hx hy hy2 (fun w' h1 h2 => ⟨rfl, h1, h2⟩)) ?_
  rintro v' w' ⟨rfl, h1, h2⟩
  exact kk w' h1 h2
end
/-- What a function returns that makes a map. -/
def RetM (w : World) (z : Value) (v : Int → Value) (e : Ending) (w' : World) : Prop := ∃ g, e = .returned (.map (some g)) ∧ MV w' g z v ∧ Ext w w' ∧ w.heap.size ≤ g
theorem ne_appL {w : World} {b g g' : Nat} (hl : b < w.heap.size) (hne : b ≠ g) (h : g' = g ∨ w.heap.size ≤ g') : b ≠ g' := by
  rcases h with rfl | h
  · exact hne
  · omega
theorem Blk.neT {w : World} {g g' : Nat} {t t' : TypeId} {cs cs' : Array Value} (h : Blk w g t cs) (k : Blk w g' t' cs') (hne : t ≠ t') : g ≠ g' := by
  intro e
  subst e
  have := h.symm.trans k
  simp at this
  exact hne this.2
section
variable {P : Program} {ops : Array Oper} {Q : Exit → Act → World → Prop} {rest : List Oper} {o : Oper} {a : Act} {w : World}
theorem wclm {f : FuncId} {args : Array Value} {z : Value} {v : Int → Value} (hc : Calls P f args w (RetM w z v))
    (k : ∀ g w', MV w' g z v → Ext w w' → w.heap.size ≤ g → wpList P ops Q rest (putL a o.dst (.map (some g))) w')
    (hw : Region.wanted o (yielded ops a.tmps) = true := by kernel_rfl) (he : (execOp (evalL a) o).run P w = .ok (.enter f args) w := by kernel_rfl) : wpList P ops Q (o :: rest) a w :=
  wpl_callx (S := fun u w' => ∃ g, u = .map (some g) ∧ MV w' g z v ∧ Ext w w' ∧ w.heap.size ≤ g) f args rfl hw he hc
    (fun e w' ⟨g, he, h1, h2, h3⟩ => ⟨_, he, g, rfl, h1, h2, h3⟩) (fun u w' ⟨g, hv, h1, h2, h3⟩ => by rw [hv]; exact k g w' h1 h2 h3)
end
/-- A map of its own. -/
def Fct.mp (B : Nat) (z : Value) (v : Int → Value) : Fct := ⟨fun u w => ∃ g, u = .map (some g) ∧ B ≤ g ∧ MV w g z v, fun _ _ _ h k => by
  obtain ⟨g, e, hB, hb⟩ := h
  exact ⟨g, e, hB, hb.ext k⟩⟩
end Go.Proofs.Ytldlaohefgianaa
