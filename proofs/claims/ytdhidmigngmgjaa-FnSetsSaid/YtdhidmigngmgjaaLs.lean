/-
  Slices from an element on, appended; a list of its own made of an empty one. No conditions.
-/
import Derived.Test.YtdhidmigngmgjaaReg
import Derived.Test.YtdhidmigngmgjaaSc
import Derived.Test.YtdhidmigngmgjaaHd
namespace Go.Proofs.Ytdhidmigngmgjaa
open Go.RowKit
set_option linter.unusedSimpArgs false
set_option linter.unusedVariables false

--# app3
section
variable {P : Program} {ρ : Operand → Value} {o : Oper} {w : World} {R : Value → World → Prop} {t e : TypeId} {size bytes : Nat} {z : Value}
/-- append of elements at any address, its two cases apart. -/
theorem OpRun.app3 {s x : Operand} {g n cap m c : Nat} {ad : Addr} {cs : Array Value} {vs news : List Value} (hT : SlT P t e size bytes z) (ho : o.op = .call { callee := .builtin .append, args := #[s, x], argTypes := #[t, t] })
    (hs : ρ s = .slice (some ⟨g, 0, none⟩) n cap) (hx : ρ x = .slice (some ad) m c) (hb : Blk w g e cs) (hS : SlO cs n cap size vs) (hn : ∀ (j : Nat) (u : Value), news[j]? = some u → w.cell? (ad.add j) = some u)
    (hl : news.length = m * size) (h1 : ∀ u ∈ news, u.oneCell' = true) (hbd : n + m ≤ 9223372036854775807 ∧ (n + m) * bytes ≤ 140737488355328)
    (h : n + m ≤ cap → ∀ cs' w', Blk w' g e cs' → SlO cs' (n + m) cap size (vs ++ news) → Wr g w w' → R (.slice (some ⟨g, 0, none⟩) (n + m) cap) w')
    (h' : ∀ g' cap' cs' w', Blk w' g' e cs' → SlO cs' (n + m) cap' size (vs ++ news) → Ext w w' → w.heap.size ≤ g' → R (.slice (some ⟨g', 0, none⟩) (n + m) cap') w') : OpRun P ρ o w R := by
  obtain ⟨i, hi, hz, his, hby⟩ := hT.info
  have hlt : g ≤ w.heap.size := Nat.le_of_lt hb.lt
  have hlen : (vs ++ news).length = (n + m) * i.size := by rw [List.length_append, hS.len, hl, Nat.add_mul, his]
  have fin : ∀ {v' w'}, (Builtin.append_ #[t, t] o.type #[.slice (some ⟨g, 0, none⟩) n cap, .slice (some ad) m c]).run P w = .ok v' w' → R v' w' → OpRun P ρ o w R := by
    intro v' w' hr hR
    unfold OpRun execOp
    simp only [ho, resolve, invoke, builtin, Sem.run_bind, Sem.run_pure, Result.andThen_ok, List.map_toArray, List.map_cons, List.map_nil, hs, hx, hr]
    exact hR
  subst his
  subst hby
  have hm : n + m ≤ maxLen := by simp only [maxLen]; omega
  by_cases hroom : n + m ≤ cap
  · have hfit : n * i.size + news.length ≤ cs.size := by rw [hl, hS.sz, ← Nat.add_mul]; exact Nat.mul_le_mul_right _ hroom
    have hr := run_append_room (P := P) w t o.type e i hT.1 hi g n cap cs hb ad m c news hl hn h1 hroom hfit
    refine fin hr (h hroom _ _ (setRow_heap w g cs _ e _ hb) ⟨?_, hlen, hroom, hS.cm, ?_⟩ ⟨fun w0 h0 he => setRow_ext h0 he, fun j _ hne => setRow_far w _ hne, by simp⟩)
    · have hpre := hS.pre
      rw [hS.len] at hpre
      simp only [hpre]
      exact List.take_left
    · have hpre := hS.sz
      simp only [List.size_toArray, List.length_append, List.length_take, List.length_drop, Array.length_toList]
      omega
  · have holds : ∀ j u, vs[j]? = some u → w.cell? ((⟨g, 0, none⟩ : Addr).add j) = some u := fun j u hu => by
      rw [Addr.add_mid, Nat.zero_add, hb.cell]; exact hS.get hu
    have hr := run_append_grow (P := P) w t o.type e i z hT.1 hi hz ⟨g, 0, none⟩ n cap vs hS.len holds ad m c news hl hn (by omega) (by omega) (growslice_fits (by omega) hbd.2)
    have hge := grownCap_ge w (n + m) cap e
    have hcm : grownCap w (n + m) cap e ≤ maxLen := grownCap_le_maxLen w (n + m) cap e hm
    refine fin hr (h' w.heap.size _ _ _ (heap_alloc_new w.drew _) ⟨?_, hlen, hge, hcm, ?_⟩ ((Ext.refl w).drew.alloc _) (Nat.le_refl _))
    · simp only [Array.toList_append, List.append_assoc]
      rw [← List.append_assoc]
      exact List.take_left
    · simp only [Array.size_append, List.size_toArray, size_zeroCells, hT.2.2.2.1, hS.len, hl, ← Nat.add_mul]
      congr 1
      omega
end
theorem Ext.of_wr {g : Nat} {w w' : World} (h : Wr g w w') (hs : w'.heap[g]? = w.heap[g]?) : Ext w w' := by
  have h0 : Ext { w with heap := #[] } w := by
    unfold Ext
    exact ⟨rfl, rfl, rfl, Nat.zero_le _, fun k hk => absurd hk (by simp)⟩
  have h2 := (h.ext { w with heap := #[] } (by simp) h0).below
  unfold Ext
  refine ⟨h2.os, h2.tape, h2.output, h.size, fun k hk => ?_⟩
  by_cases e : k = g
  · rw [e]; exact hs
  · exact h.oth k hk e

--# app0
/-- An empty list of its own. -/
def Fct.nil0 (B : Nat) (t : TypeId) : Fct := ⟨fun v w => ∃ g, v = .slice (some ⟨g, 0, none⟩) 0 0 ∧ B ≤ g ∧ Blk w g t #[], fun _ _ _ h k => by
  obtain ⟨g, e, hB, hb⟩ := h
  exact ⟨g, e, hB, hb.ext k⟩⟩
/-- A list of its own. -/
def Fct.lsu (B : Nat) (t : TypeId) (k : IntKind) (m : Nat) (xs : List Int) : Fct := ⟨fun v w => ∃ g cap cs, v = .slice (some ⟨g, 0, none⟩) m cap ∧ B ≤ g ∧ Blk w g t cs ∧ SlI cs m cap k xs, fun _ _ _ h k => by
  obtain ⟨g, cap, cs, e, hB, hb, hs⟩ := h
  exact ⟨g, cap, cs, e, hB, hb.ext k, hs⟩⟩
theorem iv_one {k : IntKind} {xs : List Int} : ∀ u ∈ iv k xs, u.oneCell' = true := by
  intro u hu
  unfold iv at hu
  obtain ⟨x, _, rfl⟩ := List.mem_map.1 hu
  rfl
theorem OpRun.app0 {P : Program} {ρ : Operand → Value} {o : Oper} {w : World} {ts t e2 : TypeId} {bytes : Nat} {z : Value} {s x : Operand} {g d m c B : Nat} {ds : Array Value} {k : IntKind} {ys : List Int} (hT : SlT P ts t 1 bytes z)
    (ho : o.op = .call { callee := .builtin .append, args := #[s, x], argTypes := #[ts, ts] }) (hs : ρ s = .slice (some ⟨g, 0, none⟩) 0 0) (hx : ρ x = .slice (some ⟨d, 0, none⟩) m c)
    (hb : Blk w g t #[]) (hB : B ≤ g) (hB2 : B ≤ w.heap.size) (hd : Blk w d e2 ds) (hS : SlI ds m c k ys) (hbd : m ≤ 1048576 ∧ bytes ≤ 16) : OpRun P ρ o w fun v w' => Ext w w' ∧ (Fct.lsu B t k m ys).R v w' := by
  have hml := hS.len
  have hm2 : m * bytes ≤ 1048576 * 16 := Nat.mul_le_mul hbd.1 hbd.2
  refine OpRun.app3 (news := iv k ys) hT ho hs hx hb (vs := []) (SlO.all (by simp) (by simp [maxLen])) (fun j u hu => ?_) (by rw [iv_length, Nat.mul_one, hml]) iv_one (by rw [Nat.zero_add]; omega) (fun hr cs' w' h1 h2 h3 => ?_) (fun g' cap' cs' w' h1 h2 h3 h4 => ?_)
  · rw [Addr.add_mid, Nat.zero_add, hd.cell]
    exact SlO.get hS hu
  · have hm0 : m = 0 := by omega
    subst hm0
    have hz := SlO.sz h2
    have e0 : cs' = #[] := Array.eq_empty_of_size_eq_zero (by omega)
    subst e0
    refine ⟨Ext.of_wr h3 (h1.trans hb.symm), g, 0, #[], rfl, hB, h1, ?_⟩
    have : ys = [] := List.eq_nil_of_length_eq_zero (by omega)
    subst this
    exact SlI.nil
  · rw [Nat.zero_add] at h2 ⊢
    exact ⟨h3, g', cap', cs', rfl, by omega, h1, h2⟩

--# tail
/-- Where a slice from an element on begins. -/
def tlA (g cap lo : Nat) : Addr := if cap = lo then ⟨g, 0, none⟩ else ⟨g, lo, none⟩
theorem OpRun.slcT {P : Program} {ρ : Operand → Value} {o : Oper} {w : World} {R : Value → World → Prop} {x y : Operand} {t : TypeId} {g n cap lo : Nat} {k : IntKind} (hT : SliT P t 1) (ho : o.op = .slice t x (some y) none none) (hx : ρ x = .slice (some ⟨g, 0, none⟩) n cap) (hy : ρ y = .int k (lo : Int)) (h1 : lo ≤ n) (hc : n ≤ cap) (h : R (.slice (some (tlA g cap lo)) (n - lo) (cap - lo)) w) : OpRun P ρ o w R := by
  obtain ⟨e, hu, hi⟩ := hT
  have hb : (Instr.sliceBound (.int k (lo : Int)) n .sliceB).run P w = .ok lo w := by
    have := run_sliceBound (P := P) (w := w) k lo n .sliceB (by omega) (by omega)
    simpa using this
  have hr : (Instr.sliceAt t (ρ x) (some (ρ y)) none none).run P w = .ok (.slice (some (tlA g cap lo)) (n - lo) (cap - lo)) w := by
    rw [hx, hy]
    unfold tlA
    by_cases h2 : cap = lo
    · simp [Instr.sliceAt, Instr.slice, Instr.sliceBounds, Sem.run_bind, run_underlying hu w, hb, run_size hi, h2]
    · simp [Instr.sliceAt, Instr.slice, Instr.sliceBounds, Sem.run_bind, run_underlying hu w, hb, run_size hi, h2, Addr.add_mid]
  unfold OpRun execOp
  simp only [ho, Option.map_some, Option.map_none, Sem.run_bind, hr, Result.andThen_ok]
  exact h
theorem iv_drop {k : IntKind} {xs : List Int} (i : Nat) : iv k (xs.drop i) = (iv k xs).drop i := by simp [iv, List.map_drop]
section
variable {P : Program} {ops : Array Oper} {Q : Exit → Act → World → Prop} {rest : List Oper} {o : Oper} {a : Act} {w : World} {t e : TypeId} {bytes : Nat} {z : Value}
/-- The elements of a list from one on, appended. -/
theorem wappT {s x : Operand} {g d n cap nd capd lo : Nat} {e2 : TypeId} {cs ds : Array Value} {ik : IntKind} {xs ys : List Int} (hT : SlT P t e 1 bytes z) (hb : Blk w g e cs) (hS : SlI cs n cap ik xs) (hd : Blk w d e2 ds) (hD : SlI ds nd capd ik ys) (hlo : lo ≤ nd)
    (k : ∀ g' cap' cs' w', Blk w' g' e cs' → SlI cs' (n + (nd - lo)) cap' ik (xs ++ ys.drop lo) → Wr g w w' → (g' = g ∨ w.heap.size ≤ g') → wpList P ops Q rest (putL a o.dst (.slice (some ⟨g', 0, none⟩) (n + (nd - lo)) cap')) w')
    (hbd : n + (nd - lo) ≤ 9223372036854775807 ∧ (n + (nd - lo)) * bytes ≤ 140737488355328 := by omega)
    (hw : Region.wanted o (yielded ops a.tmps) = true := by kernel_rfl) (ho : o.op = .call { callee := .builtin .append, args := #[s, x], argTypes := #[t, t] } := by exact rfl)
    (hs : evalL a s = .slice (some ⟨g, 0, none⟩) n cap := by kernel_rfl) (hx : evalL a x = .slice (some (tlA d capd lo)) (nd - lo) (capd - lo) := by kernel_rfl) : wpList P ops Q (o :: rest) a w := by
  have hl := hD.len
  refine wpl_op (R := fun v w' => ∃ g' cap' cs', v = .slice (some ⟨g', 0, none⟩) (n + (nd - lo)) cap' ∧ Blk w' g' e cs' ∧ SlI cs' (n + (nd - lo)) cap' ik (xs ++ ys.drop lo) ∧ Wr g w w' ∧ (g' = g ∨ w.heap.size ≤ g')) rfl hw
    (OpRun.app3 (news := iv ik (ys.drop lo)) hT ho hs hx hb hS (fun j u hu => ?_) (by rw [iv_length, List.length_drop, Nat.mul_one, hl]) iv_one hbd (fun _ cs' w' h1 h2 h3 => ⟨g, cap, cs', rfl, h1, ?_, h3, .inl rfl⟩) (fun g' cap' cs' w' h1 h2 h3 h4 => ⟨g', cap', cs', rfl, h1, ?_, Wr.of_ext h3, .inr h4⟩)) ?_
  · rw [iv_drop, List.getElem?_drop] at hu
    have hj : lo + j < nd := by
      have := (List.getElem?_eq_some_iff.1 hu).1
      rw [iv_length] at this
      omega
    have hc := SlO.nc hD
    unfold tlA
    rw [if_neg (by omega), Addr.add_mid, hd.cell]
    exact SlO.get hD hu
  · show SlO _ _ _ _ _
    unfold iv at h2 ⊢
    rw [List.map_append]
    exact h2
  · show SlO _ _ _ _ _
    unfold iv at h2 ⊢
    rw [List.map_append]
    exact h2
  · rintro v w' ⟨g', cap', cs', rfl, h1, h2, h3, h4⟩
    exact k g' cap' cs' w' h1 h2 h3 h4
end
end Go.Proofs.Ytdhidmigngmgjaa
