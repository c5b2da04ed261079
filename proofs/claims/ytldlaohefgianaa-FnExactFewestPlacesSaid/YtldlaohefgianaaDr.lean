/-
  A region in any order with an append among its operations. No conditions.
-/
import Derived.Test.YtldlaohefgianaaRegT
import Derived.Test.YtldlaohefgianaaSl
import Derived.Test.YtldlaohefgianaaAp
namespace Go.Proofs.Ytldlaohefgianaa
open Go.RowKit
set_option linter.unusedSimpArgs false
set_option linter.unusedVariables false

--# app2
section
variable {P : Program} {ρ : Operand → Value} {o : Oper} {w : World} {R : Value → World → Prop} {t e : TypeId} {size bytes : Nat} {z : Value}
/-- append, its two cases apart. -/
theorem OpRun.app2 {s x : Operand} {g d n cap m c : Nat} {e2 : TypeId} {cs ds : Array Value} {vs news : List Value} (hT : SlT P t e size bytes z) (ho : o.op = .call { callee := .builtin .append, args := #[s, x], argTypes := #[t, t] })
    (hs : ρ s = .slice (some ⟨g, 0, none⟩) n cap) (hx : ρ x = .slice (some ⟨d, 0, none⟩) m c) (hb : Blk w g e cs) (hS : SlO cs n cap size vs) (hd : Blk w d e2 ds) (hp : ∀ (j : Nat) (u : Value), news[j]? = some u → ds[j]? = some u)
    (hl : news.length = m * size) (h1 : ∀ u ∈ news, u.oneCell' = true) (hbd : n + m ≤ 9223372036854775807 ∧ (n + m) * bytes ≤ 140737488355328)
    (h : ∀ cs' w', Blk w' g e cs' → SlO cs' (n + m) cap size (vs ++ news) → Wr g w w' → R (.slice (some ⟨g, 0, none⟩) (n + m) cap) w')
    (h' : ∀ g' cap' cs' w', Blk w' g' e cs' → SlO cs' (n + m) cap' size (vs ++ news) → Ext w w' → w.heap.size ≤ g' → R (.slice (some ⟨g', 0, none⟩) (n + m) cap') w') : OpRun P ρ o w R := by
  obtain ⟨i, hi, hz, his, hby⟩ := hT.info
  have hlt : g ≤ w.heap.size := Nat.le_of_lt hb.lt
  have hn : ∀ j u, news[j]? = some u → w.cell? ((⟨d, 0, none⟩ : Addr).add j) = some u := fun j u hu => by
    rw [Addr.add_mid, Nat.zero_add, hd.cell]; exact hp j u hu
  have hlen : (vs ++ news).length = (n + m) * i.size := by rw [List.length_append, hS.len, hl, Nat.add_mul, his]
  have fin : ∀ {v' w'}, (Builtin.append_ #[t, t] o.type #[.slice (some ⟨g, 0, none⟩) n cap, .slice (some ⟨d, 0, none⟩) m c]).run P w = .ok v' w' → R v' w' → OpRun P ρ o w R := by
    intro v' w' hr hR
    unfold OpRun execOp
    simp only [ho, resolve, invoke, builtin, Sem.run_bind, Sem.run_pure, Result.andThen_ok, List.map_toArray, List.map_cons, List.map_nil, hs, hx, hr]
    exact hR
  subst his
  subst hby
  have hm : n + m ≤ maxLen := by simp only [maxLen]; omega
  by_cases hroom : n + m ≤ cap
  · have hfit : n * i.size + news.length ≤ cs.size := by rw [hl, hS.sz, ← Nat.add_mul]; exact Nat.mul_le_mul_right _ hroom
    have hr := run_append_room (P := P) w t o.type e i hT.1 hi g n cap cs hb ⟨d, 0, none⟩ m c news hl hn h1 hroom hfit
    refine fin hr (h _ _ (setRow_heap w g cs _ e _ hb) ⟨?_, hlen, hroom, hS.cm, ?_⟩ ⟨fun w0 h0 he => setRow_ext h0 he, fun j _ hne => setRow_far w _ hne, by simp⟩)
    · have hpre := hS.pre
      rw [hS.len] at hpre
      simp only [hpre]
      exact List.take_left
    · have hpre := hS.sz
      simp only [List.size_toArray, List.length_append, List.length_take, List.length_drop, Array.length_toList]
      omega
  · have holds : ∀ j u, vs[j]? = some u → w.cell? ((⟨g, 0, none⟩ : Addr).add j) = some u := fun j u hu => by
      rw [Addr.add_mid, Nat.zero_add, hb.cell]; exact hS.get hu
    have hr := run_append_grow (P := P) w t o.type e i z hT.1 hi hz ⟨g, 0, none⟩ n cap vs hS.len holds ⟨d, 0, none⟩ m c news hl hn (by omega) (by omega) (growslice_fits (by omega) hbd.2)
    have hge := grownCap_ge w (n + m) cap e
    have hcm : grownCap w (n + m) cap e ≤ maxLen := grownCap_le_maxLen w (n + m) cap e hm
    refine fin hr (h' w.heap.size _ _ _ (heap_alloc_new w.drew _) ⟨?_, hlen, hge, hcm, ?_⟩ ((Ext.refl w).drew.alloc _) (Nat.le_refl _))
    · simp only [Array.toList_append, List.append_assoc]
      rw [← List.append_assoc]
      exact List.take_left
    · simp only [Array.size_append, List.size_toArray, size_zeroCells, hT.2.2.2.1, hS.len, hl, ← Nat.add_mul]
      congr 1
      omega
end

--# lstm
def Fct.toT (f : Fct) : RT.Fct Ext := ⟨f.R, f.st⟩
/-- A list of its own, told together with what stands beside it. -/
def Fct.lstm (B : Nat) (t : TypeId) (k : IntKind) (xs : List Int) (mk : Value → Value) : Fct := ⟨fun v w => ∃ g cap cs, v = mk (.slice (some ⟨g, 0, none⟩) xs.length cap) ∧ B ≤ g ∧ Blk w g t cs ∧ SlI cs xs.length cap k xs, fun _ _ _ h k => by
  obtain ⟨g, cap, cs, e, hB, hb, hs⟩ := h
  exact ⟨g, cap, cs, e, hB, hb.ext k, hs⟩⟩

--# rla
theorem SlI.head {cs : Array Value} {n cap : Nat} {k : IntKind} {xs : List Int} {x : Int} (h : SlI cs (n + 1) cap k (xs ++ [x])) (hl : n = xs.length) : SlI cs n cap k xs := by
  have := SlI.take h (m := n) (by omega)
  rwa [show (xs ++ [x]).take n = xs by subst hl; simp] at this
theorem SlI.capU {cs : Array Value} {n n2 cap cap2 : Nat} {k : IntKind} {xs ys : List Int} (h : SlI cs n cap k xs) (h2 : SlI cs n2 cap2 k ys) : cap2 = cap := by
  have := SlO.sz h
  have := SlO.sz h2
  omega
/-- New blocks, and one number more behind the list of a block. -/
structure RlA (g : Nat) (t : TypeId) (n : Nat) (k : IntKind) (xs : List Int) (x : Int) (w w' : World) : Prop where
  wr : Wr g w w'
  k0 : ∀ cs cap, Blk w g t cs → SlI cs n cap k xs → ∃ cs', Blk w' g t cs' ∧ SlI cs' n cap k xs
  k1 : ∀ cs cap, Blk w g t cs → SlI cs (n + 1) cap k (xs ++ [x]) → ∃ cs', Blk w' g t cs' ∧ SlI cs' (n + 1) cap k (xs ++ [x])
section
variable {g : Nat} {t : TypeId} {n : Nat} {k : IntKind} {xs : List Int} {x : Int}
theorem RlA.of_ext {w w' : World} (h : Ext w w') : RlA g t n k xs x w w' := ⟨Wr.of_ext h, fun cs _ hb hs => ⟨cs, hb.ext h, hs⟩, fun cs _ hb hs => ⟨cs, hb.ext h, hs⟩⟩
theorem RlA.refl (w : World) : RlA g t n k xs x w w := RlA.of_ext (Ext.refl w)
theorem RlA.drew (w : World) : RlA g t n k xs x w w.drew := RlA.of_ext (Ext.refl w).drew
theorem RlA.trans (u v w : World) (h : RlA g t n k xs x u v) (h2 : RlA g t n k xs x v w) : RlA g t n k xs x u w :=
  ⟨h.wr.trans h2.wr, fun cs cap hb hs => by obtain ⟨c1, b1, s1⟩ := h.k0 cs cap hb hs; exact h2.k0 c1 cap b1 s1, fun cs cap hb hs => by obtain ⟨c1, b1, s1⟩ := h.k1 cs cap hb hs; exact h2.k1 c1 cap b1 s1⟩
/-- A list of one number, of its own. -/
def Fct.one (B : Nat) (hg : g < B) (y : Int) : RT.Fct (RlA g t n k xs x) := ⟨fun v w => ∃ d, v = .slice (some ⟨d, 0, none⟩) 1 1 ∧ B ≤ d ∧ Blk w d t #[.int k y], fun v w w' h hr => by
  obtain ⟨d, e, h1, h2⟩ := h
  exact ⟨d, e, h1, hr.wr.blk h2 (by omega)⟩⟩
/-- The list with one number more. -/
def Fct.app (B : Nat) (cap : Nat) (hg : g < B) : RT.Fct (RlA g t n k xs x) := ⟨fun v w => ∃ g' cap' cs', v = .slice (some ⟨g', 0, none⟩) (n + 1) cap' ∧ Blk w g' t cs' ∧ SlI cs' (n + 1) cap' k (xs ++ [x]) ∧ (g' = g ∨ B ≤ g'), fun v w w' h hr => by
  obtain ⟨g', cap', cs', e, h1, h2, h3⟩ := h
  rcases h3 with rfl | h3
  · obtain ⟨c1, b1, s1⟩ := hr.k1 cs' cap' h1 h2
    exact ⟨g', cap', c1, e, b1, s1, .inl rfl⟩
  · exact ⟨g', cap', cs', e, hr.wr.blk h1 (by omega), h2, .inr h3⟩⟩
theorem OpRun.appA {P : Program} {ρ : Operand → Value} {o : Oper} {w0 w : World} {ts : TypeId} {bytes : Nat} {z : Value} {s y : Operand} {d cap B : Nat} {e2 : TypeId} {cs : Array Value} (hT : SlT P ts t 1 bytes z)
    (hb : Blk w0 g t cs) (hS : SlI cs n cap k xs) (hw : RlA g t n k xs x w0 w) (hB : B = w0.heap.size) (hg : g < B) (hd : Blk w d e2 #[.int k x])
    (ho : o.op = .call { callee := .builtin .append, args := #[s, y], argTypes := #[ts, ts] }) (hs : ρ s = .slice (some ⟨g, 0, none⟩) n cap) (hx : ρ y = .slice (some ⟨d, 0, none⟩) 1 1)
    (hbd : n + 1 ≤ 9223372036854775807 ∧ (n + 1) * bytes ≤ 140737488355328) :
    OpRun P ρ o w fun v w' => RlA g t n k xs x w w' ∧ (Fct.app (t := t) (n := n) (k := k) (xs := xs) (x := x) B cap hg).R v w' := by
  obtain ⟨c1, b1, s1⟩ := hw.k0 cs cap hb hS
  have hl := hS.len
  refine OpRun.app2 (news := [.int k x]) hT ho hs hx b1 s1 hd (fun j u hu => by rwa [← Array.getElem?_toList]) rfl (by simp [Value.oneCell']) hbd (fun cs' w' h1 h2 h3 => ?_) (fun g' cap' cs' w' h1 h2 h3 h4 => ?_)
  · rw [← iv_append] at h2
    have h2 : SlI cs' (n + 1) cap k (xs ++ [x]) := h2
    refine ⟨⟨h3, fun c2 cap2 b2 s2 => ?_, fun c2 cap2 b2 s2 => ?_⟩, g, cap, cs', rfl, h1, h2, .inl rfl⟩
    · have e : c2 = c1 := by have := b2.symm.trans b1; simpa using this
      subst e
      rw [SlI.capU s1 s2]
      exact ⟨cs', h1, h2.head hl⟩
    · have e : c2 = c1 := by have := b2.symm.trans b1; simpa using this
      subst e
      rw [SlI.capU s1 s2]
      exact ⟨cs', h1, h2⟩
  · rw [← iv_append] at h2
    have hz := hw.wr.size
    exact ⟨RlA.of_ext h3, g', cap', cs', rfl, h1, h2, .inr (by omega)⟩
end
end Go.Proofs.Ytldlaohefgianaa
