/-
  Slices: blocks whose first cells are told; append, make, index, len. No conditions.
-/
import Derived.Test.YtdhidmigngmgjaaCmp
import Derived.Test.YtdhidmigngmgjaaMth
import Derived.Laws.AppendOwn
import Derived.Laws.MakeOwn
import Derived.ChangeSlices
import Derived.LoopN
namespace Go.Proofs.Ytdhidmigngmgjaa
open Go.RowKit
set_option linter.unusedSimpArgs false
set_option linter.unusedVariables false

--# slo
/-- The block's first cells are vs: n elements of size cells, with room for cap. -/
structure SlO (cs : Array Value) (n cap size : Nat) (vs : List Value) : Prop where
  pre : cs.toList.take vs.length = vs
  len : vs.length = n * size
  nc : n ≤ cap
  cm : cap ≤ maxLen
  sz : cs.size = cap * size
theorem SlO.get {cs : Array Value} {n cap size : Nat} {vs : List Value} (h : SlO cs n cap size vs) {i : Nat} {v : Value} (hv : vs[i]? = some v) : cs[i]? = some v := by
  have hi : i < vs.length := (List.getElem?_eq_some_iff.1 hv).1
  rw [← h.pre, List.getElem?_take_of_lt hi] at hv
  rwa [Array.getElem?_toList] at hv
theorem SlO.set {cs : Array Value} {n cap size : Nat} {vs : List Value} (h : SlO cs n cap size vs) (i : Nat) (v : Value) : SlO (cs.setIfInBounds i v) n cap size (vs.set i v) := by
  refine ⟨?_, by rw [List.length_set]; exact h.len, h.nc, h.cm, by rw [Array.size_setIfInBounds]; exact h.sz⟩
  rw [List.length_set, Array.toList_setIfInBounds, List.take_set, h.pre]
theorem SlO.own {w : World} {g : Nat} {e : TypeId} {cs : Array Value} {n cap size : Nat} {vs : List Value} (h : SlO cs n cap size vs) (hb : Blk w g e cs) {base : Nat} (hg : base ≤ g) : w.ownsRow base e size (.slice (some ⟨g, 0, none⟩) n cap) n vs :=
  ⟨h.len, .inr ⟨g, cap, cs, rfl, hg, hb, h.nc, h.cm, h.sz, by rw [← h.len]; exact h.pre⟩⟩
theorem SlO.all {vs : List Value} {n size : Nat} (hl : vs.length = n * size) (hm : n ≤ maxLen) : SlO vs.toArray n n size vs := ⟨by simp, hl, Nat.le_refl _, hm, by simp [hl]⟩
/-- Whole numbers of one kind, as values. -/
def iv (k : IntKind) (xs : List Int) : List Value := xs.map (Value.int k)
theorem iv_length (k : IntKind) (xs : List Int) : (iv k xs).length = xs.length := by simp [iv]
theorem iv_append (k : IntKind) (xs : List Int) (x : Int) : iv k (xs ++ [x]) = iv k xs ++ [.int k x] := by simp [iv]
theorem iv_set (k : IntKind) (xs : List Int) (i : Nat) (x : Int) : iv k (xs.set i x) = (iv k xs).set i (.int k x) := by simp [iv, List.map_set]
theorem iv_get {k : IntKind} {xs : List Int} {i : Nat} (h : i < xs.length) : (iv k xs)[i]? = some (.int k (atI xs i)) := by rw [iv, List.getElem?_map, atI_get h]; rfl
/-- A block whose first n cells are the whole numbers xs, of one kind. -/
def SlI (cs : Array Value) (n cap : Nat) (k : IntKind) (xs : List Int) : Prop := SlO cs n cap 1 (iv k xs)
section
variable {cs : Array Value} {n cap : Nat} {k : IntKind} {xs : List Int}
theorem SlI.len (h : SlI cs n cap k xs) : n = xs.length := by
  have := SlO.len h
  rw [iv_length] at this
  omega
theorem SlI.get (h : SlI cs n cap k xs) {i : Nat} (hi : i < n) : cs[0 + i]? = some (.int k (atI xs i)) := by rw [Nat.zero_add]; exact SlO.get h (iv_get (by rw [← h.len]; exact hi))
theorem SlI.set (h : SlI cs n cap k xs) (i : Nat) (x : Int) : SlI (cs.setIfInBounds (0 + i) (.int k x)) n cap k (xs.set i x) := by
  unfold SlI
  rw [iv_set, Nat.zero_add]
  exact SlO.set h i _
theorem SlI.lt (h : SlI cs n cap k xs) {i : Nat} (hi : i < n) : 0 + i < cs.size := by
  have h1 := SlO.sz h
  have h2 := SlO.nc h
  omega
theorem SlI.of_eq {ys : List Int} (h : SlI cs n cap k xs) (e : xs = ys) : SlI cs n cap k ys := e ▸ h
theorem SlI.nil {k : IntKind} : SlI #[] 0 0 k [] := SlO.all (by simp [iv]) (by simp [maxLen])
theorem SlI.list {k : IntKind} (xs : List Int) (h : xs.length ≤ maxLen) : SlI (iv k xs).toArray xs.length xs.length k xs := SlO.all (by rw [iv_length, Nat.mul_one]) h
theorem madeI {k : IntKind} (n : Nat) (h : n ≤ maxLen) : SlI (madeCells #[.int k 0] (n * 1)) n n k (List.replicate n 0) := by
  have e : madeCells #[.int k 0] (n * 1) = (iv k (List.replicate n 0)).toArray := by
    apply Array.ext'
    simp [madeCells, iv]
    apply List.ext_getElem?
    intro i
    by_cases hi : i < n
    · simp [hi, Nat.mod_one]
    · rw [List.getElem?_eq_none (by simp; omega), List.getElem?_eq_none (by simp; omega)]
  rw [e]
  have := SlI.list (k := k) (List.replicate n 0) (by simpa using h)
  simpa using this
end
attribute [irreducible] iv

--# slt
/-- A slice's type: elements of type e, of size cells and so many bytes, zero z. -/
def SlT (P : Program) (t e : TypeId) (size bytes : Nat) (z : Value) : Prop :=
  P.underlying t = some (.slice e) ∧ (P.info? e).map (fun i => (i.size, i.bytes)) = some (size, bytes) ∧ (P.info? e).bind (·.zero) = some z ∧ z.cells.size = size ∧ 0 < size
theorem SlT.info {P : Program} {t e : TypeId} {size bytes : Nat} {z : Value} (h : SlT P t e size bytes z) : ∃ i, P.info? e = some i ∧ i.zero = some z ∧ i.size = size ∧ i.bytes = bytes := by
  obtain ⟨_, h1, h2, _, _⟩ := h
  cases hq : P.info? e with
  | none => simp [hq] at h1
  | some i =>
    simp only [hq, Option.map_some, Option.some.injEq, Prod.mk.injEq] at h1
    simp only [hq, Option.bind_some] at h2
    exact ⟨i, rfl, h2, h1.1, h1.2⟩
theorem Wr.grown {w w' : World} {g : Nat} (h : w.grownBy w' (some g)) : Wr g w w' :=
  ⟨fun w0 h0 he => by
      have hb : Below w0.heap.size w0 w := he.below
      have := Below.grown hb h he.size (fun k hk => by cases hk; exact h0)
      unfold Ext
      exact this,
    fun j hj hne => h.block j hj (fun e => hne (by injection e)), h.size⟩

--# opruns
section
variable {P : Program} {ρ : Operand → Value} {o : Oper} {w : World} {R : Value → World → Prop} {t e : TypeId} {size bytes : Nat} {z : Value}
theorem OpRun.bslice {len : Nat} {parts : Array (Nat × Operand)} (cs : Array Value) (hT : SlT P t e size bytes z) (ho : o.op = .buildSlice t len parts) (hlen : len * size ≤ 16777216)
    (hc : Instr.fill (fun i => some (i * size, size)) ((Array.range (len * size)).map (z.cells[· % z.cells.size]!)) (parts.toList.map fun p => (p.1, ρ p.2)) = some cs)
    (h : R (.slice (some ⟨w.heap.size, 0, none⟩) len len) (w.alloc (.cells cs e))) : OpRun P ρ o w R := by
  obtain ⟨i, hi, hz, hs, hby⟩ := hT.info
  have hr : (Instr.buildSlice t len (parts.map fun (i, x) => (i, ρ x))).run P w = .ok (.slice (some ⟨w.heap.size, 0, none⟩) len len) (w.alloc (.cells cs e)) := by
    have n1 : ¬ (16777216 < len * size) := by omega
    by_cases h0 : len * size = 0
    · rw [h0] at hc
      have hc' : Instr.fill (fun i => some (i * size, size)) #[] (parts.toList.map fun p => (p.1, ρ p.2)) = some cs := by rw [← hc, Array.range_zero', Array.map_empty]
      simp [Instr.buildSlice, run_underlying hT.1, sizeOf, typeInfo, hi, hs, h0, zeroValue, hz, newRow, Array.range_zero', hc']
    · simp [Instr.buildSlice, run_underlying hT.1, sizeOf, typeInfo, hi, hs, h0, n1, zeroValue, hz, newRow, hc]
  unfold OpRun execOp
  simp only [ho, Sem.run_bind, hr, Result.andThen_ok]
  exact h
theorem OpRun.mslice {x y : Operand} {k1 k2 : IntKind} (n : Nat) (hT : SlT P t e size bytes z) (ho : o.op = .makeSlice t x y) (hx : ρ x = .int k1 (n : Int)) (hy : ρ y = .int k2 (n : Int)) (hn : bytes * n ≤ 281474976710656 ∧ n ≤ 9223372036854775807)
    (h : R (.slice (some ⟨w.heap.size, 0, none⟩) n n) (w.alloc (.cells (madeCells z.cells (n * size)) e))) : OpRun P ρ o w R := by
  obtain ⟨i, hi, hz, hs, hby⟩ := hT.info
  have hb' : (i.bytes : Int) * (n : Int) ≤ 281474976710656 := by
    have h : ((i.bytes * n : Nat) : Int) ≤ 281474976710656 := by rw [hby]; omega
    rwa [Int.natCast_mul] at h
  have hr := run_make (P := P) w t e i z hT.1 hi hz k1 k2 n n (by omega) (by omega) hb' (by omega)
  simp only [Int.toNat_natCast, hs] at hr
  unfold OpRun execOp
  simp only [ho, hx, hy, Sem.run_bind, hr, Result.andThen_ok]
  exact h
theorem OpRun.six {x y : Operand} {g off n cap m : Nat} {k : IntKind} {i : Nat} (ht : SliT P t m) (ho : o.op = .indexAddr t x y) (hx : ρ x = .slice (some ⟨g, off, none⟩) n cap) (hy : ρ y = .int k (i : Int)) (h1 : i < n)
    (h : R (.pointer (some ⟨g, off + i * m, none⟩)) w) : OpRun P ρ o w R := by
  obtain ⟨e, hu, hi⟩ := ht
  have hr : (Instr.indexAt t (ρ x) (ρ y)).run P w = .ok (.pointer (some ⟨g, off + i * m, none⟩)) w := by
    rw [hx, hy]
    unfold Instr.indexAt
    simp [Sem.run_bind, asIntOf, run_underlying hu w, h1, run_size hi, Addr.add_mid]
  unfold OpRun execOp
  simp only [ho, Sem.run_bind, hr, Result.andThen_ok]
  exact h
theorem OpRun.six1 {x y : Operand} {g off n cap : Nat} {k : IntKind} {i : Nat} (ht : SliT P t 1) (ho : o.op = .indexAddr t x y) (hx : ρ x = .slice (some ⟨g, off, none⟩) n cap) (hy : ρ y = .int k (i : Int)) (h1 : i < n)
    (h : R (.pointer (some ⟨g, off + i, none⟩)) w) : OpRun P ρ o w R := OpRun.six ht ho hx hy h1 (by rw [Nat.mul_one]; exact h)
/-- An element of a slice that was handed in. -/
theorem OpRun.sixA {x y : Operand} {ad : Addr} {n cap m : Nat} {k : IntKind} {i : Nat} (ht : SliT P t m) (ho : o.op = .indexAddr t x y) (hx : ρ x = .slice (some ad) n cap) (hy : ρ y = .int k (i : Int)) (h1 : i < n)
    (h : R (.pointer (some (ad.add (i * m)))) w) : OpRun P ρ o w R := by
  obtain ⟨e, hu, hi⟩ := ht
  have hr : (Instr.indexAt t (ρ x) (ρ y)).run P w = .ok (.pointer (some (ad.add (i * m)))) w := by
    rw [hx, hy]
    unfold Instr.indexAt
    simp [Sem.run_bind, asIntOf, run_underlying hu w, h1, run_size hi]
  unfold OpRun execOp
  simp only [ho, Sem.run_bind, hr, Result.andThen_ok]
  exact h
theorem OpRun.cellA {ad : Addr} {x : Operand} {v : Value} (hs : ScalT P t) (ho : o.op = .load t x) (hx : ρ x = .pointer (some ad)) (hc : w.cell? ad = some v) (h : R v w) : OpRun P ρ o w R := by
  obtain ⟨d, hu, hd, _⟩ := hs
  have hl : (loadVar t ad).run P w = .ok v w := by
    unfold loadVar
    rw [Sem.run_bind, run_isAgg hu, hd]
    simp [Result.andThen, load, Sem.run, hc]
  unfold OpRun execOp
  simp only [ho, hx, Instr.loadAt, Instr.sureAddr, Sem.run_bind, Sem.run_pure, Result.andThen_ok, hl]
  exact h
theorem OpRun.len {x : Operand} {b : Option Addr} {n c : Nat} (ht : ∃ e, P.underlying t = some (.slice e)) (ho : o.op = .call { callee := .builtin .len, args := #[x], argTypes := #[t] }) (hx : ρ x = .slice b n c)
    (h : R (.int .i64 (n : Int)) w) : OpRun P ρ o w R := by
  obtain ⟨e, hu⟩ := ht
  have hr : (Builtin.len_ #[t] o.type #[.slice b n c]).run P w = .ok (.int .i64 (n : Int)) w := by
    simp [Builtin.len_, run_underlying hu, goInt]
  unfold OpRun execOp
  simp only [ho, resolve, invoke, builtin, Sem.run_bind, Sem.run_pure, Result.andThen_ok, List.map_toArray, List.map_cons, List.map_nil, hx, hr]
  exact h
theorem OpRun.app {s x : Operand} {g d n cap m c : Nat} {e2 : TypeId} {cs ds : Array Value} {vs news : List Value} (hT : SlT P t e size bytes z) (ho : o.op = .call { callee := .builtin .append, args := #[s, x], argTypes := #[t, t] })
    (hs : ρ s = .slice (some ⟨g, 0, none⟩) n cap) (hx : ρ x = .slice (some ⟨d, 0, none⟩) m c) (hb : Blk w g e cs) (hS : SlO cs n cap size vs) (hd : Blk w d e2 ds) (hp : ∀ (j : Nat) (u : Value), news[j]? = some u → ds[j]? = some u)
    (hl : news.length = m * size) (h1 : ∀ u ∈ news, u.oneCell' = true) (hbd : n + m ≤ 9223372036854775807 ∧ (n + m) * bytes ≤ 140737488355328)
    (h : ∀ g' cap' cs' w', Blk w' g' e cs' → SlO cs' (n + m) cap' size (vs ++ news) → Wr g w w' → (g' = g ∨ w.heap.size ≤ g') → R (.slice (some ⟨g', 0, none⟩) (n + m) cap') w') : OpRun P ρ o w R := by
  obtain ⟨i, hi, hz, his, hby⟩ := hT.info
  have hlt : g ≤ w.heap.size := Nat.le_of_lt hb.lt
  have hn : ∀ j u, news[j]? = some u → w.cell? ((⟨d, 0, none⟩ : Addr).add j) = some u := fun j u hu => by
    rw [Addr.add_mid, Nat.zero_add, hd.cell]; exact hp j u hu
  have hlen : (vs ++ news).length = (n + m) * i.size := by rw [List.length_append, hS.len, hl, Nat.add_mul, his]
  have fin : ∀ {v' w'}, (Builtin.append_ #[t, t] o.type #[.slice (some ⟨g, 0, none⟩) n cap, .slice (some ⟨d, 0, none⟩) m c]).run P w = .ok v' w' → R v' w' → OpRun P ρ o w R := by
    intro v' w' hr hR
    unfold OpRun execOp
    simp only [ho, resolve, invoke, builtin, Sem.run_bind, Sem.run_pure, Result.andThen_ok, List.map_toArray, List.map_cons, List.map_nil, hs, hx, hr]
    exact hR
  subst his
  subst hby
  have hm : n + m ≤ maxLen := by simp only [maxLen]; omega
  by_cases hroom : n + m ≤ cap
  · have hfit : n * i.size + news.length ≤ cs.size := by rw [hl, hS.sz, ← Nat.add_mul]; exact Nat.mul_le_mul_right _ hroom
    have hr := run_append_room (P := P) w t o.type e i hT.1 hi g n cap cs hb ⟨d, 0, none⟩ m c news hl hn h1 hroom hfit
    refine fin hr (h g cap _ _ (setRow_heap w g cs _ e _ hb) ⟨?_, hlen, hroom, hS.cm, ?_⟩ ⟨fun w0 h0 he => setRow_ext h0 he, fun j _ hne => setRow_far w _ hne, by simp⟩ (.inl rfl))
    · have hpre := hS.pre
      rw [hS.len] at hpre
      simp only [hpre]
      exact List.take_left
    · have hpre := hS.sz
      simp only [List.size_toArray, List.length_append, List.length_take, List.length_drop, Array.length_toList]
      omega
  · have holds : ∀ j u, vs[j]? = some u → w.cell? ((⟨g, 0, none⟩ : Addr).add j) = some u := fun j u hu => by
      rw [Addr.add_mid, Nat.zero_add, hb.cell]; exact hS.get hu
    have hr := run_append_grow (P := P) w t o.type e i z hT.1 hi hz ⟨g, 0, none⟩ n cap vs hS.len holds ⟨d, 0, none⟩ m c news hl hn (by omega) (by omega) (growslice_fits (by omega) hbd.2)
    have hge := grownCap_ge w (n + m) cap e
    have hcm : grownCap w (n + m) cap e ≤ maxLen := grownCap_le_maxLen w (n + m) cap e hm
    refine fin hr (h w.heap.size _ _ _ (heap_alloc_new w.drew _) ⟨?_, hlen, hge, hcm, ?_⟩ (Wr.of_ext ((Ext.refl w).drew.alloc _)) (.inr (Nat.le_refl _)))
    · simp only [Array.toList_append, List.append_assoc]
      rw [← List.append_assoc]
      exact List.take_left
    · simp only [Array.size_append, List.size_toArray, size_zeroCells, hT.2.2.2.1, hS.len, hl, ← Nat.add_mul]
      congr 1
      omega
end

--# handed in
/-- A slice that was handed in: whole numbers of one kind. -/
def SlA (w : World) (ad : Addr) (k : IntKind) (xs : List Int) : Prop := ∀ i, i < xs.length → w.cell? (ad.add (i * 1)) = some (.int k (atI xs i))
theorem SlA.ext {w w' : World} {ad : Addr} {k : IntKind} {xs : List Int} (h : SlA w ad k xs) (e : Ext w w') : SlA w' ad k xs := by
  intro i hi
  have h1 := h i hi
  rw [Below.cell e.below (World.block_lt_of_cell? w _ h1)]
  exact h1
theorem SlA.get {w : World} {ad : Addr} {k : IntKind} {xs : List Int} (h : SlA w ad k xs) {i : Nat} (hi : i < xs.length) : w.cell? (ad.add (i * 1)) = some (.int k (atI xs i)) := h i hi
/-- A slice that was handed in, nil or not. -/
def SlIn (w : World) (v : Value) (k : IntKind) (xs : List Int) : Prop := (v = .slice none 0 0 ∧ xs = []) ∨ ∃ ad cap, v = .slice (some ad) xs.length cap ∧ SlA w ad k xs
theorem SlIn.ext {w w' : World} {v : Value} {k : IntKind} {xs : List Int} (h : SlIn w v k xs) (e : Ext w w') : SlIn w' v k xs := by
  rcases h with h | ⟨ad, cap, h, h2⟩
  · exact .inl h
  · exact .inr ⟨ad, cap, h, h2.ext e⟩

--# wrules
section
variable {P : Program} {ops : Array Oper} {Q : Exit → Act → World → Prop} {rest : List Oper} {o : Oper} {a : Act} {w : World} {t e : TypeId} {size bytes : Nat} {z : Value}
theorem wshr {x y : Operand} {ty2 : TypeId} (kd k2 : IntKind) (x0 n : Int) (k : wpList P ops Q rest (putL a o.dst (.int kd (x0 / 2 ^ n.toNat))) w) (h0 : 0 ≤ n := by omega) (h1 : n < kd.bits := by simp only [IntKind.bits]; omega)
    (hw : Region.wanted o (yielded ops a.tmps) = true := by kernel_rfl) (ho : o.op = .binOp .shr t x y ty2 := by exact rfl) (hx : evalL a x = .int kd x0 := by kernel_rfl) (hy : evalL a y = .int k2 n := by kernel_rfl) : wpList P ops Q (o :: rest) a w :=
  wpl_op (R := fun v' w' => v' = _ ∧ w' = w) rfl hw (OpRun.shr ho hx hy h0 h1 ⟨rfl, rfl⟩) (fun v' w' h => by rw [h.1, h.2]; exact k)
theorem wshl {x y : Operand} {ty2 : TypeId} (kd k2 : IntKind) (x0 n : Int) (k : wpList P ops Q rest (putL a o.dst (.int kd (kd.wrap (x0 * 2 ^ n.toNat)))) w) (h0 : 0 ≤ n := by omega) (h1 : n < kd.bits := by simp only [IntKind.bits]; omega)
    (hw : Region.wanted o (yielded ops a.tmps) = true := by kernel_rfl) (ho : o.op = .binOp .shl t x y ty2 := by exact rfl) (hx : evalL a x = .int kd x0 := by kernel_rfl) (hy : evalL a y = .int k2 n := by kernel_rfl) : wpList P ops Q (o :: rest) a w :=
  wpl_op (R := fun v' w' => v' = _ ∧ w' = w) rfl hw (OpRun.shl ho hx hy h0 h1 ⟨rfl, rfl⟩) (fun v' w' h => by rw [h.1, h.2]; exact k)
theorem wlen {x : Operand} {v : Value} {ik : IntKind} {xs : List Int} (hv : SlIn w v ik xs) (hu : ∃ e, P.underlying t = some (.slice e)) (k : wpList P ops Q rest (putL a o.dst (.int .i64 (xs.length : Int))) w)
    (hw : Region.wanted o (yielded ops a.tmps) = true := by kernel_rfl) (ho : o.op = .call { callee := .builtin .len, args := #[x], argTypes := #[t] } := by exact rfl) (hx : evalL a x = v := by kernel_rfl) : wpList P ops Q (o :: rest) a w := by
  refine wpl_op (R := fun v' w' => v' = .int .i64 (xs.length : Int) ∧ w' = w) rfl hw ?_ (fun v' w' h => by rw [h.1, h.2]; exact k)
  rcases hv with ⟨rfl, rfl⟩ | ⟨ad, cap, rfl, _⟩
  · exact OpRun.len hu ho hx ⟨rfl, rfl⟩
  · exact OpRun.len hu ho hx ⟨rfl, rfl⟩
theorem wbsl {parts : Array (Nat × Operand)} (len : Nat) (cs : Array Value) (hT : SlT P t e size bytes z) (k : ∀ g w', Blk w' g e cs → Ext w w' → w.heap.size ≤ g → wpList P ops Q rest (putL a o.dst (.slice (some ⟨g, 0, none⟩) len len)) w') (hlen : len * size ≤ 16777216 := by decide)
    (hw : Region.wanted o (yielded ops a.tmps) = true := by kernel_rfl) (ho : o.op = .buildSlice t len parts := by exact rfl)
    (hc : Instr.fill (fun i => some (i * size, size)) ((Array.range (len * size)).map (z.cells[· % z.cells.size]!)) (parts.toList.map fun p => (p.1, evalL a p.2)) = some cs := by kernel_rfl) : wpList P ops Q (o :: rest) a w := by
  refine wpl_op (R := fun v w' => ∃ g, v = .slice (some ⟨g, 0, none⟩) len len ∧ Blk w' g e cs ∧ Ext w w' ∧ w.heap.size ≤ g) rfl hw (OpRun.bslice cs hT ho hlen hc ⟨_, rfl, Blk.new _ _ _, (Ext.refl w).alloc _, Nat.le_refl _⟩) ?_
  rintro v w' ⟨g, rfl, h1, h2, h3⟩
  exact k g w' h1 h2 h3
theorem wmsl {x y : Operand} {k1 k2 : IntKind} (n : Nat) (hT : SlT P t e size bytes z) (k : ∀ g w', Blk w' g e (madeCells z.cells (n * size)) → Ext w w' → w.heap.size ≤ g → wpList P ops Q rest (putL a o.dst (.slice (some ⟨g, 0, none⟩) n n)) w') (hn : bytes * n ≤ 281474976710656 ∧ n ≤ 9223372036854775807 := by omega)
    (hw : Region.wanted o (yielded ops a.tmps) = true := by kernel_rfl) (ho : o.op = .makeSlice t x y := by exact rfl) (hx : evalL a x = .int k1 (n : Int) := by kernel_rfl) (hy : evalL a y = .int k2 (n : Int) := by kernel_rfl) : wpList P ops Q (o :: rest) a w := by
  refine wpl_op (R := fun v w' => ∃ g, v = .slice (some ⟨g, 0, none⟩) n n ∧ Blk w' g e (madeCells z.cells (n * size)) ∧ Ext w w' ∧ w.heap.size ≤ g) rfl hw (OpRun.mslice n hT ho hx hy hn ⟨_, rfl, Blk.new _ _ _, (Ext.refl w).alloc _, Nat.le_refl _⟩) ?_
  rintro v w' ⟨g, rfl, h1, h2, h3⟩
  exact k g w' h1 h2 h3
theorem wsix {x y : Operand} {m : Nat} (g off n cap i : Nat) (kd : IntKind) (ht : SliT P t m) (k : wpList P ops Q rest (putL a o.dst (.pointer (some ⟨g, off + i * m, none⟩))) w) (h1 : i < n := by omega)
    (hw : Region.wanted o (yielded ops a.tmps) = true := by kernel_rfl) (ho : o.op = .indexAddr t x y := by exact rfl) (hx : evalL a x = .slice (some ⟨g, off, none⟩) n cap := by kernel_rfl) (hy : evalL a y = .int kd (i : Int) := by kernel_rfl) : wpList P ops Q (o :: rest) a w :=
  wpl_op (R := fun v' w' => v' = _ ∧ w' = w) rfl hw (OpRun.six ht ho hx hy h1 ⟨rfl, rfl⟩) (fun v' w' h => by rw [h.1, h.2]; exact k)
theorem wsix1 {x y : Operand} (g off n cap i : Nat) (kd : IntKind) (ht : SliT P t 1) (k : wpList P ops Q rest (putL a o.dst (.pointer (some ⟨g, off + i, none⟩))) w) (h1 : i < n := by omega)
    (hw : Region.wanted o (yielded ops a.tmps) = true := by kernel_rfl) (ho : o.op = .indexAddr t x y := by exact rfl) (hx : evalL a x = .slice (some ⟨g, off, none⟩) n cap := by kernel_rfl) (hy : evalL a y = .int kd (i : Int) := by kernel_rfl) : wpList P ops Q (o :: rest) a w :=
  wsix g off n cap i kd ht (by rw [Nat.mul_one]; exact k) h1 hw ho hx hy
theorem wsix1z {x y : Operand} (g off n cap : Nat) (i : Int) (kd : IntKind) (ht : SliT P t 1) (k : wpList P ops Q rest (putL a o.dst (.pointer (some ⟨g, off + i.toNat, none⟩))) w) (h0 : 0 ≤ i := by omega) (h1 : i < n := by omega)
    (hw : Region.wanted o (yielded ops a.tmps) = true := by kernel_rfl) (ho : o.op = .indexAddr t x y := by exact rfl) (hx : evalL a x = .slice (some ⟨g, off, none⟩) n cap := by kernel_rfl) (hy : evalL a y = .int kd i := by kernel_rfl) : wpList P ops Q (o :: rest) a w :=
  wsix g off n cap i.toNat kd ht (by rw [Nat.mul_one]; exact k) (by omega) hw ho hx (by rw [Int.toNat_of_nonneg h0]; exact hy)
theorem wsixA {x y : Operand} {m : Nat} (ad : Addr) (n cap i : Nat) (kd : IntKind) (ht : SliT P t m) (k : wpList P ops Q rest (putL a o.dst (.pointer (some (ad.add (i * m))))) w) (h1 : i < n := by omega)
    (hw : Region.wanted o (yielded ops a.tmps) = true := by kernel_rfl) (ho : o.op = .indexAddr t x y := by exact rfl) (hx : evalL a x = .slice (some ad) n cap := by kernel_rfl) (hy : evalL a y = .int kd (i : Int) := by kernel_rfl) : wpList P ops Q (o :: rest) a w :=
  wpl_op (R := fun v' w' => v' = _ ∧ w' = w) rfl hw (OpRun.sixA ht ho hx hy h1 ⟨rfl, rfl⟩) (fun v' w' h => by rw [h.1, h.2]; exact k)
theorem wldA {x : Operand} {v : Value} (ad : Addr) (hs : ScalT P t) (hc : w.cell? ad = some v) (k : wpList P ops Q rest (putL a o.dst v) w)
    (hw : Region.wanted o (yielded ops a.tmps) = true := by kernel_rfl) (ho : o.op = .load t x := by exact rfl) (hx : evalL a x = .pointer (some ad) := by kernel_rfl) : wpList P ops Q (o :: rest) a w :=
  wpl_op (R := fun v' w' => v' = v ∧ w' = w) rfl hw (OpRun.cellA hs ho hx hc ⟨rfl, rfl⟩) (fun v' w' h => by rw [h.1, h.2]; exact k)
theorem wapp {s x : Operand} {g d n cap m c : Nat} {e2 : TypeId} {cs ds : Array Value} {vs : List Value} (news : List Value) (hT : SlT P t e size bytes z) (hb : Blk w g e cs) (hS : SlO cs n cap size vs) (hd : Blk w d e2 ds)
    (k : ∀ g' cap' cs' w', Blk w' g' e cs' → SlO cs' (n + m) cap' size (vs ++ news) → Wr g w w' → (g' = g ∨ w.heap.size ≤ g') → wpList P ops Q rest (putL a o.dst (.slice (some ⟨g', 0, none⟩) (n + m) cap')) w')
    (hbd : n + m ≤ 9223372036854775807 ∧ (n + m) * bytes ≤ 140737488355328 := by omega) (hl : news.length = m * size := by rfl) (h1 : ∀ u ∈ news, u.oneCell' = true := by simp [Value.oneCell']) (hp : news = ds.toList := by rfl)
    (hw : Region.wanted o (yielded ops a.tmps) = true := by kernel_rfl) (ho : o.op = .call { callee := .builtin .append, args := #[s, x], argTypes := #[t, t] } := by exact rfl)
    (hs : evalL a s = .slice (some ⟨g, 0, none⟩) n cap := by kernel_rfl) (hx : evalL a x = .slice (some ⟨d, 0, none⟩) m c := by kernel_rfl) : wpList P ops Q (o :: rest) a w := by
  refine wpl_op (R := fun v w' => ∃ g' cap' cs', v = .slice (some ⟨g', 0, none⟩) (n + m) cap' ∧ Blk w' g' e cs' ∧ SlO cs' (n + m) cap' size (vs ++ news) ∧ Wr g w w' ∧ (g' = g ∨ w.heap.size ≤ g')) rfl hw
    (OpRun.app hT ho hs hx hb hS hd (fun j u hu => by rw [hp] at hu; rwa [Array.getElem?_toList] at hu) hl h1 hbd (fun g' cap' cs' w' h1 h2 h3 h4 => ⟨g', cap', cs', rfl, h1, h2, h3, h4⟩)) ?_
  rintro v w' ⟨g', cap', cs', rfl, h1, h2, h3, h4⟩
  exact k g' cap' cs' w' h1 h2 h3 h4
/-- One whole number more. -/
theorem wappi {s x : Operand} {g d n cap : Nat} {e2 : TypeId} {cs : Array Value} {ik : IntKind} {xs : List Int} (y : Int) (hT : SlT P t e 1 bytes z) (hb : Blk w g e cs) (hS : SlI cs n cap ik xs) (hd : Blk w d e2 #[.int ik y])
    (k : ∀ g' cap' cs' w', Blk w' g' e cs' → SlI cs' (n + 1) cap' ik (xs ++ [y]) → Wr g w w' → (g' = g ∨ w.heap.size ≤ g') → wpList P ops Q rest (putL a o.dst (.slice (some ⟨g', 0, none⟩) (n + 1) cap')) w')
    (hbd : n + 1 ≤ 9223372036854775807 ∧ (n + 1) * bytes ≤ 140737488355328 := by omega)
    (hw : Region.wanted o (yielded ops a.tmps) = true := by kernel_rfl) (ho : o.op = .call { callee := .builtin .append, args := #[s, x], argTypes := #[t, t] } := by exact rfl)
    (hs : evalL a s = .slice (some ⟨g, 0, none⟩) n cap := by kernel_rfl) (hx : evalL a x = .slice (some ⟨d, 0, none⟩) 1 1 := by kernel_rfl) : wpList P ops Q (o :: rest) a w := by
  refine wapp [.int ik y] hT hb hS hd (fun g' cap' cs' w' h1 h2 h3 h4 => ?_) hbd rfl (by simp [Value.oneCell']) rfl hw ho hs hx
  rw [← iv_append] at h2
  exact k g' cap' cs' w' h1 h2 h3 h4
/-- What a function returns that makes a list of whole numbers. -/
def RetI (w : World) (t : TypeId) (k : IntKind) (xs : List Int) (mk : Value → Value) (e : Ending) (w' : World) : Prop :=
  ∃ g n cap cs, e = .returned (mk (.slice (some ⟨g, 0, none⟩) n cap)) ∧ Blk w' g t cs ∧ SlI cs n cap k xs ∧ Ext w w' ∧ w.heap.size ≤ g
theorem wcli {f : FuncId} {args : Array Value} {ik : IntKind} {xs : List Int} {mk : Value → Value} (hc : Calls P f args w (RetI w t ik xs mk))
    (k : ∀ g cap cs w', Blk w' g t cs → SlI cs xs.length cap ik xs → Ext w w' → w.heap.size ≤ g → wpList P ops Q rest (putL a o.dst (mk (.slice (some ⟨g, 0, none⟩) xs.length cap))) w')
    (hw : Region.wanted o (yielded ops a.tmps) = true := by kernel_rfl) (he : (execOp (evalL a) o).run P w = .ok (.enter f args) w := by kernel_rfl) : wpList P ops Q (o :: rest) a w :=
  wpl_callx (S := fun v w' => ∃ g cap cs, v = mk (.slice (some ⟨g, 0, none⟩) xs.length cap) ∧ Blk w' g t cs ∧ SlI cs xs.length cap ik xs ∧ Ext w w' ∧ w.heap.size ≤ g) f args rfl hw he hc
    (fun e w' ⟨g, n, cap, cs, he, h1, h2, h⟩ => by obtain rfl := h2.len; exact ⟨_, he, g, cap, cs, rfl, h1, h2, h⟩) (fun v w' ⟨g, cap, cs, hv, h1, h2, h3, h4⟩ => by rw [hv]; exact k g cap cs w' h1 h2 h3 h4)
theorem wclx {f : FuncId} {args : Array Value} {R : Ending → World → Prop} (S : Value → World → Prop) (hc : Calls P f args w R) (hR : ∀ e w', R e w' → ∃ v, e = .returned v ∧ S v w') (k : ∀ v w', S v w' → wpList P ops Q rest (putL a o.dst v) w')
    (hw : Region.wanted o (yielded ops a.tmps) = true := by kernel_rfl) (he : (execOp (evalL a) o).run P w = .ok (.enter f args) w := by kernel_rfl) : wpList P ops Q (o :: rest) a w := wpl_callx f args rfl hw he hc hR k
theorem rounds_s {P : Program} {c : Code} {Q : Exit → Act → World → Prop} {n : Nat} {a : Act} {w : World} (h : c.wp P (Exit.then (Code.rounds P c Q n) Q) a w) : Code.rounds P c Q (n + 1) a w := h
theorem Wr.lo {w w0 : World} {g g' : Nat} (h : g' = g ∨ w.heap.size ≤ g') (hlo : w0.heap.size ≤ g) (he : w0.heap.size ≤ w.heap.size) : w0.heap.size ≤ g' := by omega
theorem ne_app {w : World} {b g g' : Nat} {t : TypeId} {cs : Array Value} (hb : Blk w b t cs) (hne : b ≠ g) (h : g' = g ∨ w.heap.size ≤ g') : b ≠ g' := by
  rcases h with rfl | h
  · exact hne
  · have := hb.lt
    omega
end
end Go.Proofs.Ytdhidmigngmgjaa
