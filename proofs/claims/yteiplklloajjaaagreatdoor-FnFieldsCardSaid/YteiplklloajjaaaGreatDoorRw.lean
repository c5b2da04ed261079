/-
  Slices of structs of whole numbers: handed in, made, read, put, compared. No conditions.
-/
import Derived.Test.YteiplklloajjaaaGreatDoorEq
import Derived.Test.YteiplklloajjaaaGreatDoorRowk
import Derived.Deep.Slices
namespace Go.Proofs.YteiplklloajjaaaGreatDoor
open Go.RowKit Go.ChangeShapes Go.WideShapes
set_option linter.unusedSimpArgs false
set_option linter.unusedVariables false

--# rows
/-- One row: whole numbers of the kinds ks. -/
def rowL : List IntKind → (Nat → Int) → List Value
  | [], _ => []
  | k :: ks, h => .int k (h 0) :: rowL ks (fun j => h (j + 1))
theorem rowL_length : ∀ (ks : List IntKind) (h : Nat → Int), (rowL ks h).length = ks.length
  | [], _ => rfl
  | k :: ks, h => by simp [rowL, rowL_length ks]
theorem rowL_get : ∀ (ks : List IntKind) (h : Nat → Int) (j : Nat), (rowL ks h)[j]? = (ks[j]?).map fun k => .int k (h j)
  | [], _, _ => by simp [rowL]
  | k :: ks, h, 0 => by simp [rowL]
  | k :: ks, h, j + 1 => by simp [rowL, rowL_get ks]
/-- A block of n rows of m numbers. -/
structure SlR (cs : Array Value) (n m : Nat) (ks : List IntKind) (f : Nat → Nat → Int) : Prop where
  lk : ks.length = m
  sz : cs.size = n * m
  cm : n ≤ maxLen
  get : ∀ i j, i < n → j < m → cs[i * m + j]? = (rowL ks (f i))[j]?
def updR (f : Nat → Nat → Int) (i : Nat) (h : Nat → Int) : Nat → Nat → Int := fun i' => if i' = i then h else f i'
theorem updR_self {f : Nat → Nat → Int} {i : Nat} {h : Nat → Int} : updR f i h i = h := if_pos rfl
theorem updR_ne {f : Nat → Nat → Int} {i j : Nat} {h : Nat → Int} (hn : j ≠ i) : updR f i h j = f j := if_neg hn
section
variable {cs : Array Value} {n m : Nat} {ks : List IntKind} {f f' : Nat → Nat → Int} {i : Nat}
theorem SlR.lt (h : SlR cs n m ks f) (hi : i < n) : 0 + i * m + m ≤ cs.size := by
  rw [h.sz, Nat.zero_add, ← Nat.succ_mul]
  exact Nat.mul_le_mul_right m hi
theorem SlR.range {w : World} {g : Nat} {t : TypeId} (h : SlR cs n m ks f) (hb : Blk w g t cs) (hi : i < n) : w.rangeAt g (0 + i * m) (rowL ks (f i)) := by
  intro j v hv
  have hj : j < m := by
    have := (List.getElem?_eq_some_iff.1 hv).1
    rwa [rowL_length, h.lk] at this
  rw [hb.cell, Nat.zero_add, h.get i j hi hj]
  exact hv
theorem SlR.of (h : SlR cs n m ks f) (e : ∀ i, i < n → f i = f' i) : SlR cs n m ks f' := ⟨h.lk, h.sz, h.cm, fun i j hi hj => by rw [h.get i j hi hj, e i hi]⟩
theorem SlR.put (h : SlR cs n m ks f) (hi : i < n) (r : Nat → Int) : SlR (spliceAt cs (0 + i * m) (rowL ks r)) n m ks (updR f i r) := by
  have hlt := h.lt hi
  rw [Nat.zero_add] at hlt ⊢
  have hlen : (rowL ks r).length = m := by rw [rowL_length, h.lk]
  refine ⟨h.lk, ?_, h.cm, fun i' j hi' hj => ?_⟩
  · rw [← h.sz]
    unfold spliceAt
    simp only [List.size_toArray, List.length_append, List.length_take, List.length_drop, Array.length_toList, hlen]
    omega
  · unfold spliceAt
    rw [List.getElem?_toArray, List.append_assoc]
    have htk : (cs.toList.take (i * m)).length = i * m := by rw [List.length_take, Array.length_toList]; omega
    rcases Nat.lt_trichotomy i' i with hc | hc | hc
    · have h1 : i' * m + m ≤ i * m := by rw [← Nat.succ_mul]; exact Nat.mul_le_mul_right m hc
      rw [List.getElem?_append_left (by omega), List.getElem?_take_of_lt (by omega), Array.getElem?_toList, h.get i' j hi' hj, updR_ne (by omega)]
    · subst hc
      rw [List.getElem?_append_right (by omega), htk, List.getElem?_append_left (by omega), updR_self, show i' * m + j - i' * m = j by omega]
    · have h1 : i * m + m ≤ i' * m := by rw [← Nat.succ_mul]; exact Nat.mul_le_mul_right m hc
      rw [List.getElem?_append_right (by omega), htk, List.getElem?_append_right (by omega), hlen, List.getElem?_drop, Array.getElem?_toList, show i * m + m + (i' * m + j - i * m - m) = i' * m + j by omega, h.get i' j hi' hj, updR_ne (by omega)]
theorem madeR {zc : Array Value} (n : Nat) (hm : ks.length = m) (hz : zc = (rowL ks fun _ => 0).toArray) (h : n ≤ maxLen) : SlR (madeCells zc (n * m)) n m ks (fun _ _ => 0) := by
  have hs : zc.size = m := by rw [hz]; simp [rowL_length, hm]
  refine ⟨hm, by simp [madeCells], h, fun i j hi hj => ?_⟩
  have h1 : i * m + j < n * m := by
    have : i * m + m ≤ n * m := by rw [← Nat.succ_mul]; exact Nat.mul_le_mul_right m hi
    omega
  unfold madeCells
  rw [Array.getElem?_map, Array.getElem?_range, if_pos h1, Option.map_some, hs, show (i * m + j) % m = j from by rw [Nat.mul_comm, Nat.mul_add_mod, Nat.mod_eq_of_lt hj]]
  rw [getElem!_pos zc j (by omega), ← Array.getElem?_eq_getElem, hz, List.getElem?_toArray]
end

--# handed in
section
variable {w w' : World} {ad : Addr} {n m : Nat} {ks : List IntKind} {f : Nat → Nat → Int} {v : Value}
/-- Rows that were handed in. -/
def SlRA (w : World) (ad : Addr) (n m : Nat) (ks : List IntKind) (f : Nat → Nat → Int) : Prop := ks.length = m ∧ ∀ i j, i < n → j < m → w.cell? (ad.add (i * m + j)) = (rowL ks (f i))[j]?
theorem SlRA.ext (h : SlRA w ad n m ks f) (e : Ext w w') : SlRA w' ad n m ks f := by
  refine ⟨h.1, fun i j hi hj => ?_⟩
  have h1 := h.2 i j hi hj
  have hl : j < (rowL ks (f i)).length := by rw [rowL_length, h.1]; exact hj
  rw [List.getElem?_eq_getElem hl] at h1 ⊢
  rw [Below.cell e.below (World.block_lt_of_cell? w _ h1)]
  exact h1
def SlRIn (w : World) (v : Value) (n m : Nat) (ks : List IntKind) (f : Nat → Nat → Int) : Prop := (v = .slice none 0 0 ∧ n = 0) ∨ ∃ ad cap, v = .slice (some ad) n cap ∧ SlRA w ad n m ks f
theorem SlRIn.ext (h : SlRIn w v n m ks f) (e : Ext w w') : SlRIn w' v n m ks f := by
  rcases h with h | ⟨ad, cap, h, h2⟩
  · exact .inl h
  · exact .inr ⟨ad, cap, h, h2.ext e⟩
end

--# rules
section
variable {P : Program} {ρ : Operand → Value} {o : Oper} {w : World} {R : Value → World → Prop} {x y : Operand} {t : TypeId} {ad : Addr} {n m i : Nat} {ks : List IntKind} {f : Nat → Nat → Int}
theorem OpRun.rowA (hr : RowT P t m) (hA : SlRA w ad n m ks f) (hi : i < n) (ho : o.op = .load t x) (hx : ρ x = .pointer (some (ad.add (i * m)))) (h : R (.agg (rowL ks (f i)).toArray) w) : OpRun P ρ o w R := by
  obtain ⟨d, hu, hd, hs⟩ := hr
  have hlen : (rowL ks (f i)).length = m := by rw [rowL_length, hA.1]
  have hl : (loadCells (ad.add (i * m)) (rowL ks (f i)).length).run P w = .ok (rowL ks (f i)).toArray w :=
    run_loadCells_list (P := P) w _ _ (fun j v hv => by
      have hj : j < m := by have := (List.getElem?_eq_some_iff.1 hv).1; omega
      rw [Go.Deep.add_add, hA.2 i j hi hj]; exact hv)
  have hagg : (isAgg t).run P w = .ok true w := by
    unfold isAgg
    rw [Sem.run_bind, run_underlying hu w]
    cases d <;> simp_all [rowDesc]
  have hl2 : (loadVar t (ad.add (i * m))).run P w = .ok (.agg (rowL ks (f i)).toArray) w := by
    rw [hlen] at hl
    simp [loadVar, Sem.run_bind, hagg, run_size hs, hl]
  unfold OpRun execOp
  simp only [ho, hx, Instr.loadAt, Instr.sureAddr, Sem.run_bind, Sem.run_pure, Result.andThen_ok, hl2]
  exact h
end
section
variable {P : Program} {ops : Array Oper} {Q : Exit → Act → World → Prop} {rest : List Oper} {o : Oper} {a : Act} {w : World} {x y : Operand} {t e : TypeId} {n m : Nat} {ks : List IntKind} {f : Nat → Nat → Int} {v : Value}
theorem wlenR (hv : SlRIn w v n m ks f) (hu : ∃ e, P.underlying t = some (.slice e)) (k : wpList P ops Q rest (putL a o.dst (.int .i64 (n : Int))) w)
    (hw : Region.wanted o (yielded ops a.tmps) = true := by kernel_rfl) (ho : o.op = .call { callee := .builtin .len, args := #[x], argTypes := #[t] } := by exact rfl) (hx : evalL a x = v := by kernel_rfl) : wpList P ops Q (o :: rest) a w := by
  refine wpl_op (R := fun v' w' => v' = .int .i64 (n : Int) ∧ w' = w) rfl hw ?_ (fun v' w' h => by rw [h.1, h.2]; exact k)
  rcases hv with ⟨rfl, rfl⟩ | ⟨ad, cap, rfl, _⟩
  · exact OpRun.len hu ho hx ⟨rfl, rfl⟩
  · exact OpRun.len hu ho hx ⟨rfl, rfl⟩
theorem wrowA (cs : Array Value) (ad : Addr) (i : Nat) (hr : RowT P t m) (hA : SlRA w ad n m ks f) (k : wpList P ops Q rest (putL a o.dst (.agg cs)) w) (hi : i < n := by omega) (hc : (rowL ks (f i)).toArray = cs := by kernel_rfl)
    (hw : Region.wanted o (yielded ops a.tmps) = true := by kernel_rfl) (ho : o.op = .load t x := by exact rfl) (hx : evalL a x = .pointer (some (ad.add (i * m))) := by kernel_rfl) : wpList P ops Q (o :: rest) a w :=
  wpl_op (R := fun v' w' => v' = .agg cs ∧ w' = w) rfl hw (OpRun.rowA hr hA hi ho hx (by rw [hc]; exact ⟨rfl, rfl⟩)) (fun v' w' h => by rw [h.1, h.2]; exact k)
/-- Behind a call that returns a new slice of rows. -/
def RetR (w : World) (t : TypeId) (n m : Nat) (ks : List IntKind) (f : Nat → Nat → Int) (e : Ending) (w' : World) : Prop :=
  ∃ g cs, e = .returned (.slice (some ⟨g, 0, none⟩) n n) ∧ Blk w' g t cs ∧ SlR cs n m ks f ∧ Ext w w' ∧ w.heap.size ≤ g
theorem wclr {fn : FuncId} {args : Array Value} (hc : Calls P fn args w (RetR w t n m ks f))
    (k : ∀ g cs w', Blk w' g t cs → SlR cs n m ks f → Ext w w' → w.heap.size ≤ g → wpList P ops Q rest (putL a o.dst (.slice (some ⟨g, 0, none⟩) n n)) w')
    (hw : Region.wanted o (yielded ops a.tmps) = true := by kernel_rfl) (he : (execOp (evalL a) o).run P w = .ok (.enter fn args) w := by kernel_rfl) : wpList P ops Q (o :: rest) a w := by
  refine wclx (fun v_ w_ => ∃ g cs, v_ = .slice (some ⟨g, 0, none⟩) n n ∧ Blk w_ g t cs ∧ SlR cs n m ks f ∧ Ext w w_ ∧ w.heap.size ≤ g) hc (fun e_ w_ ⟨g, cs, h, r⟩ => ⟨_, h, g, cs, rfl, r⟩) ?_ hw he
  rintro v_ w_ ⟨g, cs, rfl, h1, h2, h3, h4⟩
  exact k g cs w_ h1 h2 h3 h4
end

--# equal
/-- From the field o on, c fields are equal. -/
def eqF : Nat → Nat → (Nat → Int) → (Nat → Int) → Bool
  | 0, _, _, _ => true
  | c + 1, o, h, h' => (h o == h' o) && eqF c (o + 1) h h'
def eqR (m : Nat) (h h' : Nat → Int) : Bool := eqF m 0 h h'
theorem eqF_refl : ∀ (c o : Nat) (h : Nat → Int), eqF c o h h = true
  | 0, _, _ => rfl
  | c + 1, o, h => by simp [eqF, eqF_refl c]
theorem eqR_refl (m : Nat) (h : Nat → Int) : eqR m h h = true := eqF_refl m 0 h
/-- A struct of whole numbers of the kinds ks. -/
structure RowE (P : Program) (t : TypeId) (ks : List IntKind) : Prop where
  st : P.underlying t = some (.struct (P.fieldsOf t))
  sh : P.stoodInHeld t = false
  fs : (P.fieldsOf t).toList.map (fun f => (f.name == "_", P.underlying f.type, f.offset)) = ks.zipIdx.map fun p => (false, some (.int p.1), p.2)
  eg : P.eqGuardType P.depth t = false
section
variable {P : Program} {w : World}
theorem eqFields_row (d : Nat) (A B : Array Value) (h h' : Nat → Int) : ∀ (l : List Field) (ks : List IntKind) (o : Nat), l.map (fun f => (f.name == "_", P.underlying f.type, f.offset)) = (ks.zipIdx o).map (fun p => (false, some (.int p.1), p.2)) →
    (∀ j k, ks[j]? = some k → A[o + j]? = some (.int k (h (o + j))) ∧ B[o + j]? = some (.int k (h' (o + j)))) → (Op.eqFields (d + 1) A B l).run P w = .ok (eqF ks.length o h h') w
  | [], [], _, _, _ => by simp [Op.eqFields, eqF]
  | [], _ :: _, _, he, _ => absurd he (by simp)
  | _ :: _, [], _, he, _ => absurd he (by simp)
  | f :: l, k :: ks, o, he, hg => by
    simp only [List.zipIdx_cons, List.map_cons, List.cons.injEq, Prod.mk.injEq] at he
    obtain ⟨⟨hn, hu, ho⟩, hr⟩ := he
    have h0 := hg 0 k (by simp)
    have ih := eqFields_row d A B h h' l ks (o + 1) hr (fun j k' hk => by
      have := hg (j + 1) k' (by simpa using hk)
      rwa [show o + (j + 1) = o + 1 + j by omega] at this)
    have q1 : (part f.type A f.offset).run P w = .ok (.int k (h o)) w := by rw [ho]; exact part_arr hu w h0.1
    have q2 : (part f.type B f.offset).run P w = .ok (.int k (h' o)) w := by rw [ho]; exact part_arr hu w h0.2
    have e1 : (Op.equalIn (d + 1) f.type (.int k (h o)) (.int k (h' o))).run P w = .ok (h o == h' o) w := run_equalIn_int w d _ k k _ _ hu
    simp only [Op.eqFields, name_ne hn, ne_eq, not_false_eq_true, if_true, Sem.run_bind, q1, q2, e1, Result.andThen_ok, List.length_cons, eqF]
    cases hb : (h o == h' o)
    · simp
    · simpa using ih
theorem equalIn_row {t : TypeId} {ks : List IntKind} (hT : RowE P t ks) (d : Nat) (h h' : Nat → Int) : (Op.equalIn (d + 2) t (.agg (rowL ks h).toArray) (.agg (rowL ks h').toArray)).run P w = .ok (eqR ks.length h h') w := by
  rw [run_equalIn_struct w (d + 1) t _ _ hT.st hT.sh]
  refine eqFields_row d _ _ h h' _ ks 0 hT.fs (fun j k hk => ?_)
  simp [rowL_get, hk]
end
attribute [irreducible] eqR
/-- Two lists of rows are equal. -/
def eqS (n n' m : Nat) (f f' : Nat → Nat → Int) : Bool := decide (n = n') && allB n fun i => eqR m (f i) (f' i)
section
variable {n n' m : Nat} {f f' : Nat → Nat → Int}
theorem eqS_len (h : n ≠ n') : eqS n n' m f f' = false := by unfold eqS; rw [decide_eq_false h]; rfl
theorem eqS_at (i : Nat) (hi : i < n) (h : eqR m (f i) (f' i) = false) : eqS n n' m f f' = false := by unfold eqS; rw [allB_false i hi h, Bool.and_false]
theorem eqS_t (hn : n = n') (h : ∀ i, i < n → eqR m (f i) (f' i) = true) : eqS n n' m f f' = true := by unfold eqS; rw [decide_eq_true hn, allB_true h]; rfl
end
attribute [irreducible] eqS
/-- What is left of a size. -/
def szL (l : Int) (n : Nat) : Int := if l - n < 0 then -1 else l - n
theorem szL_b (l : Int) (n : Nat) : (szL l n = -1 ∧ l < n) ∨ (szL l n = l - n ∧ (n : Int) ≤ l) := by unfold szL; split <;> omega
attribute [irreducible] szL

--# open
section
variable {H : Type} {enc : TypeId × Value → H} {P : Program} {w : World} {base : Nat} {held : Bool} {t e : TypeId} {r : Reach} {b0 : Nat} {v : Value} {d : DataW H} {ps : List MemPlace} {ks : List IntKind}
theorem open_slr {fs : Array Field} (ht : P.underlying t = some (.slice e)) (he : P.underlying e = some (.struct fs)) (hc : P.cellsOf e = ks.length)
    (hfs : fs.toList.map (fun f => (P.underlying f.type, P.cellsOf f.type, f.offset)) = ks.zipIdx.map fun p => (some (.int p.1), 1, p.2))
    (hv : Value.okWide P w r b0 t v) (h : DataW.Trod enc P w base (fun _ => true) held t v d ps) :
    ∃ (n : Nat) (f : Nat → Nat → Int), n ≤ 9223372036854775807 ∧ SlRIn w v n ks.length ks f := by
  obtain ⟨a, len, cap, rfl⟩ := okWide_slice ht hv
  obtain ⟨fuel, hf⟩ := h
  rcases Go.Deep.open_slice ht hf with ⟨hcs, _⟩ | ⟨ad, len', cap', m, n, D, Pl, hcs, _, hl, hcm, hm, _, hx⟩
  · simp [Value.cells] at hcs
    obtain ⟨rfl, rfl, rfl⟩ := hcs
    exact ⟨0, fun _ _ => 0, by omega, .inl ⟨rfl, rfl⟩⟩
  · simp [Value.cells] at hcs
    obtain ⟨rfl, rfl, rfl⟩ := hcs
    have hlm : len ≤ m := by rw [hm]; split <;> omega
    have key : ∀ i j, i < len → j < ks.length → ∃ z k, ks[j]? = some k ∧ w.cell? (ad.add (i * ks.length + j)) = some (.int k z) := by
      intro i j hi hj
      obtain ⟨cs', h1, h2⟩ := hx i (by omega)
      rw [hc] at h1
      obtain ⟨_, hlen, hcell⟩ := World.cells?_some h1
      obtain ⟨xs, n', _, _, _, hxl, hxs⟩ := DataW.trod_struct he h2
      have hfl : fs.size = ks.length := by have := congrArg List.length hfs; simpa using this
      have hfj : fs[j]? = some fs[j] := Array.getElem?_eq_getElem (by omega)
      have hxj : xs[j]? = some xs[j] := List.getElem?_eq_getElem (by omega)
      have h3 := hxs j _ hfj
      rw [hxj] at h3
      have h4 : (fs.toList.map fun f => (P.underlying f.type, P.cellsOf f.type, f.offset))[j]? = (ks.zipIdx.map fun p => (some (TypeDesc.int p.1), 1, p.2))[j]? := by rw [hfs]
      have hkj : ks[j]? = some ks[j] := List.getElem?_eq_getElem hj
      rw [List.getElem?_map, Array.getElem?_toList, hfj, List.getElem?_map, List.getElem?_zipIdx, hkj] at h4
      simp only [Option.map_some, Option.some.injEq, Prod.mk.injEq] at h4
      obtain ⟨hu, h1c, ho⟩ := h4
      rw [h1c, ho] at h3
      obtain ⟨z, h5, _, _⟩ := DataW.trod_int hu h3
      refine ⟨z, ks[j], hkj, ?_⟩
      have h6 : ((cs'.drop j).take 1)[0]? = some (.int ks[j] z) := by
        rw [show (cs'.drop j).take 1 = [.int ks[j] z] by simpa using h5]; rfl
      rw [List.getElem?_take_of_lt (by omega), List.getElem?_drop, Nat.add_zero] at h6
      rw [← Go.Deep.add_add, hcell j hj, h6]
    refine ⟨len, fun i j => if hh : i < len ∧ j < ks.length then (key i j hh.1 hh.2).choose else 0, by have e_ : maxLen = 9223372036854775807 := rfl; omega, .inr ⟨ad, cap, rfl, rfl, fun i j hi hj => ?_⟩⟩
    obtain ⟨k, hk, hz⟩ := (key i j hi hj).choose_spec
    rw [rowL_get, hk, hz]
    simp [hi, hj]
end
end Go.Proofs.YteiplklloajjaaaGreatDoor
