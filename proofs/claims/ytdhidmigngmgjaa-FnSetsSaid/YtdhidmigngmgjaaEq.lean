/-
  Equality of structs and arrays of whole numbers. No conditions.
-/
import Derived.Test.YtdhidmigngmgjaaSl
import Derived.Laws.StructEq
import Derived.ChangeKeysEq
namespace Go.Proofs.Ytdhidmigngmgjaa
open Go.RowKit
set_option linter.unusedSimpArgs false
set_option linter.unusedVariables false

--# arrays
def eqN (n : Nat) (f g : Nat → Int) : Bool := (List.range n).all fun i => f i == g i
section
variable {P : Program}
theorem part_arr {e : TypeId} {k : IntKind} (he : P.underlying e = some (.int k)) (w : World) {cs : Array Value} {i : Nat} {v : Value} (h : cs[i]? = some v) : (part e cs i).run P w = .ok v w := by
  simp [part, isAgg, run_underlying he, h]
theorem eqItems_arr {e : TypeId} {k : IntKind} (he : P.underlying e = some (.int k)) (hc : P.cellsOf e = 1) (d n : Nat) (f g : Nat → Int) (w : World) : ∀ (is : List Nat), (∀ i ∈ is, i < n) →
    (Op.eqItems (d + 1) e (P.cellsOf e) (arr n k f) (arr n k g) is).run P w = .ok (is.all fun i => f i == g i) w
  | [], _ => by simp [Op.eqItems]
  | i :: is, h => by
    have hi := h i (by simp)
    have ih := eqItems_arr he hc d n f g w is (fun j hj => h j (by simp [hj]))
    have p1 := part_arr (P := P) he w (get_arr (k := k) (f := f) hi)
    have p2 := part_arr (P := P) he w (get_arr (k := k) (f := g) hi)
    have p3 := run_equalIn_int (P := P) w d e k k (f i) (g i) he
    rw [hc] at ih ⊢
    simp only [Op.eqItems, Sem.run_bind, Nat.mul_one, p1, p2, p3, Result.andThen_ok, List.all_cons]
    cases hb : (f i == g i)
    · simp
    · simpa using ih
theorem equalIn_arr {t e : TypeId} {n : Nat} {k : IntKind} (ht : P.underlying t = some (.array n e)) (he : P.underlying e = some (.int k)) (hc : P.cellsOf e = 1) (hi : (P.info? e).isSome = true) (d : Nat) (f g : Nat → Int) (w : World) :
    (Op.equalIn (d + 2) t (.agg (arr n k f)) (.agg (arr n k g))).run P w = .ok (eqN n f g) w := by
  obtain ⟨i, hi⟩ := Option.isSome_iff_exists.1 hi
  rw [run_equalIn_array (P := P) w (d + 1) _ _ ht hi, eqItems_arr he hc d n f g w _ (fun i hi => List.mem_range.1 hi)]
  rfl
end

--# structs
/-- A field's type: two numbers, two arrays of 100 numbers. -/
structure FldT (P : Program) (t a b c ea ec : TypeId) : Prop where
  st : P.underlying t = some (.struct (P.fieldsOf t))
  sh : P.stoodInHeld t = false
  fs : (P.fieldsOf t).toList.map (fun f => (f.name == "_", f.type, f.offset)) = [(false, a, 0), (false, a, 1), (false, b, 2), (false, c, 102)]
  ta : P.underlying a = some (.int .i8)
  tb : P.underlying b = some (.array 100 ea)
  tc : P.underlying c = some (.array 100 ec)
  te : P.underlying ea = some (.int .u8)
  tf : P.underlying ec = some (.int .i16)
  ce : P.cellsOf ea = 1 ∧ P.cellsOf ec = 1
  ie : (P.info? ea).isSome = true ∧ (P.info? ec).isSome = true
  sb : (P.info? b).map (·.size) = some 100
  sc : (P.info? c).map (·.size) = some 100
  eg : P.eqGuardType P.depth t = false
def eqFld (F G : Fld) : Bool := (F.w == G.w) && ((F.h == G.h) && (eqN 100 F.k G.k && eqN 100 F.s G.s))
section
variable {P : Program} {w : World}
theorem cells_k (F : Fld) : F.cells.extract 2 (2 + 100) = arr 100 .u8 F.k := by
  refine arr_ext (by simp [Fld.size_cells]) (fun i hi => ?_)
  rw [Array.getElem?_extract, if_pos (by rw [Fld.size_cells]; omega)]
  exact F.getk i hi
theorem cells_s (F : Fld) : F.cells.extract 102 (102 + 100) = arr 100 .i16 F.s := by
  refine arr_ext (by simp [Fld.size_cells]) (fun i hi => ?_)
  rw [Array.getElem?_extract, if_pos (by rw [Fld.size_cells]; omega)]
  exact F.gets i hi
theorem part_agg {t e : TypeId} {n m : Nat} (ht : P.underlying t = some (.array n e)) (hs : (P.info? t).map (·.size) = some m) (cs : Array Value) (off : Nat) : (part t cs off).run P w = .ok (.agg (cs.extract off (off + m))) w := by
  simp [part, isAgg, run_underlying ht, run_size hs]
theorem name_ne {f : Field} (h : (f.name == "_") = false) : f.name ≠ "_" := by simpa using h
theorem equalIn_fld {t a b c ea ec : TypeId} (hT : FldT P t a b c ea ec) (d : Nat) (F G : Fld) : (Op.equalIn (d + 3) t (.agg F.cells) (.agg G.cells)).run P w = .ok (eqFld F G) w := by
  rw [run_equalIn_struct w (d + 2) t _ _ hT.st hT.sh]
  have hfs := hT.fs
  generalize (P.fieldsOf t).toList = l at hfs
  rcases l with _ | ⟨f1, _ | ⟨f2, _ | ⟨f3, _ | ⟨f4, _ | ⟨f5, l⟩⟩⟩⟩⟩
  · exact absurd hfs (by simp)
  · exact absurd hfs (by simp)
  · exact absurd hfs (by simp)
  · exact absurd hfs (by simp)
  · have h := hfs
    simp only [List.map_cons, List.map_nil, List.cons.injEq, Prod.mk.injEq, and_true] at h
    obtain ⟨⟨n1, t1, o1⟩, ⟨n2, t2, o2⟩, ⟨n3, t3, o3⟩, n4, t4, o4⟩ := h
    have q1 : ∀ H : Fld, (part f1.type H.cells f1.offset).run P w = .ok (.int .i8 H.w) w := fun H => by rw [t1, o1]; exact part_arr hT.ta w H.get0
    have q2 : ∀ H : Fld, (part f2.type H.cells f2.offset).run P w = .ok (.int .i8 H.h) w := fun H => by rw [t2, o2]; exact part_arr hT.ta w H.get1
    have q3 : ∀ H : Fld, (part f3.type H.cells f3.offset).run P w = .ok (.agg (arr 100 .u8 H.k)) w := fun H => by rw [t3, o3, part_agg hT.tb hT.sb, cells_k]
    have q4 : ∀ H : Fld, (part f4.type H.cells f4.offset).run P w = .ok (.agg (arr 100 .i16 H.s)) w := fun H => by rw [t4, o4, part_agg hT.tc hT.sc, cells_s]
    have e1 : (Op.equalIn (d + 2) f1.type (.int .i8 F.w) (.int .i8 G.w)).run P w = .ok (F.w == G.w) w := by rw [t1]; exact run_equalIn_int w (d + 1) a .i8 .i8 _ _ hT.ta
    have e2 : (Op.equalIn (d + 2) f2.type (.int .i8 F.h) (.int .i8 G.h)).run P w = .ok (F.h == G.h) w := by rw [t2]; exact run_equalIn_int w (d + 1) a .i8 .i8 _ _ hT.ta
    have e3 : (Op.equalIn (d + 2) f3.type (.agg (arr 100 .u8 F.k)) (.agg (arr 100 .u8 G.k))).run P w = .ok (eqN 100 F.k G.k) w := by rw [t3]; exact equalIn_arr hT.tb hT.te hT.ce.1 hT.ie.1 d _ _ w
    have e4 : (Op.equalIn (d + 2) f4.type (.agg (arr 100 .i16 F.s)) (.agg (arr 100 .i16 G.s))).run P w = .ok (eqN 100 F.s G.s) w := by rw [t4]; exact equalIn_arr hT.tc hT.tf hT.ce.2 hT.ie.2 d _ _ w
    unfold eqFld
    cases h1 : (F.w == G.w) <;> cases h2 : (F.h == G.h) <;> cases h3 : eqN 100 F.k G.k <;> cases h4 : eqN 100 F.s G.s <;> rw [h1] at e1 <;> rw [h2] at e2 <;> rw [h3] at e3 <;> rw [h4] at e4 <;>
      simp [Op.eqFields, name_ne n1, name_ne n2, name_ne n3, name_ne n4, Sem.run_bind, q1, q2, q3, q4, e1, e2, e3, e4]
  · exact absurd hfs (by simp)
/-- Three numbers. -/
structure TriT (P : Program) (t a : TypeId) (k : IntKind) : Prop where
  st : P.underlying t = some (.struct (P.fieldsOf t))
  sh : P.stoodInHeld t = false
  fs : (P.fieldsOf t).toList.map (fun f => (f.name == "_", f.type, f.offset)) = [(false, a, 0), (false, a, 1), (false, a, 2)]
  ta : P.underlying a = some (.int k)
  eg : P.eqGuardType P.depth t = false
def eq3 (x y z x' y' z' : Int) : Bool := (x == x') && ((y == y') && (z == z'))
theorem equalIn_tri {t a : TypeId} {k : IntKind} (hT : TriT P t a k) (d : Nat) (x y z x' y' z' : Int) : (Op.equalIn (d + 2) t (.agg #[.int k x, .int k y, .int k z]) (.agg #[.int k x', .int k y', .int k z'])).run P w = .ok (eq3 x y z x' y' z') w := by
  rw [run_equalIn_struct w (d + 1) t _ _ hT.st hT.sh]
  have hfs := hT.fs
  generalize (P.fieldsOf t).toList = l at hfs
  rcases l with _ | ⟨f1, _ | ⟨f2, _ | ⟨f3, _ | ⟨f4, l⟩⟩⟩⟩
  · exact absurd hfs (by simp)
  · exact absurd hfs (by simp)
  · exact absurd hfs (by simp)
  · have h := hfs
    simp only [List.map_cons, List.map_nil, List.cons.injEq, Prod.mk.injEq, and_true] at h
    obtain ⟨⟨n1, t1, o1⟩, ⟨n2, t2, o2⟩, n3, t3, o3⟩ := h
    have q1 : ∀ x y z : Int, (part f1.type #[.int k x, .int k y, .int k z] f1.offset).run P w = .ok (.int k x) w := fun x y z => by rw [t1, o1]; exact part_arr hT.ta w rfl
    have q2 : ∀ x y z : Int, (part f2.type #[.int k x, .int k y, .int k z] f2.offset).run P w = .ok (.int k y) w := fun x y z => by rw [t2, o2]; exact part_arr hT.ta w rfl
    have q3 : ∀ x y z : Int, (part f3.type #[.int k x, .int k y, .int k z] f3.offset).run P w = .ok (.int k z) w := fun x y z => by rw [t3, o3]; exact part_arr hT.ta w rfl
    have e1 : ∀ x y : Int, (Op.equalIn (d + 1) f1.type (.int k x) (.int k y)).run P w = .ok (x == y) w := fun x y => by rw [t1]; exact run_equalIn_int w d a k k _ _ hT.ta
    have e2 : ∀ x y : Int, (Op.equalIn (d + 1) f2.type (.int k x) (.int k y)).run P w = .ok (x == y) w := fun x y => by rw [t2]; exact run_equalIn_int w d a k k _ _ hT.ta
    have e3 : ∀ x y : Int, (Op.equalIn (d + 1) f3.type (.int k x) (.int k y)).run P w = .ok (x == y) w := fun x y => by rw [t3]; exact run_equalIn_int w d a k k _ _ hT.ta
    have e1 := e1 x x'
    have e2 := e2 y y'
    have e3 := e3 z z'
    unfold eq3
    cases h1 : (x == x') <;> cases h2 : (y == y') <;> cases h3 : (z == z') <;> rw [h1] at e1 <;> rw [h2] at e2 <;> rw [h3] at e3 <;>
      simp [Op.eqFields, name_ne n1, name_ne n2, name_ne n3, Sem.run_bind, q1, q2, q3, e1, e2, e3]
  · exact absurd hfs (by simp)
end
attribute [irreducible] eqFld eqN

--# rules
section
variable {P : Program} {ρ : Operand → Value} {o : Oper} {w : World} {R : Value → World → Prop} {x y : Operand} {t ty2 : TypeId} {A B : Array Value} {r : Bool}
theorem OpRun.eqlA (ho : o.op = .binOp .eql t x y ty2) (hx : ρ x = .agg A) (hy : ρ y = .agg B) (hg : P.eqGuardType P.depth t = false) (he : (Op.equalIn 10000 t (.agg A) (.agg B)).run P w = .ok r w) (h : R (.bool r) w) : OpRun P ρ o w R := by
  have hr : (binOp .eql t (.agg A) (.agg B)).run P w = .ok (.bool r) w := by rw [run_eql_struct, he]; rfl
  unfold OpRun execOp
  simp only [ho, hx, hy, Sem.run_bind, run_eqGuard_agg w .eql t x y A B hg, Result.andThen_ok, hr]
  exact h
theorem OpRun.neqA (ho : o.op = .binOp .neq t x y ty2) (hx : ρ x = .agg A) (hy : ρ y = .agg B) (hg : P.eqGuardType P.depth t = false) (he : (Op.equalIn 10000 t (.agg A) (.agg B)).run P w = .ok r w) (h : R (.bool (!r)) w) : OpRun P ρ o w R := by
  have hr : (binOp .neq t (.agg A) (.agg B)).run P w = .ok (.bool (!r)) w := by rw [run_neq_struct, he]; rfl
  unfold OpRun execOp
  simp only [ho, hx, hy, Sem.run_bind, run_eqGuard_agg w .neq t x y A B hg, Result.andThen_ok, hr]
  exact h
end
section
variable {P : Program} {ops : Array Oper} {Q : Exit → Act → World → Prop} {rest : List Oper} {o : Oper} {a : Act} {w : World} {x y : Operand} {t ty2 : TypeId} {A B : Array Value} {r : Bool}
theorem weqA (hg : P.eqGuardType P.depth t = false) (he : (Op.equalIn 10000 t (.agg A) (.agg B)).run P w = .ok r w) (k : wpList P ops Q rest (putL a o.dst (.bool r)) w) (hw : Region.wanted o (yielded ops a.tmps) = true := by kernel_rfl)
    (ho : o.op = .binOp .eql t x y ty2 := by exact rfl) (hx : evalL a x = .agg A := by kernel_rfl) (hy : evalL a y = .agg B := by kernel_rfl) : wpList P ops Q (o :: rest) a w :=
  wpl_op (R := fun v' w' => v' = _ ∧ w' = w) rfl hw (OpRun.eqlA ho hx hy hg he ⟨rfl, rfl⟩) (fun v' w' h => by rw [h.1, h.2]; exact k)
theorem wneA (hg : P.eqGuardType P.depth t = false) (he : (Op.equalIn 10000 t (.agg A) (.agg B)).run P w = .ok r w) (k : wpList P ops Q rest (putL a o.dst (.bool (!r))) w) (hw : Region.wanted o (yielded ops a.tmps) = true := by kernel_rfl)
    (ho : o.op = .binOp .neq t x y ty2 := by exact rfl) (hx : evalL a x = .agg A := by kernel_rfl) (hy : evalL a y = .agg B := by kernel_rfl) : wpList P ops Q (o :: rest) a w :=
  wpl_op (R := fun v' w' => v' = _ ∧ w' = w) rfl hw (OpRun.neqA ho hx hy hg he ⟨rfl, rfl⟩) (fun v' w' h => by rw [h.1, h.2]; exact k)
end
end Go.Proofs.Ytdhidmigngmgjaa
