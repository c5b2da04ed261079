/-
  Rules for texts: strings, slices of strings. No conditions.
-/
import Derived.Test.YteiplklloajjaaaGreatDoorSl
import Derived.Test.YteiplklloajjaaaGreatDoorTx
import Derived.Laws.Strings3
import Derived.Laws.Concat
import Derived.Laws.BytesArg
namespace Go.Proofs.YteiplklloajjaaaGreatDoor
open Go.RowKit
set_option linter.unusedSimpArgs false
set_option linter.unusedVariables false

--# strings
/-- Byte i of a text. -/
def atB (l : List UInt8) (i : Nat) : UInt8 := l.getD i 0
def atN (l : List UInt8) (i : Nat) : Int := ((atB l i).toNat : Int)
theorem atN_in (l : List UInt8) (i : Nat) : 0 ≤ atN l i ∧ atN l i ≤ 255 := by
  unfold atN
  have := (atB l i).toNat_lt
  omega
theorem atB_get {l : List UInt8} {i : Nat} (h : i < l.length) : l[i]? = some (atB l i) := by
  unfold atB
  rw [List.getD, List.getElem?_eq_getElem h]
  rfl
theorem bs_eqv (a b : List UInt8) : ((bs a).toList == (bs b).toList) = decide (a = b) := by
  unfold bs
  rw [ByteArray.toList_mk, ByteArray.toList_mk]
  by_cases h : a = b
  · rw [h]; simp
  · rw [decide_eq_false h, beq_eq_false_iff_ne]; exact h
section
variable {P : Program} {ρ : Operand → Value} {o : Oper} {w : World} {R : Value → World → Prop} {t ty2 : TypeId} {x y : Operand}
theorem OpRun.lenS {l : List UInt8} (hu : P.underlying t = some .string) (ho : o.op = .call { callee := .builtin .len, args := #[x], argTypes := #[t] }) (hx : ρ x = .string (bs l)) (h : R (.int .i64 (l.length : Int)) w) : OpRun P ρ o w R := by
  have hr : (Builtin.len_ #[t] o.type #[.string (bs l)]).run P w = .ok (.int .i64 (l.length : Int)) w := by
    rw [run_len_string w t o.type (bs l) hu, bs_size]; rfl
  unfold OpRun execOp
  simp only [ho, resolve, invoke, builtin, Sem.run_bind, Sem.run_pure, Result.andThen_ok, List.map_toArray, List.map_cons, List.map_nil, hx, hr]
  exact h
theorem bs_at {l : List UInt8} {i : Nat} (h : i < (bs l).size) : ((bs l)[i]'h) = atB l i := by
  have h2 : i < l.length := by rwa [bs_size] at h
  have e : ((bs l)[i]'h) = l[i]'h2 := rfl
  rw [e]
  have h3 := atB_get h2
  rw [List.getElem?_eq_getElem h2] at h3
  exact Option.some.inj h3
theorem OpRun.idxS {l : List UInt8} {k : IntKind} {i : Nat} (hu : P.underlying t = some .string) (ho : o.op = .index t x y) (hx : ρ x = .string (bs l)) (hy : ρ y = .int k (i : Int)) (h1 : i < l.length) (h : R (.int .u8 (atN l i)) w) : OpRun P ρ o w R := by
  have hr : (Instr.index t (ρ x) (ρ y)).run P w = .ok (.int .u8 (atN l i)) w := by
    rw [hx, hy, run_index_string w t (bs l) k i hu, dif_pos ⟨by omega, by rw [bs_size]; omega⟩]
    simp only [Int.toNat_natCast]
    rw [bs_at]
    rfl
  unfold OpRun execOp
  simp only [ho, Sem.run_bind, hr, Result.andThen_ok]
  exact h
theorem bs_cut (l : List UInt8) (i j : Nat) : (bs l).extract i j = bs ((l.drop i).take (j - i)) := ByteArray.extract_mk l i j
theorem OpRun.slcS {l : List UInt8} {k k2 : IntKind} {i j : Nat} {z : Operand} (hu : P.underlying t = some .string) (ho : o.op = .slice t x (some y) (some z) none) (hx : ρ x = .string (bs l)) (hy : ρ y = .int k (i : Int)) (hz : ρ z = .int k2 (j : Int)) (h1 : i ≤ j) (h2 : j ≤ l.length)
    (h : R (.string (bs ((l.drop i).take (j - i)))) w) : OpRun P ρ o w R := by
  have hr : (Instr.sliceAt t (ρ x) (some (ρ y)) (some (ρ z)) none).run P w = .ok (.string (bs ((l.drop i).take (j - i)))) w := by
    rw [hx, hy, hz, run_sliceAt_string _ _ _ _ _ _ hu, run_slice_string w t (bs l) k k2 i j hu (by omega) (by omega) (by rw [bs_size]; omega), Int.toNat_natCast, Int.toNat_natCast, bs_cut]
  unfold OpRun execOp
  simp only [ho, Option.map_some, Option.map_none, Sem.run_bind, hr, Result.andThen_ok]
  exact h
theorem OpRun.slfS {l : List UInt8} {k : IntKind} {i : Nat} (hu : P.underlying t = some .string) (ho : o.op = .slice t x (some y) none none) (hx : ρ x = .string (bs l)) (hy : ρ y = .int k (i : Int)) (h1 : i ≤ l.length)
    (h : R (.string (bs (l.drop i))) w) : OpRun P ρ o w R := by
  have e : (bs l).extract i (bs l).size = bs (l.drop i) := by
    rw [bs_cut, bs_size, List.take_of_length_le (by rw [List.length_drop]; omega)]
  have hr : (Instr.sliceAt t (ρ x) (some (ρ y)) none none).run P w = .ok (.string (bs (l.drop i))) w := by
    rw [hx, hy, run_sliceAt_string _ _ _ _ _ _ hu, run_slice_string_from_if w t (bs l) k i hu, if_pos ⟨by omega, by rw [bs_size]; omega⟩, Int.toNat_natCast, e]
  unfold OpRun execOp
  simp only [ho, Option.map_some, Option.map_none, Sem.run_bind, hr, Result.andThen_ok]
  exact h
theorem OpRun.addS {l m : List UInt8} (ho : o.op = .binOp .add t x y ty2) (hx : ρ x = .string (bs l)) (hy : ρ y = .string (bs m)) (h1 : l.length + m.length ≤ 9223372036854775807) (h : R (.string (bs (l ++ m))) w) : OpRun P ρ o w R := by
  have hr : (binOp .add t (.string (bs l)) (.string (bs m))).run P w = .ok (.string (bs (l ++ m))) w := by
    rw [binOp_string_add, run_string_add_sum w _ _ (by rw [bs_size, bs_size]; exact h1), bs_app]
  have hg : (eqGuard .add t x y (.string (bs l)) (.string (bs m))).run P w = .ok () w := rfl
  unfold OpRun execOp
  simp only [ho, hx, hy, Sem.run_bind, hg, Result.andThen_ok, hr]
  exact h
end
section
variable {P : Program} {ops : Array Oper} {Q : Exit → Act → World → Prop} {rest : List Oper} {o : Oper} {a : Act} {w : World} {t ty2 : TypeId} {x y : Operand}
theorem wlenS (l : List UInt8) (hu : P.underlying t = some .string) (k : wpList P ops Q rest (putL a o.dst (.int .i64 (l.length : Int))) w)
    (hw : Region.wanted o (yielded ops a.tmps) = true := by kernel_rfl) (ho : o.op = .call { callee := .builtin .len, args := #[x], argTypes := #[t] } := by exact rfl) (hx : evalL a x = .string (bs l) := by kernel_rfl) : wpList P ops Q (o :: rest) a w :=
  wpl_op (R := fun v' w' => v' = _ ∧ w' = w) rfl hw (OpRun.lenS hu ho hx ⟨rfl, rfl⟩) (fun v' w' h => by rw [h.1, h.2]; exact k)
theorem widxS (l : List UInt8) (i : Nat) (kd : IntKind) (hu : P.underlying t = some .string) (k : wpList P ops Q rest (putL a o.dst (.int .u8 (atN l i))) w) (h1 : i < l.length := by omega)
    (hw : Region.wanted o (yielded ops a.tmps) = true := by kernel_rfl) (ho : o.op = .index t x y := by exact rfl) (hx : evalL a x = .string (bs l) := by kernel_rfl) (hy : evalL a y = .int kd (i : Int) := by kernel_rfl) : wpList P ops Q (o :: rest) a w :=
  wpl_op (R := fun v' w' => v' = _ ∧ w' = w) rfl hw (OpRun.idxS hu ho hx hy h1 ⟨rfl, rfl⟩) (fun v' w' h => by rw [h.1, h.2]; exact k)
theorem wslcS {z : Operand} (l : List UInt8) (i j : Nat) (kd k2 : IntKind) (hu : P.underlying t = some .string) (k : wpList P ops Q rest (putL a o.dst (.string (bs ((l.drop i).take (j - i))))) w) (h1 : i ≤ j := by omega) (h2 : j ≤ l.length := by omega)
    (hw : Region.wanted o (yielded ops a.tmps) = true := by kernel_rfl) (ho : o.op = .slice t x (some y) (some z) none := by exact rfl) (hx : evalL a x = .string (bs l) := by kernel_rfl) (hy : evalL a y = .int kd (i : Int) := by kernel_rfl) (hz : evalL a z = .int k2 (j : Int) := by kernel_rfl) : wpList P ops Q (o :: rest) a w :=
  wpl_op (R := fun v' w' => v' = _ ∧ w' = w) rfl hw (OpRun.slcS hu ho hx hy hz h1 h2 ⟨rfl, rfl⟩) (fun v' w' h => by rw [h.1, h.2]; exact k)
theorem wslfS (l : List UInt8) (i : Nat) (kd : IntKind) (hu : P.underlying t = some .string) (k : wpList P ops Q rest (putL a o.dst (.string (bs (l.drop i)))) w) (h1 : i ≤ l.length := by omega)
    (hw : Region.wanted o (yielded ops a.tmps) = true := by kernel_rfl) (ho : o.op = .slice t x (some y) none none := by exact rfl) (hx : evalL a x = .string (bs l) := by kernel_rfl) (hy : evalL a y = .int kd (i : Int) := by kernel_rfl) : wpList P ops Q (o :: rest) a w :=
  wpl_op (R := fun v' w' => v' = _ ∧ w' = w) rfl hw (OpRun.slfS hu ho hx hy h1 ⟨rfl, rfl⟩) (fun v' w' h => by rw [h.1, h.2]; exact k)
theorem waddS (l m : List UInt8) (k : wpList P ops Q rest (putL a o.dst (.string (bs (l ++ m)))) w) (h1 : l.length + m.length ≤ 9223372036854775807 := by omega)
    (hw : Region.wanted o (yielded ops a.tmps) = true := by kernel_rfl) (ho : o.op = .binOp .add t x y ty2 := by exact rfl) (hx : evalL a x = .string (bs l) := by kernel_rfl) (hy : evalL a y = .string (bs m) := by kernel_rfl) : wpList P ops Q (o :: rest) a w :=
  wpl_op (R := fun v' w' => v' = _ ∧ w' = w) rfl hw (OpRun.addS ho hx hy h1 ⟨rfl, rfl⟩) (fun v' w' h => by rw [h.1, h.2]; exact k)
end

--# slices of strings
def sv (xs : List (List UInt8)) : List Value := xs.map fun l => .string (bs l)
theorem sv_length (xs : List (List UInt8)) : (sv xs).length = xs.length := by simp [sv]
/-- Text i of a list. -/
def atL (xs : List (List UInt8)) (i : Nat) : List UInt8 := xs.getD i []
theorem atL_mem {xs : List (List UInt8)} {i : Nat} (h : i < xs.length) : atL xs i ∈ xs := by
  unfold atL
  rw [List.getD, List.getElem?_eq_getElem h]
  exact List.getElem_mem h
theorem sv_get {xs : List (List UInt8)} {i : Nat} (h : i < xs.length) : (sv xs)[i]? = some (.string (bs (atL xs i))) := by
  unfold sv atL
  rw [List.getElem?_map, List.getD, List.getElem?_eq_getElem h]
  rfl
/-- A block whose first n cells are the texts xs. -/
def SlS (cs : Array Value) (n cap : Nat) (xs : List (List UInt8)) : Prop := SlO cs n cap 1 (sv xs)
section
variable {cs : Array Value} {n cap : Nat} {xs : List (List UInt8)}
theorem SlS.len (h : SlS cs n cap xs) : n = xs.length := by
  have := SlO.len h
  rw [sv_length] at this
  omega
theorem SlS.get (h : SlS cs n cap xs) {i : Nat} (hi : i < n) : cs[0 + i]? = some (.string (bs (atL xs i))) := by rw [Nat.zero_add]; exact SlO.get h (sv_get (by rw [← h.len]; exact hi))
theorem SlS.of_eq {ys : List (List UInt8)} (h : SlS cs n cap xs) (e : xs = ys) : SlS cs n cap ys := e ▸ h
theorem SlS.nil : SlS #[] 0 0 [] := SlO.all (by simp [sv]) (by simp [maxLen])
theorem SlS.all (xs : List (List UInt8)) (h : xs.length ≤ maxLen) : SlS (sv xs).toArray xs.length xs.length xs := SlO.all (by rw [sv_length, Nat.mul_one]) h
theorem sv_split (c : UInt8) (l : List UInt8) : (((cutL c l).map bs).map Value.string).toArray = (sv (cutL c l)).toArray := by
  unfold sv
  rw [List.map_map]
  rfl
end
section
variable {P : Program} {ops : Array Oper} {Q : Exit → Act → World → Prop} {rest : List Oper} {o : Oper} {a : Act} {w : World} {t e : TypeId} {z : Value}
/-- A text behind a list of texts. -/
theorem wapps {s x : Operand} {g d n cap : Nat} {e2 : TypeId} {cs ds : Array Value} {xs : List (List UInt8)} {by_ : Nat} (l : List UInt8) (hT : SlT P t e 1 by_ z) (hb : Blk w g e cs) (hS : SlS cs n cap xs) (hd : Blk w d e2 ds)
    (k : ∀ g' cap' cs' w', Blk w' g' e cs' → SlS cs' (n + 1) cap' (xs ++ [l]) → Wr g w w' → (g' = g ∨ w.heap.size ≤ g') → wpList P ops Q rest (putL a o.dst (.slice (some ⟨g', 0, none⟩) (n + 1) cap')) w')
    (hbd : n + 1 ≤ 9223372036854775807 ∧ (n + 1) * by_ ≤ 140737488355328 := by omega) (hds : ds[0]? = some (.string (bs l)) := by rfl)
    (hw : Region.wanted o (yielded ops a.tmps) = true := by kernel_rfl) (ho : o.op = .call { callee := .builtin .append, args := #[s, x], argTypes := #[t, t] } := by exact rfl) (hs : evalL a s = .slice (some ⟨g, 0, none⟩) n cap := by kernel_rfl) (hx : evalL a x = .slice (some ⟨d, 0, none⟩) 1 1 := by kernel_rfl) : wpList P ops Q (o :: rest) a w := by
  refine wpl_op (R := fun v w' => ∃ g' cap' cs', v = .slice (some ⟨g', 0, none⟩) (n + 1) cap' ∧ Blk w' g' e cs' ∧ SlS cs' (n + 1) cap' (xs ++ [l]) ∧ Wr g w w' ∧ (g' = g ∨ w.heap.size ≤ g')) rfl hw ?_ ?_
  · refine OpRun.app (news := [.string (bs l)]) hT ho hs hx hb hS hd ?_ rfl (by intro u hu; rw [List.mem_singleton.1 hu]; rfl) hbd ?_
    · intro j u hu
      cases j with
      | zero => rw [← hu]; exact hds
      | succ j => simp at hu
    · intro g' cap' cs' w' h1 h2 h3 h4
      refine ⟨g', cap', cs', rfl, h1, ?_, h3, h4⟩
      unfold SlS sv
      rw [List.map_append]
      exact h2
  · rintro v w' ⟨g', cap', cs', rfl, h1, h2, h3, h4⟩
    exact k g' cap' cs' w' h1 h2 h3 h4
/-- Behind a call that returns a slice of texts of its own. -/
def RetS (w : World) (t : TypeId) (xs : List (List UInt8)) (e : Ending) (w' : World) : Prop :=
  ∃ g n cap cs, e = .returned (.slice (some ⟨g, 0, none⟩) n cap) ∧ Blk w' g t cs ∧ SlS cs n cap xs ∧ Ext w w' ∧ w.heap.size ≤ g
theorem wcls {fn : FuncId} {args : Array Value} {xs : List (List UInt8)} (hc : Calls P fn args w (RetS w t xs))
    (k : ∀ g cap cs w', Blk w' g t cs → SlS cs xs.length cap xs → Ext w w' → w.heap.size ≤ g → wpList P ops Q rest (putL a o.dst (.slice (some ⟨g, 0, none⟩) xs.length cap)) w')
    (hw : Region.wanted o (yielded ops a.tmps) = true := by kernel_rfl) (he : (execOp (evalL a) o).run P w = .ok (.enter fn args) w := by kernel_rfl) : wpList P ops Q (o :: rest) a w := by
  refine wclx (fun v_ w_ => ∃ g cap cs, v_ = .slice (some ⟨g, 0, none⟩) xs.length cap ∧ Blk w_ g t cs ∧ SlS cs xs.length cap xs ∧ Ext w w_ ∧ w.heap.size ≤ g) hc (fun e_ w_ ⟨g, n, cap, cs, h, h1, h2, r⟩ => ?_) ?_ hw he
  · have := h2.len
    subst this
    exact ⟨_, h, g, cap, cs, rfl, h1, h2, r⟩
  · rintro v_ w_ ⟨g, cap, cs, rfl, h1, h2, h3, h4⟩
    exact k g cap cs w_ h1 h2 h3 h4
end
end Go.Proofs.YteiplklloajjaaaGreatDoor
