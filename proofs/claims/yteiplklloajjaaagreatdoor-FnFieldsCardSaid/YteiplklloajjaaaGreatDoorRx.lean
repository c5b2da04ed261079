/-
  Slices of structs of whole numbers that grow: appended, read, written, marked. No conditions.
-/
import Derived.Test.YteiplklloajjaaaGreatDoorTs
import Derived.Test.YteiplklloajjaaaGreatDoorRw
namespace Go.Proofs.YteiplklloajjaaaGreatDoor
open Go.RowKit
set_option linter.unusedSimpArgs false
set_option linter.unusedVariables false

--# slx
/-- A block whose first n rows of m numbers are told, with room for cap rows. -/
structure SlX (cs : Array Value) (n cap m : Nat) (ks : List IntKind) (f : Nat → Nat → Int) : Prop where
  lk : ks.length = m
  sz : cs.size = cap * m
  nc : n ≤ cap
  cm : cap ≤ maxLen
  get : ∀ i j, i < n → j < m → cs[i * m + j]? = (rowL ks (f i))[j]?
/-- One number put anew. -/
def updC (f : Nat → Nat → Int) (i c : Nat) (v : Int) : Nat → Nat → Int := fun a b => if a = i ∧ b = c then v else f a b
theorem updC_self {f : Nat → Nat → Int} {i c : Nat} {v : Int} : updC f i c v i c = v := if_pos ⟨rfl, rfl⟩
theorem updC_row {f : Nat → Nat → Int} {i c a b : Nat} {v : Int} (h : a ≠ i) : updC f i c v a b = f a b := if_neg fun e => h e.1
theorem updC_col {f : Nat → Nat → Int} {i c a b : Nat} {v : Int} (h : b ≠ c) : updC f i c v a b = f a b := if_neg fun e => h e.2
section
variable {cs : Array Value} {n cap m : Nat} {ks : List IntKind} {f f' : Nat → Nat → Int} {i : Nat}
theorem SlX.lt (h : SlX cs n cap m ks f) (hi : i < n) : 0 + i * m + m ≤ cs.size := by
  rw [h.sz, Nat.zero_add, ← Nat.succ_mul]
  exact Nat.mul_le_mul_right m (Nat.le_trans hi h.nc)
theorem SlX.range {w : World} {g : Nat} {t : TypeId} (h : SlX cs n cap m ks f) (hb : Blk w g t cs) (hi : i < n) : w.rangeAt g (0 + i * m) (rowL ks (f i)) := by
  intro j v hv
  have hj : j < m := by
    have := (List.getElem?_eq_some_iff.1 hv).1
    rwa [rowL_length, h.lk] at this
  rw [hb.cell, Nat.zero_add, h.get i j hi hj]
  exact hv
theorem SlX.of (h : SlX cs n cap m ks f) (e : ∀ i j, i < n → j < m → f i j = f' i j) : SlX cs n cap m ks f' := by
  refine ⟨h.lk, h.sz, h.nc, h.cm, fun i j hi hj => ?_⟩
  rw [h.get i j hi hj, rowL_get, rowL_get]
  cases hk : ks[j]? with
  | none => rfl
  | some k => simp only [Option.map_some]; rw [e i j hi hj]
theorem SlX.cell (h : SlX cs n cap m ks f) {i c : Nat} {k : IntKind} (hi : i < n) (hc : c < m) (hk : ks[c]? = some k) : cs[0 + i * m + c]? = some (.int k (f i c)) := by
  rw [Nat.zero_add, h.get i c hi hc, rowL_get, hk]
  rfl
theorem SlX.cell0 (h : SlX cs n cap m ks f) {i : Nat} {k : IntKind} (hi : i < n) (hc : 0 < m) (hk : ks[0]? = some k) : cs[0 + i * m]? = some (.int k (f i 0)) := h.cell hi hc hk
theorem SlX.nil {e : Nat} (hl : ks.length = m) : SlX #[] 0 0 m ks f := ⟨hl, by simp, Nat.le_refl _, by simp [maxLen], fun i j hi _ => absurd hi (Nat.not_lt_zero _)⟩
theorem SlX.ofR (h : SlR cs n m ks f) : SlX cs n n m ks f := ⟨h.lk, h.sz, Nat.le_refl _, h.cm, h.get⟩
theorem SlX.clt (h : SlX cs n cap m ks f) {i c : Nat} (hi : i < n) (hc : c < m) : 0 + i * m + c < cs.size := by
  have := h.lt hi
  omega
theorem SlX.set (h : SlX cs n cap m ks f) {i c : Nat} {k : IntKind} (v : Int) (hi : i < n) (hc : c < m) (hk : ks[c]? = some k) : SlX (cs.setIfInBounds (0 + i * m + c) (.int k v)) n cap m ks (updC f i c v) := by
  have hlt := h.clt hi hc
  refine ⟨h.lk, by rw [Array.size_setIfInBounds]; exact h.sz, h.nc, h.cm, fun a b ha hb => ?_⟩
  rw [Array.getElem?_setIfInBounds, rowL_get]
  by_cases e : 0 + i * m + c = a * m + b
  · have ei : i = a := by
      rw [Nat.zero_add] at e
      rcases Nat.lt_trichotomy i a with hx | hx | hx
      · have : i * m + m ≤ a * m := by rw [← Nat.succ_mul]; exact Nat.mul_le_mul_right m hx
        omega
      · exact hx
      · have : a * m + m ≤ i * m := by rw [← Nat.succ_mul]; exact Nat.mul_le_mul_right m hx
        omega
    subst ei
    have ec : c = b := by omega
    subst ec
    rw [if_pos e, if_pos hlt, hk, updC_self]
    rfl
  · rw [if_neg e, h.get a b ha hb, rowL_get]
    congr 1
    funext k'
    have hne : ¬ (a = i ∧ b = c) := fun ⟨h1, h2⟩ => e (by rw [h1, h2, Nat.zero_add])
    unfold updC
    rw [if_neg hne]
theorem SlX.set0 (h : SlX cs n cap m ks f) {i : Nat} {k : IntKind} (v : Int) (hi : i < n) (hc : 0 < m) (hk : ks[0]? = some k) : SlX (cs.setIfInBounds (0 + i * m) (.int k v)) n cap m ks (updC f i 0 v) := h.set v hi hc hk
theorem SlX.toO (h : SlX cs n cap m ks f) : SlO cs n cap m (cs.toList.take (n * m)) := by
  have hl : n * m ≤ cs.toList.length := by rw [Array.length_toList, h.sz]; exact Nat.mul_le_mul_right m h.nc
  refine ⟨?_, by rw [List.length_take]; omega, h.nc, h.cm, h.sz⟩
  rw [List.length_take, Nat.min_eq_left hl]
theorem SlX.ofO {cs' : Array Value} {cap' : Nat} (h : SlX cs n cap m ks f) (h' : SlO cs' (n + 1) cap' m (cs.toList.take (n * m) ++ rowL ks (f n))) : SlX cs' (n + 1) cap' m ks f := by
  refine ⟨h.lk, h'.sz, h'.nc, h'.cm, fun i j hi hj => ?_⟩
  have hl : n * m ≤ cs.toList.length := by rw [Array.length_toList, h.sz]; exact Nat.mul_le_mul_right m h.nc
  have htk : (cs.toList.take (n * m)).length = n * m := by rw [List.length_take]; omega
  have hrl : (rowL ks (f i)).length = m := by rw [rowL_length, h.lk]
  have hjv : (rowL ks (f i))[j]? = some ((rowL ks (f i))[j]'(by omega)) := List.getElem?_eq_getElem (by omega)
  rw [hjv]
  apply SlO.get h'
  rcases Nat.lt_or_ge i n with hin | hin
  · have h1 : i * m + m ≤ n * m := by rw [← Nat.succ_mul]; exact Nat.mul_le_mul_right m hin
    rw [List.getElem?_append_left (by omega), List.getElem?_take_of_lt (by omega), Array.getElem?_toList, h.get i j hin hj, hjv]
  · have : i = n := by omega
    subst this
    rw [List.getElem?_append_right (by omega), htk, show i * m + j - i * m = j by omega, hjv]
end
theorem SlX.row1 {ks : List IntKind} {h : Nat → Int} {u : Value} (hu : u ∈ rowL ks h) : u.oneCell' = true := by
  obtain ⟨j, hj⟩ := List.getElem?_of_mem hu
  rw [rowL_get] at hj
  cases hk : ks[j]? with
  | none => rw [hk] at hj; cases hj
  | some k => rw [hk] at hj; rw [← Option.some.inj hj]; rfl
section
variable {P : Program} {ops : Array Oper} {Q : Exit → Act → World → Prop} {rest : List Oper} {o : Oper} {a : Act} {w : World} {t e : TypeId} {z : Value} {n cap m : Nat} {ks : List IntKind} {f : Nat → Nat → Int}
/-- A row behind a list of rows. -/
theorem wappr {s x : Operand} {g d : Nat} {e2 : TypeId} {cs : Array Value} {by_ : Nat} (ds : Array Value) (hT : SlT P t e m by_ z) (hb : Blk w g e cs) (hS : SlX cs n cap m ks f) (hd : Blk w d e2 ds) (hr : (rowL ks (f n)).toArray = ds)
    (k : ∀ g' cap' cs' w', Blk w' g' e cs' → SlX cs' (n + 1) cap' m ks f → Wr g w w' → (g' = g ∨ w.heap.size ≤ g') → wpList P ops Q rest (putL a o.dst (.slice (some ⟨g', 0, none⟩) (n + 1) cap')) w')
    (hbd : n + 1 ≤ 9223372036854775807 ∧ (n + 1) * by_ ≤ 140737488355328 := by omega)
    (hw : Region.wanted o (yielded ops a.tmps) = true := by kernel_rfl) (ho : o.op = .call { callee := .builtin .append, args := #[s, x], argTypes := #[t, t] } := by exact rfl) (hs : evalL a s = .slice (some ⟨g, 0, none⟩) n cap := by kernel_rfl) (hx : evalL a x = .slice (some ⟨d, 0, none⟩) 1 1 := by kernel_rfl) : wpList P ops Q (o :: rest) a w := by
  subst hr
  refine wpl_op (R := fun v w' => ∃ g' cap' cs', v = .slice (some ⟨g', 0, none⟩) (n + 1) cap' ∧ Blk w' g' e cs' ∧ SlX cs' (n + 1) cap' m ks f ∧ Wr g w w' ∧ (g' = g ∨ w.heap.size ≤ g')) rfl hw ?_ ?_
  · refine OpRun.app (news := rowL ks (f n)) hT ho hs hx hb hS.toO hd (fun j u hu => by rw [List.getElem?_toArray]; exact hu) (by rw [rowL_length, hS.lk, Nat.one_mul]) (fun u hu => SlX.row1 hu) hbd ?_
    intro g' cap' cs' w' h1 h2 h3 h4
    exact ⟨g', cap', cs', rfl, h1, hS.ofO h2, h3, h4⟩
  · rintro v w' ⟨g', cap', cs', rfl, h1, h2, h3, h4⟩
    exact k g' cap' cs' w' h1 h2 h3 h4
/-- Behind a call that returns rows of its own and a code of 0. -/
def RetX (w : World) (t : TypeId) (n m : Nat) (ks : List IntKind) (f : Nat → Nat → Int) (e : Ending) (w' : World) : Prop :=
  ∃ g cap cs, e = .returned (.tuple #[.slice (some ⟨g, 0, none⟩) n cap, .int .i64 0]) ∧ Blk w' g t cs ∧ SlX cs n cap m ks f ∧ Ext w w' ∧ w.heap.size ≤ g
theorem wclX {fn : FuncId} {args : Array Value} (hc : Calls P fn args w (RetX w t n m ks f))
    (k : ∀ g cap cs w', Blk w' g t cs → SlX cs n cap m ks f → Ext w w' → w.heap.size ≤ g → wpList P ops Q rest (putL a o.dst (.tuple #[.slice (some ⟨g, 0, none⟩) n cap, .int .i64 0])) w')
    (hw : Region.wanted o (yielded ops a.tmps) = true := by kernel_rfl) (he : (execOp (evalL a) o).run P w = .ok (.enter fn args) w := by kernel_rfl) : wpList P ops Q (o :: rest) a w := by
  refine wclx (fun v_ w_ => ∃ g cap cs, v_ = .tuple #[.slice (some ⟨g, 0, none⟩) n cap, .int .i64 0] ∧ Blk w_ g t cs ∧ SlX cs n cap m ks f ∧ Ext w w_ ∧ w.heap.size ≤ g) hc (fun e_ w_ ⟨g, cap, cs, h, r⟩ => ⟨_, h, g, cap, cs, rfl, r⟩) ?_ hw he
  rintro v_ w_ ⟨g, cap, cs, rfl, h1, h2, h3, h4⟩
  exact k g cap cs w_ h1 h2 h3 h4
end
end Go.Proofs.YteiplklloajjaaaGreatDoor
