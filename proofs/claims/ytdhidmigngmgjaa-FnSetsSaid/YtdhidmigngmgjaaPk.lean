/-
  What is drawn from bytes, told as a relation: a number, a field, a small set. No conditions.
-/
import Derived.Test.YtdhidmigngmgjaaSc
import Derived.Test.YtdhidmigngmgjaaBt
namespace Go.Proofs.Ytdhidmigngmgjaa
open Go.RowKit
set_option linter.unusedSimpArgs false
set_option linter.unusedVariables false

--# pick
/-- A number below n is drawn. -/
def PickR (w : World) (b : Nat) (t : TypeId) (v : Value) (n : Int) (j : Nat) (e : Ending) (w' : World) : Prop :=
  ∃ (r : Int) (j' : Nat) (sd' : Int), e = .returned (.int .i64 r) ∧ (0 ≤ r ∧ r < n) ∧ j' ≤ j + 1 ∧ Blk w' b t #[v, .int .i64 (j' : Int), .int .u64 sd'] ∧ Wr b w w'
def OneR (w : World) (b : Nat) (t : TypeId) (v : Value) (j : Nat) (e : Ending) (w' : World) : Prop :=
  ∃ (q : Bool) (j' : Nat) (sd' : Int), e = .returned (.bool q) ∧ j' ≤ j + 1 ∧ Blk w' b t #[v, .int .i64 (j' : Int), .int .u64 sd'] ∧ Wr b w w'
section
variable {P : Program} {ops : Array Oper} {Q : Exit → Act → World → Prop} {rest : List Oper} {op : Oper} {a : Act} {w : World} {f : FuncId} {args : Array Value} {b : Nat} {t : TypeId} {v : Value} {n : Int} {j : Nat}
theorem wpk (hc : Calls P f args w (PickR w b t v n j))
    (k : ∀ (r : Int) (j' : Nat) (sd' : Int) (w' : World), (0 ≤ r ∧ r < n) → j' ≤ j + 1 → Blk w' b t #[v, .int .i64 (j' : Int), .int .u64 sd'] → Wr b w w' → wpList P ops Q rest (putL a op.dst (.int .i64 r)) w')
    (hw : Region.wanted op (yielded ops a.tmps) = true := by kernel_rfl) (he : (execOp (evalL a) op).run P w = .ok (.enter f args) w := by kernel_rfl) : wpList P ops Q (op :: rest) a w :=
  wpl_callx (S := fun u w' => ∃ (r : Int) (j' : Nat) (sd' : Int), u = .int .i64 r ∧ (0 ≤ r ∧ r < n) ∧ j' ≤ j + 1 ∧ Blk w' b t #[v, .int .i64 (j' : Int), .int .u64 sd'] ∧ Wr b w w') f args rfl hw he hc
    (fun e w' ⟨r, j', sd', h1, h2⟩ => ⟨_, h1, r, j', sd', rfl, h2⟩) (fun u w' ⟨r, j', sd', h1, h2, h3, h4, h5⟩ => by rw [h1]; exact k r j' sd' w' h2 h3 h4 h5)
theorem wpo (hc : Calls P f args w (OneR w b t v j))
    (k : ∀ (q : Bool) (j' : Nat) (sd' : Int) (w' : World), j' ≤ j + 1 → Blk w' b t #[v, .int .i64 (j' : Int), .int .u64 sd'] → Wr b w w' → wpList P ops Q rest (putL a op.dst (.bool q)) w')
    (hw : Region.wanted op (yielded ops a.tmps) = true := by kernel_rfl) (he : (execOp (evalL a) op).run P w = .ok (.enter f args) w := by kernel_rfl) : wpList P ops Q (op :: rest) a w :=
  wpl_callx (S := fun u w' => ∃ (q : Bool) (j' : Nat) (sd' : Int), u = .bool q ∧ j' ≤ j + 1 ∧ Blk w' b t #[v, .int .i64 (j' : Int), .int .u64 sd'] ∧ Wr b w w') f args rfl hw he hc
    (fun e w' ⟨r, j', sd', h1, h2⟩ => ⟨_, h1, r, j', sd', rfl, h2⟩) (fun u w' ⟨r, j', sd', h1, h3, h4, h5⟩ => by rw [h1]; exact k r j' sd' w' h3 h4 h5)
end

--# field
/-- A field of which the first n cells are drawn. -/
structure Drw (F : Fld) (n : Nat) : Prop where
  w : 1 ≤ F.w ∧ F.w ≤ 5
  h : 1 ≤ F.h ∧ F.h ≤ 5
  i : ∀ i : Nat, i < n → isB F (i : Int) = true → 0 ≤ F.k i ∧ F.k i ≤ 3 ∧ 0 ≤ F.s i ∧ F.s i ≤ 11 ∧ (F.k i = 0 ∨ F.s i = 0)
  o : ∀ i : Nat, (n ≤ i ∨ isB F (i : Int) = false) → F.k i = 0 ∧ F.s i = 0
section
variable {F : Fld} {n : Nat} {r : Int}
theorem Drw.all (d : Drw F n) (i : Nat) : 0 ≤ F.k i ∧ F.k i ≤ 3 ∧ 0 ≤ F.s i ∧ F.s i ≤ 11 := by
  by_cases h : n ≤ i
  · have := d.o i (.inl h); omega
  · cases hb : isB F (i : Int) with
    | true => have := d.i i (by omega) hb; omega
    | false => have := d.o i (.inr hb); omega
theorem Drw.wf (d : Drw F n) : F.wf := by
  have h1 := d.w
  have h2 := d.h
  exact ⟨by omega, by omega, by omega, by omega, fun i _ => by have := d.all i; omega, fun i _ => by have := d.all i; omega⟩
theorem drw_0 {x y : Int} (hx : 0 ≤ x ∧ x < 5) (hy : 0 ≤ y ∧ y < 5) : Drw { w := 1 + x, h := 1 + y, k := fun _ => 0, s := fun _ => 0 } 0 :=
  ⟨by simp only; omega, by simp only; omega, fun i hi => by omega, fun i _ => ⟨rfl, rfl⟩⟩
theorem drw_n (d : Drw F n) (hb : isB F (n : Int) = false) : Drw F (n + 1) :=
  ⟨d.w, d.h, fun i hi h => by
    rcases (by omega : i < n ∨ i = n) with h1 | h1
    · exact d.i i h1 h
    · rw [h1, hb] at h; exact absurd h (by decide), fun i hi => d.o i (by
      rcases hi with h1 | h1
      · exact .inl (by omega)
      · exact .inr h1)⟩
theorem drw_k (d : Drw F n) (hb : isB F (n : Int) = true) (hr : 0 ≤ r ∧ r < 3) : Drw { F with k := upd F.k n (1 + r) } (n + 1) := by
  have e : ∀ c, isB { F with k := upd F.k n (1 + r) } c = isB F c := fun c => isB_eq _ c ▸ isB_eq F c ▸ rfl
  refine ⟨d.w, d.h, fun i hi h => ?_, fun i hi => ?_⟩
  · rw [e] at h
    rcases (by omega : i < n ∨ i = n) with h1 | h1
    · have := d.i i h1 h
      simp only [upd_ne F.k (1 + r) (show i ≠ n by omega)]
      exact this
    · subst h1
      have := d.o i (.inl (Nat.le_refl _))
      simp only [upd_self, this.2]
      exact ⟨by omega, by omega, by omega, by omega, .inr trivial⟩
  · rw [e] at hi
    have hn : i ≠ n := fun h1 => by
      subst h1
      rcases hi with h1 | h1
      · omega
      · rw [hb] at h1; exact absurd h1 (by decide)
    simp only [upd_ne F.k (1 + r) hn]
    exact d.o i (by
      rcases hi with h1 | h1
      · exact .inl (by omega)
      · exact .inr h1)
theorem drw_s (d : Drw F n) (hb : isB F (n : Int) = true) (hr : 0 ≤ r ∧ r < 12) : Drw { F with s := upd F.s n r } (n + 1) := by
  have e : ∀ c, isB { F with s := upd F.s n r } c = isB F c := fun c => isB_eq _ c ▸ isB_eq F c ▸ rfl
  refine ⟨d.w, d.h, fun i hi h => ?_, fun i hi => ?_⟩
  · rw [e] at h
    rcases (by omega : i < n ∨ i = n) with h1 | h1
    · have := d.i i h1 h
      simp only [upd_ne F.s r (show i ≠ n by omega)]
      exact this
    · subst h1
      have := d.o i (.inl (Nat.le_refl _))
      simp only [upd_self, this.1]
      exact ⟨by omega, by omega, by omega, by omega, .inl trivial⟩
  · rw [e] at hi
    have hn : i ≠ n := fun h1 => by
      subst h1
      rcases hi with h1 | h1
      · omega
      · rw [hb] at h1; exact absurd h1 (by decide)
    simp only [upd_ne F.s r hn]
    exact d.o i (by
      rcases hi with h1 | h1
      · exact .inl (by omega)
      · exact .inr h1)
theorem Drw.ok (d : Drw F 100) : okB F = true := by
  have h1 := d.w
  have h2 := d.h
  refine okB_true.2 ⟨h1.1, by omega, h2.1, by omega, fun i hi => ?_⟩
  cases hb : isB F (i : Int) with
  | true => rw [celB_in hb]; have := d.i i hi hb; exact decide_eq_true (by omega)
  | false => rw [celB_out hb]; exact decide_eq_true (d.o i (.inr hb))
theorem cell_in {x y : Int} (hx : 0 ≤ x ∧ x < F.w) (hy : 0 ≤ y ∧ y < F.h) (hw : F.w ≤ 10) (hh : F.h ≤ 10) : isB F (x + 10 * y) = true := isB_true.2 (by omega)
end
--# set
section
variable {x y : Int} {c n : Nat}
theorem put_sz (h : okP (x, y)) (hc : c < 100) (hl : (listL x y).length ≤ n) : (listL (putS (x, y) (c : Int)).1 (putS (x, y) (c : Int)).2).length ≤ n + 1 := by
  have key : ∀ m, (pickL (fun i => hasB (putS (x, y) (c : Int)).1 (putS (x, y) (c : Int)).2 (i : Int)) m).length ≤ (pickL (fun i => hasB x y (i : Int)) m).length + (if c < m then 1 else 0) := by
    intro m
    induction m with
    | zero => simp [pickL]
    | succ m ih =>
      have e := hasB_put h hc m
      by_cases hm : m = c
      · subst hm
        rw [if_neg (by omega)] at ih
        rw [if_pos (by omega)]
        simp only [pickL]
        split <;> split <;> simp <;> omega
      · rw [decide_eq_false hm, Bool.false_or] at e
        have ih2 : (pickL (fun i => hasB (putS (x, y) (c : Int)).1 (putS (x, y) (c : Int)).2 (i : Int)) m).length ≤ (pickL (fun i => hasB x y (i : Int)) m).length + (if c < m + 1 then 1 else 0) := by
          by_cases hc2 : c < m
          · rw [if_pos hc2] at ih; rw [if_pos (by omega)]; exact ih
          · rw [if_neg hc2] at ih; omega
        simp only [pickL, e]
        split
        · simp; omega
        · exact ih2
  have := key 100
  rw [if_pos hc] at this
  have e1 : listL x y = pickL (fun i => hasB x y (i : Int)) 100 := by unfold listL listN; rfl
  have e2 : listL (putS (x, y) (c : Int)).1 (putS (x, y) (c : Int)).2 = pickL (fun i => hasB (putS (x, y) (c : Int)).1 (putS (x, y) (c : Int)).2 (i : Int)) 100 := by unfold listL listN; rfl
  rw [e1] at hl
  rw [e2]
  omega
theorem sz_00 : (listL 0 0).length ≤ 0 := by
  have e : listL 0 0 = pickL (fun i => hasB 0 0 (i : Int)) 100 := by unfold listL listN; rfl
  rw [e]
  have : ∀ m, (pickL (fun i => hasB 0 0 (i : Int)) m).length = 0 := by
    intro m
    induction m with
    | zero => rfl
    | succ m ih => rw [pickL_2 (hasB_0 m)]; exact ih
  rw [this 100]
  exact Nat.le_refl _
theorem put_ok2 {c : Int} (h : okP (x, y)) (hc : 0 ≤ c ∧ c ≤ 99) : okP ((putS (x, y) c).1, (putS (x, y) c).2) := by
  obtain ⟨d, rfl⟩ := Int.eq_ofNat_of_zero_le hc.1
  exact putS_ok h (by omega)
theorem put_sz2 {c : Int} (h : okP (x, y)) (hc : 0 ≤ c ∧ c ≤ 99) (hl : (listL x y).length ≤ n) : (listL (putS (x, y) c).1 (putS (x, y) c).2).length ≤ n + 1 := by
  obtain ⟨d, rfl⟩ := Int.eq_ofNat_of_zero_le hc.1
  exact put_sz h (by omega) hl
end
--# ret
/-- A field is drawn. -/
def FldR (w : World) (e : Ending) (w' : World) : Prop := ∃ F : Fld, e = .returned (.agg F.cells) ∧ Drw F 100 ∧ Ext w w'
def SetR (w : World) (e : Ending) (w' : World) : Prop := ∃ x y : Int, e = .returned (.agg #[.int .u64 x, .int .u64 y]) ∧ okP (x, y) ∧ (listL x y).length ≤ 7 ∧ Ext w w'
def CellR (F : Fld) (w : World) (e : Ending) (w' : World) : Prop := ∃ c : Int, e = .returned (.int .i64 c) ∧ isB F c = true ∧ Ext w w'
section
variable {P : Program} {ops : Array Oper} {Q : Exit → Act → World → Prop} {rest : List Oper} {op : Oper} {a : Act} {w : World} {f : FuncId} {args : Array Value}
theorem wfld (hc : Calls P f args w (FldR w)) (k : ∀ (F : Fld) (w' : World), Drw F 100 → Ext w w' → wpList P ops Q rest (putL a op.dst (.agg F.cells)) w')
    (hw : Region.wanted op (yielded ops a.tmps) = true := by kernel_rfl) (he : (execOp (evalL a) op).run P w = .ok (.enter f args) w := by kernel_rfl) : wpList P ops Q (op :: rest) a w :=
  wpl_callx (S := fun u w' => ∃ F : Fld, u = .agg F.cells ∧ Drw F 100 ∧ Ext w w') f args rfl hw he hc
    (fun e w' ⟨F, h1, h2⟩ => ⟨_, h1, F, rfl, h2⟩) (fun u w' ⟨F, h1, h2, h3⟩ => by rw [h1]; exact k F w' h2 h3)
theorem wdrw {b : Nat} (hc : Calls P f args w (fun e w' => ∃ F : Fld, e = .returned (.agg F.cells) ∧ Drw F 100 ∧ Wr b w w')) (k : ∀ (F : Fld) (w' : World), Drw F 100 → Wr b w w' → wpList P ops Q rest (putL a op.dst (.agg F.cells)) w')
    (hw : Region.wanted op (yielded ops a.tmps) = true := by kernel_rfl) (he : (execOp (evalL a) op).run P w = .ok (.enter f args) w := by kernel_rfl) : wpList P ops Q (op :: rest) a w :=
  wpl_callx (S := fun u w' => ∃ F : Fld, u = .agg F.cells ∧ Drw F 100 ∧ Wr b w w') f args rfl hw he hc
    (fun e w' ⟨F, h1, h2⟩ => ⟨_, h1, F, rfl, h2⟩) (fun u w' ⟨F, h1, h2, h3⟩ => by rw [h1]; exact k F w' h2 h3)
theorem wset (hc : Calls P f args w (SetR w)) (k : ∀ (x y : Int) (w' : World), okP (x, y) → (listL x y).length ≤ 7 → Ext w w' → wpList P ops Q rest (putL a op.dst (.agg #[.int .u64 x, .int .u64 y])) w')
    (hw : Region.wanted op (yielded ops a.tmps) = true := by kernel_rfl) (he : (execOp (evalL a) op).run P w = .ok (.enter f args) w := by kernel_rfl) : wpList P ops Q (op :: rest) a w :=
  wpl_callx (S := fun u w' => ∃ x y : Int, u = .agg #[.int .u64 x, .int .u64 y] ∧ okP (x, y) ∧ (listL x y).length ≤ 7 ∧ Ext w w') f args rfl hw he hc
    (fun e w' ⟨x, y, h1, h2⟩ => ⟨_, h1, x, y, rfl, h2⟩) (fun u w' ⟨x, y, h1, h2, h3, h4⟩ => by rw [h1]; exact k x y w' h2 h3 h4)
theorem wcel {F : Fld} (hc : Calls P f args w (CellR F w)) (k : ∀ (c : Int) (w' : World), isB F c = true → Ext w w' → wpList P ops Q rest (putL a op.dst (.int .i64 c)) w')
    (hw : Region.wanted op (yielded ops a.tmps) = true := by kernel_rfl) (he : (execOp (evalL a) op).run P w = .ok (.enter f args) w := by kernel_rfl) : wpList P ops Q (op :: rest) a w :=
  wpl_callx (S := fun u w' => ∃ c : Int, u = .int .i64 c ∧ isB F c = true ∧ Ext w w') f args rfl hw he hc
    (fun e w' ⟨c, h1, h2⟩ => ⟨_, h1, c, rfl, h2⟩) (fun u w' ⟨c, h1, h2, h3⟩ => by rw [h1]; exact k c w' h2 h3)
end
end Go.Proofs.Ytdhidmigngmgjaa
