/-
  What fields and sets of cells look like in memory, and small lemmas for the walks. No conditions.
-/
import Derived.WalkKit
import Derived.Handy
import Derived.Deep.Draws
import Derived.Deep.MidRow
namespace Go.Proofs.Ytdhidmigngmgjaa
open Go.RowKit

--# blocks
/-- Block b is just the cells cs of element type t, none frozen. -/
def Blk (w : World) (b : Nat) (t : TypeId) (cs : Array Value) : Prop := w.heap[b]? = some (.cells cs t (0, 0))
section
variable {w w' : World} {b : Nat} {t : TypeId} {cs : Array Value}
theorem Blk.lt (h : Blk w b t cs) : b < w.heap.size := by
  rcases Nat.lt_or_ge b w.heap.size with hlt | hge
  · exact hlt
  · unfold Blk at h; rw [Array.getElem?_eq_none hge] at h; cases h
theorem Blk.cell (h : Blk w b t cs) (i : Nat) : w.cell? ⟨b, i, none⟩ = cs[i]? := by
  unfold Blk at h; simp [World.cell?, h]
theorem Blk.cells (h : Blk w b t cs) : ∀ i, w.cell? ⟨b, i, none⟩ = cs[i]? := h.cell
theorem Blk.frozen (h : Blk w b t cs) (i : Nat) : w.frozen? ⟨b, i, none⟩ = false := by
  unfold Blk at h
  simp [World.frozen?, h]
theorem Blk.new (w : World) (t : TypeId) (cs : Array Value) : Blk (w.alloc (.cells cs t)) w.heap.size t cs := by
  unfold Blk
  show (w.heap.push _)[w.heap.size]? = _
  simp
theorem Blk.below {B : Nat} (h : Blk w b t cs) (hb : Below B w w') (hg : b < B) : Blk w' b t cs := (hb.block b hg).trans h
theorem Blk.alloc (h : Blk w b t cs) (o : Obj) : Blk (w.alloc o) b t cs := (Below.heap_alloc w o b h.lt).trans h
theorem Blk.drew (h : Blk w b t cs) : Blk w.drew b t cs := h
theorem Blk.drewN (h : Blk w b t cs) (n : Nat) : Blk (w.drewN n) b t cs := by
  induction n generalizing w with
  | zero => exact h
  | succ n ih => rw [← World.drew_drewN]; exact ih h.drew
theorem Blk.set_ (h : Blk w b t cs) (i : Nat) (u : Value) : Blk (w.setCell ⟨b, i, none⟩ u) b t (cs.setIfInBounds i u) := by
  unfold Blk at h ⊢
  simp [World.setCell, Array.getElem?_modify, h]
theorem Blk.far (h : Blk w b t cs) {p : Addr} (hp : b ≠ p.block) (u : Value) : Blk (w.setCell p u) b t cs := (Below.heap_setCell w p u b hp).trans h
end
/-- w' is w with new blocks; what lay in w is as it was. -/
def Ext (w w' : World) : Prop := Below w.heap.size w w'
section
variable {w w' w'' : World}
theorem Ext.refl (w : World) : Ext w w := Below.refl _ _
theorem Ext.size (h : Ext w w') : w.heap.size ≤ w'.heap.size := Below.size h
theorem Ext.trans (h : Ext w w') (k : Ext w' w'') : Ext w w'' := Below.trans (show Below w.heap.size w w' from h) (Below.mono (show Below w'.heap.size w' w'' from k) h.size)
theorem Ext.alloc (h : Ext w w') (o : Obj) : Ext w (w'.alloc o) := Below.alloc (show Below w.heap.size w w' from h) h.size o
theorem Ext.drew (h : Ext w w') : Ext w w'.drew := Below.drew (show Below w.heap.size w w' from h)
theorem Ext.drewN (h : Ext w w') (n : Nat) : Ext w (w'.drewN n) := by
  have h' : Below w.heap.size w w' := h
  exact ⟨h'.os, h'.tape, h'.output, h'.size, h'.block⟩
theorem Ext.setCell (h : Ext w w') {p : Addr} (hp : w.heap.size ≤ p.block) (u : Value) : Ext w (w'.setCell p u) := Below.setCell (show Below w.heap.size w w' from h) hp u
theorem Ext.cell (h : Ext w w') (b o : Nat) (hb : b < w.heap.size) : w'.cell? ⟨b, o, none⟩ = w.cell? ⟨b, o, none⟩ := Below.cell (show Below w.heap.size w w' from h) (p := ⟨b, o, none⟩) hb
theorem Ext.frozen (h : Ext w w') (b o : Nat) (hb : b < w.heap.size) : w'.frozen? ⟨b, o, none⟩ = w.frozen? ⟨b, o, none⟩ := Below.frozen (show Below w.heap.size w w' from h) (p := ⟨b, o, none⟩) hb
theorem Ext.cells (h : Ext w w') : (∀ b o, b < w.heap.size → w'.cell? ⟨b, o, none⟩ = w.cell? ⟨b, o, none⟩) ∧ (∀ b o, b < w.heap.size → w'.frozen? ⟨b, o, none⟩ = w.frozen? ⟨b, o, none⟩) := ⟨h.cell, h.frozen⟩
theorem Ext.below (h : Ext w w') : Below w.heap.size w w' := h
theorem Blk.ext {b : Nat} {t : TypeId} {cs : Array Value} (h : Blk w b t cs) (k : Ext w w') : Blk w' b t cs := h.below k.below h.lt
end
attribute [irreducible] Ext

--# fields
structure Fld where
  w : Int
  h : Int
  k : Nat → Int
  s : Nat → Int
def Fld.cells (F : Fld) : Array Value := Array.ofFn (n := 202) fun i => if i.1 = 0 then .int .i8 F.w else if i.1 = 1 then .int .i8 F.h else if i.1 < 102 then .int .u8 (F.k (i.1 - 2)) else .int .i16 (F.s (i.1 - 102))
theorem Fld.size_cells (F : Fld) : F.cells.size = 202 := by simp [Fld.cells]
theorem Fld.get (F : Fld) (i : Nat) (h : i < 202) : F.cells[i]? = some (if i = 0 then .int .i8 F.w else if i = 1 then .int .i8 F.h else if i < 102 then .int .u8 (F.k (i - 2)) else .int .i16 (F.s (i - 102))) := by
  simp [Fld.cells, h]
@[go_sem] theorem Fld.get0 (F : Fld) : F.cells[0]? = some (.int .i8 F.w) := by rw [F.get 0 (by omega)]; rfl
@[go_sem] theorem Fld.get1 (F : Fld) : F.cells[1]? = some (.int .i8 F.h) := by rw [F.get 1 (by omega)]; rfl
theorem Fld.getk (F : Fld) (i : Nat) (h : i < 100) : F.cells[2 + i]? = some (.int .u8 (F.k i)) := by
  rw [F.get _ (by omega), if_neg (by omega), if_neg (by omega), if_pos (by omega)]
  rw [show 2 + i - 2 = i by omega]
theorem Fld.gets (F : Fld) (i : Nat) (h : i < 100) : F.cells[102 + i]? = some (.int .i16 (F.s i)) := by
  rw [F.get _ (by omega), if_neg (by omega), if_neg (by omega), if_neg (by omega)]
  rw [show 102 + i - 102 = i by omega]
/-- Each number is one of its kind. -/
structure Fld.wf (F : Fld) : Prop where
  w1 : -128 ≤ F.w
  w2 : F.w ≤ 127
  h1 : -128 ≤ F.h
  h2 : F.h ≤ 127
  k1 : ∀ i, i < 100 → 0 ≤ F.k i ∧ F.k i ≤ 255
  s1 : ∀ i, i < 100 → -32768 ≤ F.s i ∧ F.s i ≤ 32767
/-- A function at one place turned. -/
def upd (f : Nat → Int) (i : Nat) (v : Int) : Nat → Int := fun j => if j = i then v else f j
theorem upd_self (f : Nat → Int) (i : Nat) (v : Int) : upd f i v i = v := by simp [upd]
theorem upd_ne (f : Nat → Int) {i j : Nat} (v : Int) (h : j ≠ i) : upd f i v j = f j := by simp [upd, h]
theorem Fld.ext_cells {F : Fld} {A : Array Value} (hs : A.size = 202) (h : ∀ i, i < 202 → A[i]? = F.cells[i]?) : A = F.cells := by
  apply Array.ext_getElem?
  intro i
  by_cases hi : i < 202
  · exact h i hi
  · rw [Array.getElem?_eq_none (by omega), Array.getElem?_eq_none (by rw [F.size_cells]; omega)]
theorem Fld.setw (F : Fld) (v : Int) : F.cells.setIfInBounds 0 (.int .i8 v) = Fld.cells { F with w := v } := by
  apply Fld.ext_cells (by simp [Fld.size_cells])
  intro i hi
  rw [Fld.get _ i hi, Array.getElem?_setIfInBounds]
  by_cases h0 : 0 = i
  · subst h0; simp [Fld.size_cells]
  · rw [if_neg h0, Fld.get _ i hi, if_neg (Ne.symm h0), if_neg (Ne.symm h0)]
theorem Fld.seth (F : Fld) (v : Int) : F.cells.setIfInBounds 1 (.int .i8 v) = Fld.cells { F with h := v } := by
  apply Fld.ext_cells (by simp [Fld.size_cells])
  intro i hi
  rw [Fld.get _ i hi, Array.getElem?_setIfInBounds]
  by_cases h0 : 1 = i
  · subst h0; simp [Fld.size_cells]
  · rw [if_neg h0, Fld.get _ i hi, if_neg (Ne.symm h0), if_neg (Ne.symm h0)]
theorem Fld.setk (F : Fld) (j : Nat) (hj : j < 100) (v : Int) : F.cells.setIfInBounds (2 + j) (.int .u8 v) = Fld.cells { F with k := upd F.k j v } := by
  apply Fld.ext_cells (by simp [Fld.size_cells])
  intro i hi
  rw [Fld.get _ i hi, Array.getElem?_setIfInBounds]
  by_cases h0 : 2 + j = i
  · subst h0
    rw [if_pos rfl, if_pos (by rw [Fld.size_cells]; omega), if_neg (by omega), if_neg (by omega), if_pos (by omega)]
    simp [upd, show 2 + j - 2 = j by omega]
  · rw [if_neg h0, Fld.get _ i hi]
    by_cases h2 : i < 2
    · rcases (show i = 0 ∨ i = 1 by omega) with rfl | rfl <;> simp
    · have h3 : i - 2 ≠ j := by omega
      simp only [upd, if_neg h3]
theorem Fld.sets (F : Fld) (j : Nat) (hj : j < 100) (v : Int) : F.cells.setIfInBounds (102 + j) (.int .i16 v) = Fld.cells { F with s := upd F.s j v } := by
  apply Fld.ext_cells (by simp [Fld.size_cells])
  intro i hi
  rw [Fld.get _ i hi, Array.getElem?_setIfInBounds]
  by_cases h0 : 102 + j = i
  · subst h0
    rw [if_pos rfl, if_pos (by rw [Fld.size_cells]; omega), if_neg (by omega), if_neg (by omega), if_neg (by omega)]
    simp [upd, show 102 + j - 102 = j by omega]
  · rw [if_neg h0, Fld.get _ i hi]
    by_cases h2 : i < 102
    · by_cases h1 : i = 0
      · subst h1; simp
      · by_cases h1 : i = 1
        · subst h1; simp
        · simp [*]
    · have h3 : i - 102 ≠ j := by omega
      simp only [upd, if_neg h3]
/-- Whether a field has a cell. -/
def isB (F : Fld) (c : Int) : Bool := decide (0 ≤ c) && decide (c ≤ 99) && decide (c % 10 < F.w) && decide (c / 10 < F.h)
def inB (n l h : Int) : Bool := decide (l ≤ n) && decide (n ≤ h)
theorem isB_eq (F : Fld) (c : Int) : isB F c = (decide (0 ≤ c) && decide (c ≤ 99) && decide (c % 10 < F.w) && decide (c / 10 < F.h)) := rfl
theorem isB_out {F : Fld} {c : Int} (h : c < 0 ∨ 99 < c) : isB F c = false := by
  unfold isB
  rcases h with h | h
  · rw [decide_eq_false (by omega : ¬ 0 ≤ c)]; simp
  · rw [decide_eq_false (by omega : ¬ c ≤ 99)]; simp
theorem isB_in {F : Fld} {c : Int} (h0 : 0 ≤ c) (h9 : c ≤ 99) (b : Bool) (h : (decide (c % 10 < F.w) && decide (c / 10 < F.h)) = b) : isB F c = b := by
  unfold isB
  rw [decide_eq_true h0, decide_eq_true h9]; simpa using h
theorem isB_true {F : Fld} {c : Int} : isB F c = true ↔ 0 ≤ c ∧ c ≤ 99 ∧ c % 10 < F.w ∧ c / 10 < F.h := by
  unfold isB
  simp [and_assoc]
attribute [irreducible] Fld.cells upd isB

--# arrays
/-- An array of n whole numbers of one kind. -/
def arr (n : Nat) (k : IntKind) (f : Nat → Int) : Array Value := Array.ofFn (n := n) fun i => .int k (f i.1)
theorem size_arr (n : Nat) (k : IntKind) (f : Nat → Int) : (arr n k f).size = n := by simp [arr]
theorem get_arr {n : Nat} {k : IntKind} {f : Nat → Int} {i : Nat} (h : i < n) : (arr n k f)[i]? = some (.int k (f i)) := by simp [arr, h]
theorem arr_ext {n : Nat} {k : IntKind} {f : Nat → Int} {A : Array Value} (hs : A.size = n) (h : ∀ i, i < n → A[i]? = some (.int k (f i))) : A = arr n k f := by
  apply Array.ext_getElem?
  intro i
  by_cases hi : i < n
  · rw [h i hi, get_arr hi]
  · rw [Array.getElem?_eq_none (by omega), Array.getElem?_eq_none (by rw [size_arr]; omega)]
theorem arr_congr {n : Nat} {k : IntKind} {f g : Nat → Int} (h : ∀ i, i < n → f i = g i) : arr n k f = arr n k g :=
  arr_ext (size_arr n k f) (fun i hi => by rw [get_arr hi, h i hi])
theorem set_arr {n : Nat} {k : IntKind} {f : Nat → Int} {i : Nat} {v : Int} : (arr n k f).setIfInBounds i (.int k v) = arr n k (upd f i v) := by
  refine arr_ext (by simp [size_arr]) (fun j hj => ?_)
  rw [Array.getElem?_setIfInBounds, get_arr hj]
  by_cases h : i = j
  · subst h; simp [size_arr, hj, upd_self]
  · rw [if_neg h, upd_ne _ _ (Ne.symm h)]
theorem one_arr (n : Nat) (k : IntKind) (f : Nat → Int) : (arr n k f).all (·.oneCell') = true := by
  rw [Array.all_eq_true_iff_forall_mem]
  intro v hv
  obtain ⟨i, hi, rfl⟩ := Array.mem_iff_getElem.1 hv
  have hi' : i < n := by rwa [size_arr] at hi
  have := get_arr (k := k) (f := f) hi'
  rw [Array.getElem?_eq_getElem hi] at this
  rw [Option.some.inj this]
  rfl
theorem Fld.one_cells (F : Fld) : F.cells.all (·.oneCell') = true := by
  rw [Array.all_eq_true_iff_forall_mem]
  intro v hv
  obtain ⟨i, hi, rfl⟩ := Array.mem_iff_getElem.1 hv
  have hi' : i < 202 := by rwa [F.size_cells] at hi
  have := F.get i hi'
  rw [Array.getElem?_eq_getElem hi] at this
  rw [Option.some.inj this]
  split
  · rfl
  · split
    · rfl
    · split <;> rfl
theorem Fld.midk {w : World} {b : Nat} {t : TypeId} {F : Fld} (h : Blk w b t F.cells) : w.rangeAt b 2 (arr 100 .u8 F.k).toList := fun j v hv => by
  have hj : j < 100 := by have := (List.getElem?_eq_some_iff.1 hv).1; simpa [size_arr] using this
  rw [Array.getElem?_toList, get_arr hj] at hv
  rw [h.cell, F.getk j hj, ← hv]
theorem Fld.mids {w : World} {b : Nat} {t : TypeId} {F : Fld} (h : Blk w b t F.cells) : w.rangeAt b 102 (arr 100 .i16 F.s).toList := fun j v hv => by
  have hj : j < 100 := by have := (List.getElem?_eq_some_iff.1 hv).1; simpa [size_arr] using this
  rw [Array.getElem?_toList, get_arr hj] at hv
  rw [h.cell, F.gets j hj, ← hv]
def Fld.zero : Fld := ⟨0, 0, fun _ => 0, fun _ => 0⟩
/-- A field of soil without seeds. -/
def fldWH (w h : Int) : Fld := ⟨w, h, fun _ => 0, fun _ => 0⟩
theorem Fld.ext' {F G : Fld} (hw : F.w = G.w) (hh : F.h = G.h) (hk : ∀ i, i < 100 → F.k i = G.k i) (hs : ∀ i, i < 100 → F.s i = G.s i) : F.cells = G.cells := by
  refine Fld.ext_cells F.size_cells (fun i hi => ?_)
  rw [F.get i hi, G.get i hi]
  by_cases h0 : i = 0
  · rw [if_pos h0, if_pos h0, hw]
  · rw [if_neg h0, if_neg h0]
    by_cases h1 : i = 1
    · rw [if_pos h1, if_pos h1, hh]
    · rw [if_neg h1, if_neg h1]
      by_cases h2 : i < 102
      · rw [if_pos h2, if_pos h2, hk _ (by omega)]
      · rw [if_neg h2, if_neg h2, hs _ (by omega)]
attribute [irreducible] arr
--# sets
/-- Word c / 64 of a set. -/
def wd (x y c : Int) : Int := if c < 64 then x else y
theorem cells2 (x y c : Int) (h1 : 0 ≤ c) (h2 : c ≤ 127) : [Value.int IntKind.u64 x, Value.int IntKind.u64 y][(c / 64).toNat]? = some (.int .u64 (wd x y c)) := by
  unfold wd
  by_cases h : c < 64
  · rw [if_pos h, show (c / 64).toNat = 0 by omega]; rfl
  · rw [if_neg h, show (c / 64).toNat = 1 by omega]; rfl
attribute [irreducible] wd
end Go.Proofs.Ytdhidmigngmgjaa
