/-
  A strings.Builder in a block of its own: written, read, kept. No conditions.
-/
import Derived.Test.YteiplklloajjaaaGreatDoorLx
namespace Go.Proofs.YteiplklloajjaaaGreatDoor
open Go.RowKit
set_option linter.unusedSimpArgs false
set_option linter.unusedVariables false

--# bld
/-- Block g is no row of bytes. -/
def NB (w : World) (g : Nat) : Prop := ∀ cur : Array Value, w.heap[g]? ≠ some (Obj.cells cur 5 (0, 0))
section
variable {w w' : World} {b g : Nat} {t : TypeId} {l : List UInt8} {cs : Array Value}
theorem NB.of (h : Blk w g t cs) (hne : t ≠ 5) : NB w g := fun cur e => by
  unfold Blk at h
  rw [h] at e
  simp only [Option.some.injEq, Obj.cells.injEq] at e
  exact hne e.2.1
theorem Bld.lt (h : Bld w b l) : b < w.heap.size := by
  rcases h with h | h <;> exact h.lt
theorem Bld.new (h : Blk w b 82 #[.pointer none, .slice none 0 0]) : Bld w b [] :=
  .inl ⟨Nat.le_refl _, _, h, World.ownsRow_nil _ _ _ _, by simp [Value.ownBlock]⟩
theorem own_same {w w' : World} {B : Nat} {e : TypeId} {v : Value} {n : Nat} {xs : List Value} (h : w.ownsRow B e 1 v n xs) (hk : ∀ (g : Nat) (cur : Array Value), w.heap[g]? = some (Obj.cells cur e (0, 0)) → w'.heap[g]? = w.heap[g]?) : w'.ownsRow B e 1 v n xs := by
  refine ⟨h.1, ?_⟩
  rcases h.2 with h2 | ⟨g, cap, cur, h1, h2, h3, h4⟩
  · exact .inl h2
  · exact .inr ⟨g, cap, cur, h1, h2, (hk g cur h3).trans h3, h4⟩
theorem Bld.same (h : Bld w b l) (hb : w'.heap[b]? = w.heap[b]?) (hk : ∀ (g : Nat) (cur : Array Value), w.heap[g]? = some (Obj.cells cur 5 (0, 0)) → w'.heap[g]? = w.heap[g]?) : Bld w' b l := by
  rcases h with ⟨h1, v, h2, h3, h4⟩ | ⟨h1, v, h2, h3, h4⟩
  · exact .inl ⟨h1, v, hb.trans h2, own_same h3 hk, h4⟩
  · exact .inr ⟨h1, v, hb.trans h2, own_same h3 hk, h4⟩
theorem lt_of_heap {o : Obj} (h : w.heap[g]? = some o) : g < w.heap.size := by
  rcases Nat.lt_or_ge g w.heap.size with hlt | hge
  · exact hlt
  · rw [Array.getElem?_eq_none hge] at h; cases h
theorem Bld.ext (h : Bld w b l) (e : Ext w w') : Bld w' b l :=
  Bld.same h (e.below.block b h.lt) (fun g cur hg => e.below.block g (lt_of_heap hg))
theorem Wr.mld (k : Wr g w w') (h : Bld w b l) (hne : b ≠ g) (hn : NB w g) : Bld w' b l :=
  Bld.same h (k.oth b h.lt hne) (fun g' cur hg => k.oth g' (lt_of_heap hg) (fun e => by subst e; exact hn cur hg))
theorem Blk.low {B : Nat} (h : Blk w g t cs) (e : Below B w w') (hlt : g < B) : Blk w' g t cs := (e.block g hlt).trans h
theorem Ext.low {w0 : World} {B : Nat} (h : Ext w0 w) (e : Below B w w') (hB : w0.heap.size ≤ B) : Ext w0 w' := ext_of (h.below.trans (e.mono hB))
end
theorem ne_appL {w : World} {b g g' : Nat} (hl : b < w.heap.size) (hne : b ≠ g) (h : g' = g ∨ w.heap.size ≤ g') : b ≠ g' := by
  rcases h with rfl | h
  · exact hne
  · omega
-- 60
theorem bld_write (l m : List UInt8) (b : Nat) (hlen : l.length + m.length ≤ 140737488355328) (w : World) (h : Bld w b l) :
    Calls Tryz.prog 60 #[.pointer (some ⟨b, 0, none⟩), .string (bs m)] w fun e w' => e = .returned (.tuple #[.int .i64 (m.length : Int), .nilIface]) ∧ Bld w' b (l ++ m) ∧ Below b w w' := by
  have h1 := Any.Builder_WriteString { lJoi with } bextra b b (Lib.byteCells l) (bs m) w h (by rw [Lib.byteCells_length, bs_size]; exact hlen) (Nat.le_of_lt h.lt)
  change Calls Tryz.prog 60 _ _ _ at h1
  refine h1.mono ?_
  rintro e w' ⟨rfl, h2, h3⟩
  refine ⟨by rw [bs_size], ?_, h3⟩
  unfold Bld
  rw [Lib.byteCells_append]
  exact .inr h2
-- 62
theorem bld_str (l : List UInt8) (b : Nat) (w : World) (h : Bld w b l) :
    Calls Tryz.prog 62 #[.pointer (some ⟨b, 0, none⟩)] w fun e w' => e = .returned (.string (bs l)) ∧ Below b w w' := by
  have h1 := Any.Builder_String_any { lJoi with } bextra b b l w h (Nat.le_of_lt h.lt)
  change Calls Tryz.prog 62 _ _ _ at h1
  exact h1
end Go.Proofs.YteiplklloajjaaaGreatDoor
