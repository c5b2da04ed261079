/-
  The library's Reverse at a beat's tail, by its contract. No conditions.
-/
import Derived.Test.YtldlaohefgianaaBk
import Derived.Test.YtldlaohefgianaaSl2
import Derived.Shelf.SlicesE.Reverse
namespace Go.Proofs.Ytldlaohefgianaa
open Go.RowKit
set_option linter.unusedSimpArgs false
set_option linter.unusedVariables false
--# beat_len
theorem beat_len {F : Fld} {xs : List Int} (h : (okB F && beatB F xs) = true) : 1 ≤ xs.length ∧ xs.length ≤ 40 := by
  rw [Bool.and_eq_true] at h
  cases hi : inB (xs.length : Int) 1 40 with
  | false => rw [beatB_0 rfl hi] at h; exact absurd h.2 (by simp)
  | true =>
    have := inT hi
    omega
theorem backL_len {F : Fld} {xs : List Int} (h : (okB F && beatB F xs) = true) : (backL xs).length = xs.length := backL_length (beat_len h).1
--# reverse
-- 23
theorem revB_any (xs : List Int) (n g cap : Nat) (cs : Array Value) (hS : SlI cs n cap .i16 xs) (h1 : 1 ≤ n) (w : World) (hb : Blk w g 24 cs) :
    Calls Try.prog 23 #[.slice (some (tailA g cap)) (n - 1) (cap - 1)] w fun e w' => e = .returned (.tuple #[]) ∧ Blk w' g 24 (revC cs xs) ∧ Wr g w w' := by
  have hl := hS.len
  have hnc := SlO.nc hS
  have hcm := SlO.cm hS
  by_cases h2 : n = 1
  · have e : xs.tail = [] := by
      apply List.eq_nil_of_length_eq_zero
      rw [List.length_tail]; omega
    have h := AnyE.slices_Reverse_empty rvB (some (tailA g cap)) (cap - 1) w
    change Calls Try.prog 23 _ _ _ at h
    rw [show n - 1 = 0 by omega]
    refine h.mono ?_
    rintro e' w' ⟨rfl, rfl⟩
    refine ⟨rfl, ?_, Wr.of_ext (Ext.refl _)⟩
    have : revC cs xs = cs := by
      unfold revC Go.Sort.putCells
      rw [e]
      apply Array.ext_getElem?
      intro k
      rw [Array.getElem?_mapIdx]
      cases hk : cs[k]? with
      | none => rfl
      | some x => rw [Option.map_some, if_neg (by simp; omega)]
    rw [this]; exact hb
  · have ht : xs.tail.length = n - 1 := by rw [List.length_tail]; omega
    have hH : Go.Sort.Holds (Value.int .i16) w g 1 xs.tail.toArray := by
      intro j hj
      have hj' : j < n - 1 := by simpa [ht] using hj
      refine ⟨?_, hb.frozen _⟩
      have hc := hS.get (i := j + 1) (by omega)
      rw [hb.cell, show 1 + j = 0 + (j + 1) by omega, hc]
      congr 2
      rw [getElem!_pos xs.tail.toArray j hj]
      have e1 : xs.tail[j]? = some (xs.tail.toArray[j]) := by rw [← List.getElem?_toArray]; exact Array.getElem?_eq_getElem hj
      rw [List.getElem?_tail, atI_get (by omega)] at e1
      exact Option.some.inj e1
    have h := AnyE.slices_Reverse rvB (Value.int .i16) (fun _ => rfl) g 1 (cap - 1) xs.tail w hH (by have e : maxLen = 9223372036854775807 := rfl; omega)
    change Calls Try.prog 23 _ _ _ at h
    rw [ht] at h
    rw [show tailA g cap = ⟨g, 1, none⟩ from if_neg (by omega)]
    refine h.mono ?_
    rintro e' w' ⟨rfl, q, rfl⟩
    refine ⟨rfl, ?_, ?_⟩
    · exact putRow_blk hb
    · exact putRow_wr
end Go.Proofs.Ytldlaohefgianaa
