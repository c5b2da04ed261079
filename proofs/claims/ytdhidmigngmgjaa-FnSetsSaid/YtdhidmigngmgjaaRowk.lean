/-
  Arguments as the row reads them: arrays of numbers, fields. No conditions.
-/
import Derived.Test.YtdhidmigngmgjaaSl
import Derived.ProofKit
import Derived.OpenShut
import Derived.SizedLaws
namespace Go.Proofs.Ytdhidmigngmgjaa
open Go.RowKit Go.ChangeShapes Go.WideShapes

--# ints
section
variable {H : Type} {enc : TypeId × Value → H} {P : Program} {w : World} {base : Nat} {spare : Nat → Bool} {held : Bool} {fuel : Nat} {t e : TypeId} {r : Reach} {b0 : Nat} {v : Value} {d : DataW H} {ps : List MemPlace}
theorem okWide_array {n : Nat} (ht : P.underlying t = some (.array n e)) (h : Value.okWide P w r b0 t v) : ∃ cs, v = .agg cs ∧ cs.size = P.cellsOf t := by
  simp only [Value.okWide, ht] at h
  obtain ⟨cs, h1, h2, _⟩ := h
  exact ⟨cs, h1, h2⟩
/-- The cells of an array of whole numbers, as read. -/
theorem trod_ints {n : Nat} {k : IntKind} {cs : List Value} {x : DataW H × List MemPlace} (ht : P.underlying t = some (.array n e)) (he : P.underlying e = some (.int k)) (hc : P.cellsOf e = 1)
    (h : DataW.trod enc P w base spare held fuel t cs = some x) : ∃ f : Nat → Int, ∀ i, i < n → cs[i]? = some (.int k (f i)) ∧ (Lit.int k (f i)).wf = true := by
  obtain ⟨xs, m, _, _, _, hl, hx⟩ := DataW.trod_array ht h
  have hex : ∀ i, i < n → ∃ z, cs[i]? = some (.int k z) ∧ (Lit.int k z).wf = true := by
    intro i hi
    have h1 := hx i hi
    rw [hc, Nat.mul_one] at h1
    have h2 : xs[i]? = some xs[i] := List.getElem?_eq_getElem (by omega)
    rw [h2] at h1
    obtain ⟨z, h3, _, h4⟩ := DataW.trod_int he h1
    refine ⟨z, ?_, h4⟩
    have h5 : ((cs.drop i).take 1)[0]? = some (.int k z) := by rw [h3]; rfl
    rw [List.getElem?_take_of_lt (by omega), List.getElem?_drop] at h5
    simpa using h5
  refine ⟨fun i => if hi : i < n then (hex i hi).choose else 0, fun i hi => ?_⟩
  simp only [hi, dif_pos]
  exact (hex i hi).choose_spec
theorem open_cells (ht : P.underlying t = some (.array 2 e)) (he : P.underlying e = some (.int .u64)) (hc : P.cellsOf e = 1) (hct : P.cellsOf t = 2) (hv : Value.okWide P w r b0 t v) (h : DataW.Trod enc P w base spare held t v d ps) :
    ∃ x y : Int, v = .agg #[.int .u64 x, .int .u64 y] ∧ (0 ≤ x ∧ x ≤ 18446744073709551615) ∧ (0 ≤ y ∧ y ≤ 18446744073709551615) := by
  obtain ⟨cs, rfl, hs⟩ := okWide_array ht hv
  obtain ⟨fuel, h⟩ := h
  obtain ⟨f, hf⟩ := trod_ints ht he hc h
  refine ⟨f 0, f 1, ?_, bounds_u64 (hf 0 (by omega)).2, bounds_u64 (hf 1 (by omega)).2⟩
  congr 1
  apply Array.ext_getElem?
  intro i
  by_cases hi : i < 2
  · have := (hf i hi).1
    have h1 : cs[i]? = some (.int .u64 (f i)) := by simpa [Value.cells] using this
    rw [h1]
    rcases (show i = 0 ∨ i = 1 by omega) with rfl | rfl <;> rfl
  · rw [Array.getElem?_eq_none (by omega), Array.getElem?_eq_none (by simp; omega)]
end

--# wide
section
variable {P : Program} {w : World} {r : Reach} {b0 : Nat} {t u a b c : TypeId} {v : Value} {k : IntKind}
theorem cell_int (hu : P.underlying u = some (.int k)) (h : Cell.okWide P w r b0 u v) : ∃ n, v = .int k n ∧ (Lit.int k n).wf = true := by
  unfold Cell.okWide Cell.ok at h
  rw [hu] at h
  cases v with
  | int k' n =>
    simp only at h
    obtain ⟨rfl, h2⟩ := h
    exact ⟨n, rfl, by simpa [Lit.wf, IntKind.has] using h2⟩
  | _ => simp at h
def numAt (cs : Array Value) (i : Nat) : Int := match cs[i]? with | some (.int _ n) => n | _ => 0
theorem numAt_eq {cs : Array Value} {i : Nat} {n : Int} (h : cs[i]? = some (.int k n)) : numAt cs i = n := by unfold numAt; rw [h]
theorem open_field {fs : Array Field} (ht : P.underlying t = some (.struct fs)) (hs : P.cellsOf t = 202) (hct : P.cellTypes P.depth t = some ([a, a] ++ List.replicate 100 b ++ List.replicate 100 c))
    (ha : P.underlying a = some (.int .i8)) (hb : P.underlying b = some (.int .u8)) (hc : P.underlying c = some (.int .i16)) (hv : Value.okWide P w r b0 t v) : ∃ F : Fld, v = .agg F.cells ∧ F.wf := by
  simp only [Value.okWide, ht] at hv
  obtain ⟨cs, rfl, hz, ts, h1, _, h2⟩ := hv
  rw [hs] at hz
  rw [hct] at h1
  obtain rfl := Option.some.inj h1
  have key : ∀ i, i < 202 → ∃ u, ([a, a] ++ List.replicate 100 b ++ List.replicate 100 c)[i]? = some u ∧ Cell.okWide P w r b0 u cs[i]! := by
    intro i hi
    have h3 : cs[i]? = some cs[i]! := by rw [getElem!_pos cs i (by omega)]; exact Array.getElem?_eq_getElem (by omega)
    have h4 := h2 i _ h3
    rwa [show i % ([a, a] ++ List.replicate 100 b ++ List.replicate 100 c).length = i from Nat.mod_eq_of_lt (by simp only [List.length_append, List.length_replicate, List.length_cons, List.length_nil]; omega)] at h4
  have get : ∀ i, i < 202 → cs[i]? = some cs[i]! := by
    intro i hi
    rw [getElem!_pos cs i (by omega)]; exact Array.getElem?_eq_getElem (by omega)
  have k0 : ∀ i, i < 2 → ∃ n, cs[i]? = some (.int .i8 n) ∧ (Lit.int .i8 n).wf = true := by
    intro i hi
    obtain ⟨u, hu, hcell⟩ := key i (by omega)
    rw [List.append_assoc, List.getElem?_append_left (by simpa using hi)] at hu
    have : u = a := by rcases (show i = 0 ∨ i = 1 by omega) with rfl | rfl <;> simpa using hu.symm
    subst this
    obtain ⟨n, hn, hw⟩ := cell_int ha hcell
    exact ⟨n, by rw [get i (by omega), hn], hw⟩
  have k1 : ∀ i, i < 100 → ∃ n, cs[2 + i]? = some (.int .u8 n) ∧ (Lit.int .u8 n).wf = true := by
    intro i hi
    obtain ⟨u, hu, hcell⟩ := key (2 + i) (by omega)
    rw [List.append_assoc, List.getElem?_append_right (by simp), List.getElem?_append_left (by simp; omega), List.getElem?_replicate_of_lt (by simp; omega)] at hu
    obtain rfl := Option.some.inj hu
    obtain ⟨n, hn, hw⟩ := cell_int hb hcell
    exact ⟨n, by rw [get _ (by omega), hn], hw⟩
  have k2 : ∀ i, i < 100 → ∃ n, cs[102 + i]? = some (.int .i16 n) ∧ (Lit.int .i16 n).wf = true := by
    intro i hi
    obtain ⟨u, hu, hcell⟩ := key (102 + i) (by omega)
    rw [List.getElem?_append_right (by simp), List.getElem?_replicate_of_lt (by simp; omega)] at hu
    obtain rfl := Option.some.inj hu
    obtain ⟨n, hn, hw⟩ := cell_int hc hcell
    exact ⟨n, by rw [get _ (by omega), hn], hw⟩
  refine ⟨⟨numAt cs 0, numAt cs 1, fun i => numAt cs (2 + i), fun i => numAt cs (102 + i)⟩, ?_, ?_⟩
  · congr 1
    refine Fld.ext_cells hz (fun i hi => ?_)
    rw [Fld.get _ i hi]
    by_cases h0 : i = 0
    · subst h0
      obtain ⟨n, hn, _⟩ := k0 0 (by omega)
      rw [hn, numAt_eq hn]; rfl
    · rw [if_neg h0]
      by_cases h1 : i = 1
      · subst h1
        obtain ⟨n, hn, _⟩ := k0 1 (by omega)
        rw [hn, if_pos rfl, numAt_eq hn]
      · rw [if_neg h1]
        by_cases h2 : i < 102
        · obtain ⟨n, hn, _⟩ := k1 (i - 2) (by omega)
          rw [show 2 + (i - 2) = i by omega] at hn
          rw [if_pos h2, hn]
          simp only [show 2 + (i - 2) = i by omega, numAt_eq hn]
        · obtain ⟨n, hn, _⟩ := k2 (i - 102) (by omega)
          rw [show 102 + (i - 102) = i by omega] at hn
          rw [if_neg h2, hn]
          simp only [show 102 + (i - 102) = i by omega, numAt_eq hn]
  · obtain ⟨n0, hn0, hw0⟩ := k0 0 (by omega)
    obtain ⟨n1, hn1, hw1⟩ := k0 1 (by omega)
    have b0 := bounds_i8 hw0
    have b1 := bounds_i8 hw1
    constructor
    · show -128 ≤ numAt cs 0; rw [numAt_eq hn0]; exact b0.1
    · show numAt cs 0 ≤ 127; rw [numAt_eq hn0]; exact b0.2
    · show -128 ≤ numAt cs 1; rw [numAt_eq hn1]; exact b1.1
    · show numAt cs 1 ≤ 127; rw [numAt_eq hn1]; exact b1.2
    · intro i hi
      obtain ⟨n, hn, hw⟩ := k1 i hi
      show 0 ≤ numAt cs (2 + i) ∧ numAt cs (2 + i) ≤ 255
      rw [numAt_eq hn]; exact bounds_u8 hw
    · intro i hi
      obtain ⟨n, hn, hw⟩ := k2 i hi
      show -32768 ≤ numAt cs (102 + i) ∧ numAt cs (102 + i) ≤ 32767
      rw [numAt_eq hn]; exact bounds_i16 hw
theorem open_arr {n : Nat} (ht : P.underlying t = some (.array n a)) (hs : P.cellsOf t = n) (hct : P.cellTypes P.depth t = some (List.replicate n a)) (ha : P.underlying a = some (.int k)) (hv : Value.okWide P w r b0 t v) :
    ∃ f : Nat → Int, v = .agg (arr n k f) ∧ ∀ i, i < n → (Lit.int k (f i)).wf = true := by
  simp only [Value.okWide, ht] at hv
  obtain ⟨cs, rfl, hz, ts, h1, _, h2⟩ := hv
  rw [hs] at hz
  rw [hct] at h1
  obtain rfl := Option.some.inj h1
  have key : ∀ i, i < n → ∃ m, cs[i]? = some (.int k m) ∧ (Lit.int k m).wf = true := by
    intro i hi
    have h3 : cs[i]? = some cs[i]! := by rw [getElem!_pos cs i (by omega)]; exact Array.getElem?_eq_getElem (by omega)
    obtain ⟨u, hu, hcell⟩ := h2 i _ h3
    rw [List.length_replicate, Nat.mod_eq_of_lt hi, List.getElem?_replicate_of_lt hi] at hu
    obtain rfl := Option.some.inj hu
    obtain ⟨m, hm, hw⟩ := cell_int ha hcell
    exact ⟨m, by rw [h3, hm], hw⟩
  refine ⟨fun i => numAt cs i, ?_, fun i hi => ?_⟩
  · congr 1
    refine arr_ext hz (fun i hi => ?_)
    obtain ⟨m, hm, _⟩ := key i hi
    simp only [numAt_eq hm]; exact hm
  · obtain ⟨m, hm, hw⟩ := key i hi
    simp only [numAt_eq hm]; exact hw
end

--# slices
section
variable {H : Type} {enc : TypeId × Value → H} {P : Program} {w : World} {base : Nat} {held : Bool} {t e : TypeId} {r : Reach} {b0 : Nat} {v : Value} {d : DataW H} {ps : List MemPlace} {k : IntKind}
theorem open_slin (ht : P.underlying t = some (.slice e)) (he : P.underlying e = some (.int k)) (hc : P.cellsOf e = 1) (hv : Value.okWide P w r b0 t v) (h : DataW.Trod enc P w base (fun _ => true) held t v d ps) :
    ∃ xs : List Int, SlIn w v k xs ∧ ∀ n ∈ xs, (Lit.int k n).wf = true := by
  obtain ⟨a, len, cap, rfl⟩ := okWide_slice ht hv
  obtain ⟨fuel, hf⟩ := h
  rcases open_ints ht he hc hf with ⟨hcs, hx⟩ | ⟨ad, len', cap', zs, hcs, _, hl, hm, hz, hx, hcell, hw⟩
  · simp [Value.cells] at hcs
    obtain ⟨rfl, rfl, rfl⟩ := hcs
    exact ⟨[], .inl ⟨rfl, rfl⟩, by simp⟩
  · simp [Value.cells] at hcs
    obtain ⟨rfl, rfl, rfl⟩ := hcs
    simp only [if_true] at hz
    have hle : (zs.take len).length = len := by rw [List.length_take]; omega
    refine ⟨zs.take len, .inr ⟨ad, cap, by rw [hle], fun i hi => ?_⟩, fun n hn => hw n (List.mem_of_mem_take hn)⟩
    rw [hle] at hi
    rw [Nat.mul_one, hcell i (by omega)]
    congr 2
    unfold atI
    simp [List.getD, List.getElem?_take_of_lt hi]
end
end Go.Proofs.Ytdhidmigngmgjaa
