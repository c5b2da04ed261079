/-
 Arguments as the row reads them: arrays of numbers, fields. No conditions.
-/
import Derived.Test.YtgglcebaanomhaaSl
import Derived.ProofKit
import Derived.OpenShut
import Derived.SizedLaws
namespace Go.Proofs.Ytgglcebaanomhaa
open Go.RowKit Go.ChangeShapes Go.WideShapes
section
variable {H : Type} {enc : TypeId × Value → H} {P : Program} {w : World} {base : Nat} {spare : Nat → Bool} {held : Bool} {fuel : Nat} {t e : TypeId} {r : Reach} {b0 : Nat} {v : Value} {d : DataW H} {ps : List MemPlace}
end
section
variable {P : Program} {w : World} {r : Reach} {b0 : Nat} {t u a b c : TypeId} {v : Value} {k : IntKind}
end
section
variable {H : Type} {enc : TypeId × Value → H} {P : Program} {w : World} {base : Nat} {held : Bool} {t e : TypeId} {r : Reach} {b0 : Nat} {v : Value} {d : DataW H} {ps : List MemPlace} {k : IntKind}
theorem open_slin (ht : P.underlying t = some (.slice e)) (he : P.underlying e = some (.int k)) (hc : P.cellsOf e = 1) (hv : Value.okWide P w r b0 t v) (h : DataW.Trod enc P w base (fun _ => true) held t v d ps) :
 ∃ xs : List Int, SlIn w v k xs ∧ ∀ n ∈ xs, (Lit.int k n).wf = true := by
 obtain ⟨a, len, cap, rfl⟩ := okWide_slice ht hv
 obtain ⟨fuel, hf⟩ := h
 rcases open_ints ht he hc hf with ⟨hcs, hx⟩ | ⟨ad, len', cap', zs, hcs, _, hl, hm, hz, hx, hcell, hw⟩
 ·simp [Value.cells] at hcs
  obtain ⟨rfl, rfl, rfl⟩ := hcs
  exact ⟨[], .inl ⟨rfl, rfl⟩, by simp⟩
 ·simp [Value.cells] at hcs
  obtain ⟨rfl, rfl, rfl⟩ := hcs
  simp only [if_true] at hz
  have hle : (zs.take len).length = len := by rw [List.length_take]; omega
  refine ⟨zs.take len, .inr ⟨ad, cap, by rw [hle], fun i hi => ?_⟩, fun n hn => hw n (List.mem_of_mem_take hn)⟩
  rw [hle] at hi
  rw [Nat.mul_one, hcell i (by omega)]
  congr 2
  unfold atI
  simp [List.getD, List.getElem?_take_of_lt hi]
end
end Go.Proofs.Ytgglcebaanomhaa
