/-
  The library's Clone at whole numbers, by its contract. No conditions.
-/
import Derived.Test.YtldlaohefgianaaTy
import Derived.Test.YtldlaohefgianaaSl
import Derived.Shelf.SlicesE.Clone
import Derived.Ground.SlgnProg
import Derived.Sort.Row
import Derived.Lib.OwnBridge
import Derived.Test.YtldlaohefgianaaLyc
namespace Go.Proofs.Ytldlaohefgianaa
open Go.RowKit
set_option linter.unusedSimpArgs false
set_option linter.unusedVariables false
--# clone
-- 56
noncomputable def infJ : TypeInfo := (Try.prog.info? 2).get (by kernel_rfl)
theorem iv_mem {k : IntKind} {xs : List Int} {j : Nat} {u : Value} (h : (iv k xs)[j]? = some u) : j < xs.length ∧ u = .int k (atI xs j) := by
  have hj : j < xs.length := by
    have := (List.getElem?_eq_some_iff.1 h).1
    rwa [iv_length] at this
  refine ⟨hj, ?_⟩
  rw [iv_get hj] at h
  exact (Option.some.inj h).symm
theorem cloneJ_any (xs : List Int) (b cap : Nat) (cs : Array Value) (hS : SlI cs xs.length cap .i64 xs) (hx : xs.length ≤ 1048576) (w : World) (hb : Blk w b 2 cs) :
    Calls Try.prog 56 #[.slice (some ⟨b, 0, none⟩) xs.length cap] w fun e w' => RetI w 2 .i64 xs id e w' := by
  have h := AnyE.slices_Clone clJ infJ (.int .i64 0) 1 8 (by kernel_rfl) (by kernel_rfl) (by kernel_rfl) (by kernel_rfl) rfl (by decide) (fun w => run_size (by kernel_rfl) w) b 0 xs.length cap (iv .i64 xs) w
    (by rw [iv_length, Nat.mul_one]) (by have e : maxLen = 9223372036854775807 := rfl; omega) (by omega)
    (fun j u hu => by obtain ⟨hj, rfl⟩ := iv_mem hu; rw [hb.cell]; exact hS.get hj)
    (fun u hu => by obtain ⟨j, hj⟩ := List.getElem?_of_mem hu; obtain ⟨_, rfl⟩ := iv_mem hj; rfl)
  change Calls Try.prog 56 _ _ _ at h
  refine h.mono ?_
  rintro e w' ⟨v', rfl, ⟨hl, ho⟩, hne, hB⟩
  rcases ho with ⟨h0, _⟩ | ⟨g, cp, cur, rfl, hg, hh, hn, hc, hz, ht⟩
  · exact absurd h0 hne
  · refine ⟨g, xs.length, cp, cur, rfl, hh, ⟨?_, hl, hn, hc, hz⟩, (by unfold Ext; exact hB), hg⟩
    rw [hl]; exact ht

end Go.Proofs.Ytldlaohefgianaa
