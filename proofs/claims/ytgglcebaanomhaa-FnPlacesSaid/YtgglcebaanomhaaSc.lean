/-
 Choices drawn from bytes; what the fewest shifts are. No conditions.
-/
import Derived.Test.YtgglcebaanomhaaMth3
import Derived.Test.YtgglcebaanomhaaSl
namespace Go.Proofs.Ytgglcebaanomhaa
open Go.RowKit
set_option linter.unusedSimpArgs false
set_option linter.unusedVariables false
def maxI (x y : Int) : Int := if y > x then y else x
attribute [irreducible] maxI
section
variable {xs : List Int} {j n : Nat} {e : Int}
def srB (xs : List Int) (j : Nat) : Int := if j < xs.length then atI xs j else 0
def srN (xs : List Int) (j : Nat) (e : Int) : Int := IntKind.u64.wrap (IntKind.u64.wrap (IntKind.u64.wrap (e * 6364136223846793005) + srB xs j) + 1442695040888963407)
def srV (xs : List Int) (j : Nat) (e : Int) : Int := if j + 1 ≤ xs.length then srB xs j else bits BinOp.and IntKind.u64 (srN xs j e / 2 ^ (40 : Int).toNat) 255
theorem srB_1 (h : j < xs.length) : srB xs j = atI xs j := if_pos h
theorem srB_2 (h : ¬ j < xs.length) : srB xs j = 0 := if_neg h
theorem srV_1 (h : j + 1 ≤ xs.length) : srV xs j e = srB xs j := if_pos h
theorem srV_2 (h : ¬ j + 1 ≤ xs.length) : srV xs j e = bits BinOp.and IntKind.u64 (srN xs j e / 2 ^ (40 : Int).toNat) 255 := if_neg h
theorem u64w (x : Int) : 0 ≤ IntKind.u64.wrap x ∧ IntKind.u64.wrap x ≤ 18446744073709551615 := by
 simp only [IntKind.wrap]
 have h1 := Int.emod_nonneg x (show (18446744073709551616 : Int) ≠ 0 by omega)
 have h2 := Int.emod_lt_of_pos x (show (0 : Int) < 18446744073709551616 by omega)
 have e : ((2 : Int) ^ IntKind.u64.bits) = 18446744073709551616 := by decide
 simp [e, IntKind.signed] <;> omega
theorem and255 {x : Int} (h : 0 ≤ x ∧ x ≤ 18446744073709551615) : 0 ≤ bits BinOp.and IntKind.u64 x 255 ∧ bits BinOp.and IntKind.u64 x 255 ≤ 255 := by
 obtain ⟨X, rfl⟩ := Int.eq_ofNat_of_zero_le h.1
 have e := u64_and_nat X 255 (by omega) (by omega)
 rw [show ((255 : Nat) : Int) = 255 from rfl] at e
 rw [e]
 have := Nat.and_le_right (n := X) (m := 255)
 omega
theorem srN_w : 0 ≤ srN xs j e ∧ srN xs j e ≤ 18446744073709551615 := u64w _
theorem div40 {x : Int} (h : 0 ≤ x ∧ x ≤ 18446744073709551615) : 0 ≤ x / 2 ^ (40 : Int).toNat ∧ x / 2 ^ (40 : Int).toNat ≤ 18446744073709551615 := by
 rw [show (2 : Int) ^ (40 : Int).toNat = 1099511627776 from rfl]
 omega
theorem srN_40 : 0 ≤ srN xs j e / 2 ^ (40 : Int).toNat ∧ srN xs j e / 2 ^ (40 : Int).toNat ≤ 18446744073709551615 := div40 srN_w
theorem raw40 (x : Int) : 0 ≤ bits BinOp.and IntKind.u64 (IntKind.u64.wrap x / 2 ^ (40 : Int).toNat) 255 ∧ bits BinOp.and IntKind.u64 (IntKind.u64.wrap x / 2 ^ (40 : Int).toNat) 255 ≤ 255 := and255 (div40 (u64w x))
theorem srB_in (hb : ∀ i, i < xs.length → 0 ≤ atI xs i ∧ atI xs i ≤ 255) : 0 ≤ srB xs j ∧ srB xs j ≤ 255 := by
 unfold srB
 split
 ·next h => exact hb j h
 ·omega
theorem srV_in (hb : ∀ i, i < xs.length → 0 ≤ atI xs i ∧ atI xs i ≤ 255) : 0 ≤ srV xs j e ∧ srV xs j e ≤ 255 := by
 unfold srV
 split
 ·exact srB_in hb
 ·exact and255 srN_40
def sdN (xs : List Int) : Nat → Int
 | 0 => 0
 | j + 1 => srN xs j (sdN xs j)
def drN (xs : List Int) (j : Nat) (m : Int) : Int := srV xs j (sdN xs j) % m
theorem drN_in {m : Int} (hm : 0 < m) : 0 ≤ drN xs j m ∧ drN xs j m < m := ⟨Int.emod_nonneg _ (by omega), Int.emod_lt_of_pos _ hm⟩
def ndN (xs : List Int) : Nat → List Int
 | 0 => []
 | i + 1 => ndN xs i ++ [drN xs (i + 1) 5]
def ndL (xs : List Int) : List Int := ndN xs (drN xs 0 12).toNat
end
theorem drN_0 {xs : List Int} {m : Int} : drN xs 0 m = srV xs 0 0 % m := rfl
attribute [irreducible] srN srV srB sdN ndN ndL drN
def RetP (w : World) (t : TypeId) (cs : Array Value) (e : Ending) (w' : World) : Prop := ∃ g, e = .returned (.pointer (some ⟨g, 0, none⟩)) ∧ Blk w' g t cs ∧ Ext w w' ∧ w.heap.size ≤ g
section
variable {P : Program} {ops : Array Oper} {Q : Exit → Act → World → Prop} {rest : List Oper} {o : Oper} {a : Act} {w : World}
theorem wclp {f : FuncId} {args : Array Value} {t : TypeId} {cs : Array Value} (hc : Calls P f args w (RetP w t cs))
 (k : ∀ g w', Blk w' g t cs → Ext w w' → w.heap.size ≤ g → wpList P ops Q rest (putL a o.dst (.pointer (some ⟨g, 0, none⟩))) w')
 (hw : Region.wanted o (yielded ops a.tmps) = true := by kernel_rfl) (he : (execOp (evalL a) o).run P w = .ok (.enter f args) w := by kernel_rfl) : wpList P ops Q (o :: rest) a w :=
 wpl_callx (S := fun u w' => ∃ g, u = .pointer (some ⟨g, 0, none⟩) ∧ Blk w' g t cs ∧ Ext w w' ∧ w.heap.size ≤ g) f args rfl hw he hc
  (fun e w' ⟨g, he, h1, h2, h3⟩ => ⟨_, he, g, rfl, h1, h2, h3⟩) (fun u w' ⟨g, hv, h1, h2, h3⟩ => by rw [hv]; exact k g w' h1 h2 h3)
end
section
variable {need starts D E : List Int} {len h v M : Int} {n m k i : Nat}
end
section
variable {need : List Int} {len : Int}
end
section
variable {need : List Int} {len : Int} {i : Nat}
end
end Go.Proofs.Ytgglcebaanomhaa
