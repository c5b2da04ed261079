/-
  The library's Clone at a beat, by its contract. No conditions.
-/
import Derived.Test.YtldlaohefgianaaTy
import Derived.Test.YtldlaohefgianaaSl
import Derived.Shelf.SlicesE.Clone
import Derived.Ground.SlgnProg
import Derived.Sort.Row
import Derived.Lib.OwnBridge
import Derived.Test.YtldlaohefgianaaLyb
namespace Go.Proofs.Ytldlaohefgianaa
open Go.RowKit
set_option linter.unusedSimpArgs false
set_option linter.unusedVariables false
--# clone
-- 22
noncomputable def infB : TypeInfo := (Try.prog.info? 24).get (by kernel_rfl)
theorem iv_mem {k : IntKind} {xs : List Int} {j : Nat} {u : Value} (h : (iv k xs)[j]? = some u) : j < xs.length ∧ u = .int k (atI xs j) := by
  have hj : j < xs.length := by
    have := (List.getElem?_eq_some_iff.1 h).1
    rwa [iv_length] at this
  refine ⟨hj, ?_⟩
  rw [iv_get hj] at h
  exact (Option.some.inj h).symm
theorem cloneB_any (xs : List Int) (b cap : Nat) (cs : Array Value) (hS : SlI cs xs.length cap .i16 xs) (hx : xs.length ≤ 1048576) (w : World) (hb : Blk w b 24 cs) :
    Calls Try.prog 22 #[.slice (some ⟨b, 0, none⟩) xs.length cap] w fun e w' => RetI w 24 .i16 xs id e w' := by
  have h := AnyE.slices_Clone clB infB (.int .i16 0) 1 2 (by kernel_rfl) (by kernel_rfl) (by kernel_rfl) (by kernel_rfl) rfl (by decide) (fun w => run_size (by kernel_rfl) w) b 0 xs.length cap (iv .i16 xs) w
    (by rw [iv_length, Nat.mul_one]) (by have e : maxLen = 9223372036854775807 := rfl; omega) (by omega)
    (fun j u hu => by obtain ⟨hj, rfl⟩ := iv_mem hu; rw [hb.cell]; exact hS.get hj)
    (fun u hu => by obtain ⟨j, hj⟩ := List.getElem?_of_mem hu; obtain ⟨_, rfl⟩ := iv_mem hj; rfl)
  change Calls Try.prog 22 _ _ _ at h
  refine h.mono ?_
  rintro e w' ⟨v', rfl, ⟨hl, ho⟩, hne, hB⟩
  rcases ho with ⟨h0, _⟩ | ⟨g, cp, cur, rfl, hg, hh, hn, hc, hz, ht⟩
  · exact absurd h0 hne
  · refine ⟨g, xs.length, cp, cur, rfl, hh, ⟨?_, hl, hn, hc, hz⟩, (by unfold Ext; exact hB), hg⟩
    rw [hl]; exact ht

--# slice1
section
variable {P : Program} {ρ : Operand → Value} {o : Oper} {w : World} {R : Value → World → Prop} {x y : Operand} {t e : TypeId} {g n cap : Nat} {k : IntKind}
/-- A slice from its second element on. -/
def tailA (g cap : Nat) : Addr := if cap = 1 then ⟨g, 0, none⟩ else ⟨g, 1, none⟩
theorem OpRun.slice1 (hT : SliT P t 1) (ho : o.op = .slice t x (some y) none none) (hx : ρ x = .slice (some ⟨g, 0, none⟩) n cap) (hy : ρ y = .int k 1) (h1 : 1 ≤ n) (hc : n ≤ cap) (h : R (.slice (some (tailA g cap)) (n - 1) (cap - 1)) w) : OpRun P ρ o w R := by
  obtain ⟨e, hu, hi⟩ := hT
  have hb : (Instr.sliceBound (.int k 1) n .sliceB).run P w = .ok 1 w := by
    have := run_sliceBound (P := P) (w := w) k 1 n .sliceB (by omega) (by omega)
    simpa using this
  have hr : (Instr.sliceAt t (ρ x) (some (ρ y)) none none).run P w = .ok (.slice (some (tailA g cap)) (n - 1) (cap - 1)) w := by
    rw [hx, hy]
    unfold tailA
    by_cases h2 : cap = 1
    · simp [Instr.sliceAt, Instr.slice, Instr.sliceBounds, Sem.run_bind, run_underlying hu w, hb, run_size hi, h2]
    · simp [Instr.sliceAt, Instr.slice, Instr.sliceBounds, Sem.run_bind, run_underlying hu w, hb, run_size hi, h2, Addr.add_mid]
  unfold OpRun execOp
  simp only [ho, Option.map_some, Option.map_none, Sem.run_bind, hr, Result.andThen_ok]
  exact h
end
section
variable {P : Program} {ops : Array Oper} {Q : Exit → Act → World → Prop} {rest : List Oper} {o : Oper} {a : Act} {w : World} {x y : Operand} {t : TypeId}
theorem wslice1 (g n cap : Nat) (k : IntKind) (hT : SliT P t 1) (h1 : 1 ≤ n) (hc : n ≤ cap) (kk : wpList P ops Q rest (putL a o.dst (.slice (some (tailA g cap)) (n - 1) (cap - 1))) w)
    (hw : Region.wanted o (yielded ops a.tmps) = true := by kernel_rfl) (ho : o.op = .slice t x (some y) none none := by exact rfl) (hx : evalL a x = .slice (some ⟨g, 0, none⟩) n cap := by kernel_rfl) (hy : evalL a y = .int k 1 := by kernel_rfl) : wpList P ops Q (o :: rest) a w :=
  wpl_op (R := fun v' w' => v' = _ ∧ w' = w) rfl hw (OpRun.slice1 hT ho hx hy h1 hc ⟨rfl, rfl⟩) (fun v' w' h => by rw [h.1, h.2]; exact kk)
end

--# backL
/-- The first m of a beat backward: its head, then from its end on. -/
def backN (xs : List Int) (m : Nat) : List Int := atI xs 0 :: (List.range m).map fun j => atI xs (xs.length - 1 - j)
def backL (xs : List Int) : List Int := backN xs (xs.length - 1)
theorem backN_0 (xs : List Int) : backN xs 0 = [atI xs 0] := rfl
theorem backN_s (xs : List Int) (m : Nat) : backN xs (m + 1) = backN xs m ++ [atI xs (xs.length - 1 - m)] := by
  unfold backN
  rw [List.range_succ, List.map_append]
  rfl
theorem backN_length (xs : List Int) (m : Nat) : (backN xs m).length = m + 1 := by
  unfold backN
  simp
theorem backL_length {xs : List Int} (h : 1 ≤ xs.length) : (backL xs).length = xs.length := by
  unfold backL backN
  simp
  omega
theorem backL_get {xs : List Int} {i : Nat} (h : i < xs.length) : atI (backL xs) i = if i = 0 then atI xs 0 else atI xs (xs.length - i) := by
  unfold backL backN
  cases i with
  | zero => rw [if_pos rfl]; simp [atI]
  | succ i =>
    rw [if_neg (by omega)]
    unfold atI
    simp only [List.getD, List.getElem?_cons_succ]
    rw [List.getElem?_map, List.getElem?_range (by omega)]
    simp only [Option.map_some, Option.getD_some]
    rw [show xs.length - 1 - i = xs.length - (i + 1) by omega]
theorem SlI.one {k : IntKind} {x : Int} : SlI #[.int k x] 1 1 k [x] := by
  have e : iv k [x] = [.int k x] := by rw [iv]; rfl
  refine ⟨?_, ?_, Nat.le_refl _, by decide, rfl⟩
  · rw [e]; rfl
  · rw [e]; rfl
theorem SlI.mk' {cs : Array Value} {n cap : Nat} {k : IntKind} {ys : List Int} (hl : ys.length = n) (hn : n ≤ cap) (hc : cap ≤ maxLen) (hs : cs.size = cap) (hg : ∀ i, i < n → cs[i]? = some (.int k (atI ys i))) : SlI cs n cap k ys := by
  refine ⟨?_, by rw [iv_length, hl, Nat.mul_one], hn, hc, by rw [hs, Nat.mul_one]⟩
  rw [iv_length, hl]
  apply List.ext_getElem?
  intro i
  by_cases hi : i < n
  · rw [List.getElem?_take_of_lt hi, Array.getElem?_toList, hg i hi, iv_get (by omega)]
  · rw [List.getElem?_eq_none (by rw [List.length_take]; omega), List.getElem?_eq_none (by rw [iv_length]; omega)]

--# reverse
def revC (cs : Array Value) (xs : List Int) : Array Value := Go.Sort.putCells (Value.int .i16) 1 xs.tail.reverse.toArray cs
theorem revC_S {cs : Array Value} {n cap : Nat} {xs : List Int} (hS : SlI cs n cap .i16 xs) (h1 : 1 ≤ n) : SlI (revC cs xs) n cap .i16 (backL xs) := by
  have hl := hS.len
  have hz : cs.size = cap := by have := SlO.sz hS; omega
  refine SlI.mk' (by rw [backL_length (by omega)]; omega) (SlO.nc hS) (SlO.cm hS) (by unfold revC Go.Sort.putCells; simp [hz]) (fun i hi => ?_)
  have hc := hS.get hi
  rw [Nat.zero_add] at hc
  unfold revC Go.Sort.putCells
  rw [Array.getElem?_mapIdx, hc, Option.map_some, backL_get (by omega)]
  congr 1
  by_cases h0 : i = 0
  · subst h0
    rw [if_neg (by omega), if_pos rfl]
  · have ht : xs.tail.reverse.length = xs.length - 1 := by simp
    rw [if_pos (by simp; omega), if_neg h0]
    congr 1
    have hlt : i - 1 < xs.tail.reverse.toArray.size := by simp; omega
    rw [getElem!_pos xs.tail.reverse.toArray (i - 1) hlt]
    have e1 : xs.tail.reverse[i - 1]? = some (xs.tail.reverse.toArray[i - 1]) := by
      rw [← List.getElem?_toArray]; exact Array.getElem?_eq_getElem hlt
    rw [List.getElem?_reverse (by simp; omega)] at e1
    rw [List.getElem?_tail, List.length_tail, show xs.length - 1 - 1 - (i - 1) + 1 = xs.length - i by omega, atI_get (by omega)] at e1
    exact (Option.some.inj e1).symm
section
variable {w : World} {g q : Nat} {t : TypeId} {cs : Array Value} {d : Array Int} {off : Nat}
theorem putRow_blk (hb : Blk w g t cs) : Blk (Go.Sort.putRow (Value.int .i16) (Go.Sort.ahead w q) g off d) g t (Go.Sort.putCells (Value.int .i16) off d cs) := by
  have h0 : w.heap[g]? = some (.cells cs t (0, 0)) := hb
  show (Go.Sort.putRow _ _ _ _ _).heap[g]? = _
  simp [Go.Sort.putRow, Go.Sort.mapBlock, Go.Sort.ahead, Go.Sort.onCells, Array.getElem?_modify, h0]
theorem putRow_wr : Wr g w (Go.Sort.putRow (Value.int .i16) (Go.Sort.ahead w q) g off d) := by
  refine ⟨fun w0 h0 he => ?_, fun j hj hne => ?_, ?_⟩
  · unfold Ext at he ⊢
    exact ⟨he.os, he.tape, he.output, by simpa [Go.Sort.putRow, Go.Sort.mapBlock, Go.Sort.ahead] using he.size, fun k hk => by
      rw [← he.block k hk]
      simp [Go.Sort.putRow, Go.Sort.mapBlock, Go.Sort.ahead, Array.getElem?_modify, show g ≠ k by omega]⟩
  · simp [Go.Sort.putRow, Go.Sort.mapBlock, Go.Sort.ahead, Array.getElem?_modify, Ne.symm hne]
  · simp [Go.Sort.ahead]
end
end Go.Proofs.Ytldlaohefgianaa
