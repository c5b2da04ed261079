/-
  Texts: what the loops over bytes ask for. No conditions.
-/
import Derived.Test.YteiplklloajjaaaGreatDoorTs
namespace Go.Proofs.YteiplklloajjaaaGreatDoor
open Go.RowKit
set_option linter.unusedSimpArgs false
set_option linter.unusedVariables false

--# bytes
theorem atB_of {l : List UInt8} {i : Nat} {c : UInt8} (h : atN l i = ((c.toNat : Nat) : Int)) : atB l i = c := by
  unfold atN at h
  apply UInt8.toNat_inj.1
  omega
theorem atB_ne {l : List UInt8} {i : Nat} {c : UInt8} (h : ¬ atN l i = ((c.toNat : Nat) : Int)) : atB l i ≠ c := fun e => h (by unfold atN; rw [e])
theorem atB_drop (l : List UInt8) (b i : Nat) : atB (l.drop b) i = atB l (b + i) := by
  unfold atB
  rw [List.getD, List.getD, List.getElem?_drop]
theorem mem_atB {l : List UInt8} {c : UInt8} (h : c ∈ l) : ∃ i, i < l.length ∧ atB l i = c := by
  obtain ⟨i, hi, e⟩ := List.mem_iff_getElem.1 h
  refine ⟨i, hi, ?_⟩
  have := atB_get hi
  rw [List.getElem?_eq_getElem hi, e] at this
  exact (Option.some.inj this).symm
theorem cut_step {l : List UInt8} {c : UInt8} {b i : Nat} (hb : b ≤ i) (hi : i < l.length) (hn : ∀ j, b ≤ j → j < i → atB l j ≠ c) (he : atB l i = c) :
    cutL c (l.drop b) = (l.drop b).take (i - b) :: cutL c (l.drop (i + 1)) := by
  have hc : l[i]? = some c := by rw [atB_get hi, he]
  have e1 : l.drop i = c :: l.drop (i + 1) := by
    rw [List.drop_eq_getElem_cons hi]
    congr 1
    rw [List.getElem?_eq_getElem hi] at hc
    exact Option.some.inj hc
  have e : l.drop b = (l.drop b).take (i - b) ++ c :: l.drop (i + 1) := by
    conv => lhs; rw [← List.take_append_drop (i - b) (l.drop b)]
    rw [List.drop_drop, show b + (i - b) = i by omega, e1]
  have hnm : c ∉ (l.drop b).take (i - b) := by
    intro hm
    obtain ⟨j, hj, ej⟩ := mem_atB hm
    rw [List.length_take, List.length_drop] at hj
    have : atB ((l.drop b).take (i - b)) j = atB l (b + j) := by
      unfold atB
      rw [List.getD, List.getD, List.getElem?_take_of_lt (by omega), List.getElem?_drop]
    rw [this] at ej
    exact hn (b + j) (by omega) (by omega) ej
  conv => lhs; rw [e]
  rw [cutL_at _ hnm]
theorem cut_end {l : List UInt8} {c : UInt8} {b : Nat} (hn : ∀ j, b ≤ j → j < l.length → atB l j ≠ c) : cutL c (l.drop b) = [l.drop b] := by
  apply cutL_no
  intro hm
  obtain ⟨j, hj, ej⟩ := mem_atB hm
  rw [List.length_drop] at hj
  rw [atB_drop] at ej
  exact hn (b + j) (by omega) (by omega) ej

theorem hn_new {l : List UInt8} {c : UInt8} {i : Nat} : ∀ j, i + 1 ≤ j → j < i + 1 → atB l j ≠ c := fun j h1 h2 => by omega
theorem hn_step {l : List UInt8} {c : UInt8} {b i : Nat} (hn : ∀ j, b ≤ j → j < i → atB l j ≠ c) (h : ¬ atN l i = ((c.toNat : Nat) : Int)) : ∀ j, b ≤ j → j < i + 1 → atB l j ≠ c := by
  intro j h1 h2
  rcases (by omega : j < i ∨ j = i) with h3 | h3
  · exact hn j h1 h3
  · rw [h3]; exact atB_ne h

--# numbers
theorem numN {l : List UInt8} (h : numL l = none) : numV l = 0 ∧ numO l = false := by
  unfold numV numO
  rw [h]
  exact ⟨rfl, rfl⟩
theorem num_nil : numL [] = none := by unfold numL; rw [if_pos (.inl rfl)]
theorem num_long {l : List UInt8} (h : 9 < l.length) : numL l = none := by unfold numL; rw [if_pos (.inr (.inl h))]
theorem head_at {l : List UInt8} (h : l ≠ []) : l.head? = some (atB l 0) := by
  cases l with
  | nil => exact absurd rfl h
  | cons a b => rfl
theorem num_zero {l : List UInt8} (h : atN l 0 = 48) (h1 : 1 < l.length) : numL l = none := by
  have hne : l ≠ [] := fun e => by rw [e] at h1; simp at h1
  have hh : l.head? = some 48 := by
    rw [head_at hne]
    exact congrArg some (atB_of (c := 48) h)
  unfold numL
  exact if_pos (.inr (.inr ⟨hh, h1⟩))
theorem num_else {l : List UInt8} (hne : ¬ l = []) (h9 : ¬ 9 < l.length) (h : ¬ atN l 0 = 48 ∨ ¬ 1 < l.length) : numL l = Lib.decFrom 0 l := by
  unfold numL
  rw [if_neg]
  rintro (h1 | h1 | ⟨h1, h2⟩)
  · exact hne h1
  · exact h9 h1
  · rcases h with h | h
    · rw [head_at hne] at h1
      exact h (by unfold atN; rw [Option.some.inj h1]; rfl)
    · exact h h2
theorem dec_bad {l : List UInt8} {i : Nat} (hi : i < l.length) (h : atN l i < 48 ∨ 57 < atN l i) : Lib.decFrom 0 l = none := by
  cases hd : Lib.decFrom 0 l with
  | none => rfl
  | some n =>
    exfalso
    have hm : atB l i ∈ l := by
      have := atB_get hi
      rw [List.getElem?_eq_getElem hi] at this
      rw [← Option.some.inj this]
      exact List.getElem_mem hi
    have := decFrom_dig hd _ hm
    unfold atN at h
    omega
theorem dec_step {l : List UInt8} {i : Nat} {n : Int} (hd : Lib.decFrom 0 (l.take i) = some n.toNat) (h0 : 0 ≤ n) (hi : i < l.length) (h1 : 48 ≤ atN l i) (h2 : atN l i ≤ 57) : Lib.decFrom 0 (l.take (i + 1)) = some (10 * n + (atN l i - 48)).toNat := by
  have hx : 48 ≤ (atB l i).toNat ∧ (atB l i).toNat ≤ 57 := by unfold atN at h1 h2; omega
  rw [Lib.decFrom_take l i 0 n.toNat (atB l i) _ hd (atB_get hi) (digitVal_of hx)]
  congr 1
  unfold atN
  omega
theorem dec_small {l : List UInt8} {i : Nat} {n : Nat} (hd : Lib.decFrom 0 (l.take i) = some n) (hl : l.length ≤ 9) : n < 1000000000 := by
  have h := Lib.decFrom_lt _ 0 n hd
  have h2 : (l.take i).length ≤ 9 := by rw [List.length_take]; omega
  have h3 : 10 ^ (l.take i).length ≤ 10 ^ 9 := Nat.pow_le_pow_right (by decide) h2
  have e : (10 : Nat) ^ 9 = 1000000000 := by decide
  omega
theorem num_val {l : List UInt8} {n : Int} (h0 : 0 ≤ n) (h : numL l = Lib.decFrom 0 l) (hd : Lib.decFrom 0 (l.take l.length) = some n.toNat) : n = numV l ∧ true = numO l := by
  rw [List.take_length] at hd
  unfold numV numO
  rw [h, hd]
  refine ⟨?_, rfl⟩
  show n = ((n.toNat : Nat) : Int)
  omega

--# parse
/-- Whether a word is read as a number by ParseInt, and which. -/
def okT (l : List UInt8) : Bool := match Lib.parseIntB 64 l with | .ok _ => true | _ => false
def piV (l : List UInt8) : Int := match Lib.parseIntB 64 l with | .ok v => v | _ => 0
theorem okT_t {l : List UInt8} (h : okT l = true) : Lib.parseIntB 64 l = .ok (piV l) := by
  unfold okT at h
  unfold piV
  cases hp : Lib.parseIntB 64 l <;> rw [hp] at h <;> first | rfl | cases h
theorem okT_f {l : List UInt8} (h : okT l = false) : ∀ v, Lib.parseIntB 64 l ≠ .ok v := by
  intro v hv
  unfold okT at h
  rw [hv] at h
  cases h
theorem par_n {l : List UInt8} {lo hi : Int} (h : okT l = false) : parO l lo hi = false := parO_n (okT_f h)
theorem par_v {l : List UInt8} {lo hi : Int} (h0 : 0 ≤ lo) (h9 : hi ≤ 999999999) (h : okT l = true) : parO l lo hi = (inB (piV l) lo hi && decide (Lib.itoa (piV l) = l)) := parO_v h0 h9 (okT_t h)
theorem par_val {l : List UInt8} {lo hi : Int} (h : okT l = true) (hp : parO l lo hi = true) : piV l = numV l := parO_val (okT_t h) hp
/-- Behind a call of parse. -/
def ParR (w : World) (l : List UInt8) (lo hi : Int) (e : Ending) (w' : World) : Prop := ∃ n : Int, e = .returned (.tuple #[.int .i64 n, .bool (parO l lo hi)]) ∧ (parO l lo hi = true → n = numV l) ∧ Ext w w'
section
variable {P : Program} {ops : Array Oper} {Q : Exit → Act → World → Prop} {rest : List Oper} {op : Oper} {a : Act} {w : World} {f : FuncId} {args : Array Value} {l : List UInt8} {lo hi : Int}
theorem wpar (hc : Calls P f args w (ParR w l lo hi)) (k : ∀ (n : Int) w', (parO l lo hi = true → n = numV l) → Ext w w' → wpList P ops Q rest (putL a op.dst (.tuple #[.int .i64 n, .bool (parO l lo hi)])) w')
    (hw : Region.wanted op (yielded ops a.tmps) = true := by kernel_rfl) (he : (execOp (evalL a) op).run P w = .ok (.enter f args) w := by kernel_rfl) : wpList P ops Q (op :: rest) a w :=
  wpl_callx (S := fun v w' => ∃ n : Int, v = .tuple #[.int .i64 n, .bool (parO l lo hi)] ∧ (parO l lo hi = true → n = numV l) ∧ Ext w w') f args rfl hw he hc
    (fun e w' ⟨u, h1, h2⟩ => ⟨_, h1, u, rfl, h2⟩) (fun v w' ⟨u, h1, h2, h3⟩ => by rw [h1]; exact k u w' h2 h3)
end
end Go.Proofs.YteiplklloajjaaaGreatDoor
