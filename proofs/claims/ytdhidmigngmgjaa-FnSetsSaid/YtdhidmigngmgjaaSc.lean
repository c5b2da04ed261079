/-
  Choices drawn from bytes; what the fewest shifts are. No conditions.
-/
import Derived.Test.YtdhidmigngmgjaaMth3
import Derived.Test.YtdhidmigngmgjaaSl
namespace Go.Proofs.Ytdhidmigngmgjaa
open Go.RowKit
set_option linter.unusedSimpArgs false
set_option linter.unusedVariables false

--# maxI
def maxI (x y : Int) : Int := if y > x then y else x
theorem maxI_b (x y : Int) : x ≤ maxI x y ∧ y ≤ maxI x y ∧ (maxI x y = x ∨ maxI x y = y) := by unfold maxI; split <;> omega
attribute [irreducible] maxI
theorem maxI_eq (x y : Int) : (if y > x then y else x) = maxI x y := by unfold maxI; rfl

--# source
section
variable {xs : List Int} {j n : Nat} {e : Int}
/-- The byte at j, 0 behind the end. -/
def srB (xs : List Int) (j : Nat) : Int := if j < xs.length then atI xs j else 0
def srN (xs : List Int) (j : Nat) (e : Int) : Int := IntKind.u64.wrap (IntKind.u64.wrap (IntKind.u64.wrap (e * 6364136223846793005) + srB xs j) + 1442695040888963407)
def srV (xs : List Int) (j : Nat) (e : Int) : Int := if j + 1 ≤ xs.length then srB xs j else bits BinOp.and IntKind.u64 (srN xs j e / 2 ^ (40 : Int).toNat) 255
theorem srB_1 (h : j < xs.length) : srB xs j = atI xs j := if_pos h
theorem srB_2 (h : ¬ j < xs.length) : srB xs j = 0 := if_neg h
theorem srV_1 (h : j + 1 ≤ xs.length) : srV xs j e = srB xs j := if_pos h
theorem srV_2 (h : ¬ j + 1 ≤ xs.length) : srV xs j e = bits BinOp.and IntKind.u64 (srN xs j e / 2 ^ (40 : Int).toNat) 255 := if_neg h
theorem u64w (x : Int) : 0 ≤ IntKind.u64.wrap x ∧ IntKind.u64.wrap x ≤ 18446744073709551615 := by
  simp only [IntKind.wrap]
  have h1 := Int.emod_nonneg x (show (18446744073709551616 : Int) ≠ 0 by omega)
  have h2 := Int.emod_lt_of_pos x (show (0 : Int) < 18446744073709551616 by omega)
  have e : ((2 : Int) ^ IntKind.u64.bits) = 18446744073709551616 := by decide
  simp [e, IntKind.signed] <;> omega
theorem and255 {x : Int} (h : 0 ≤ x ∧ x ≤ 18446744073709551615) : 0 ≤ bits BinOp.and IntKind.u64 x 255 ∧ bits BinOp.and IntKind.u64 x 255 ≤ 255 := by
  obtain ⟨X, rfl⟩ := Int.eq_ofNat_of_zero_le h.1
  have e := u64_and_nat X 255 (by omega) (by omega)
  rw [show ((255 : Nat) : Int) = 255 from rfl] at e
  rw [e]
  have := Nat.and_le_right (n := X) (m := 255)
  omega
theorem srN_w : 0 ≤ srN xs j e ∧ srN xs j e ≤ 18446744073709551615 := u64w _
theorem div40 {x : Int} (h : 0 ≤ x ∧ x ≤ 18446744073709551615) : 0 ≤ x / 2 ^ (40 : Int).toNat ∧ x / 2 ^ (40 : Int).toNat ≤ 18446744073709551615 := by
  rw [show (2 : Int) ^ (40 : Int).toNat = 1099511627776 from rfl]
  omega
theorem srN_40 : 0 ≤ srN xs j e / 2 ^ (40 : Int).toNat ∧ srN xs j e / 2 ^ (40 : Int).toNat ≤ 18446744073709551615 := div40 srN_w
theorem raw40 (x : Int) : 0 ≤ bits BinOp.and IntKind.u64 (IntKind.u64.wrap x / 2 ^ (40 : Int).toNat) 255 ∧ bits BinOp.and IntKind.u64 (IntKind.u64.wrap x / 2 ^ (40 : Int).toNat) 255 ≤ 255 := and255 (div40 (u64w x))
theorem srB_in (hb : ∀ i, i < xs.length → 0 ≤ atI xs i ∧ atI xs i ≤ 255) : 0 ≤ srB xs j ∧ srB xs j ≤ 255 := by
  unfold srB
  split
  · next h => exact hb j h
  · omega
theorem srV_in (hb : ∀ i, i < xs.length → 0 ≤ atI xs i ∧ atI xs i ≤ 255) : 0 ≤ srV xs j e ∧ srV xs j e ≤ 255 := by
  unfold srV
  split
  · exact srB_in hb
  · exact and255 srN_40
/-- The seed behind j draws. -/
def sdN (xs : List Int) : Nat → Int
  | 0 => 0
  | j + 1 => srN xs j (sdN xs j)
theorem sdN_0 : sdN xs 0 = 0 := rfl
theorem sdN_s : sdN xs (j + 1) = srN xs j (sdN xs j) := rfl
/-- The draw j, below m. -/
def drN (xs : List Int) (j : Nat) (m : Int) : Int := srV xs j (sdN xs j) % m
theorem drN_in {m : Int} (hm : 0 < m) : 0 ≤ drN xs j m ∧ drN xs j m < m := ⟨Int.emod_nonneg _ (by omega), Int.emod_lt_of_pos _ hm⟩
/-- The draws of a list. -/
def ndN (xs : List Int) : Nat → List Int
  | 0 => []
  | i + 1 => ndN xs i ++ [drN xs (i + 1) 5]
theorem ndN_0 : ndN xs 0 = [] := rfl
theorem ndN_s (i : Nat) : ndN xs i ++ [drN xs (i + 1) 5] = ndN xs (i + 1) := rfl
theorem ndN_length (i : Nat) : (ndN xs i).length = i := by
  induction i with
  | zero => rfl
  | succ i ih => rw [ndN, List.length_append, ih]; rfl
def ndL (xs : List Int) : List Int := ndN xs (drN xs 0 12).toNat
theorem ndL_length : (ndL xs).length ≤ 11 := by
  have := drN_in (xs := xs) (j := 0) (m := 12) (by omega)
  unfold ndL
  rw [ndN_length]
  omega
theorem ndN_in (i : Nat) : ∀ x ∈ ndN xs i, 0 ≤ x ∧ x ≤ 4 := by
  induction i with
  | zero => intro x h; cases h
  | succ i ih =>
    intro x h
    rw [ndN, List.mem_append, List.mem_singleton] at h
    rcases h with h | rfl
    · exact ih x h
    · have := drN_in (xs := xs) (j := i + 1) (m := 5) (by omega)
      omega
theorem ndL_in (i : Nat) (hi : i < (ndL xs).length) : 0 ≤ atI (ndL xs) i ∧ atI (ndL xs) i ≤ 4 := ndN_in _ _ (atI_mem hi)
end
theorem ndN_t {xs : List Int} (i : Nat) : ndN xs i ++ [srV xs (i + 1) (sdN xs (i + 1)) % 5] = ndN xs (i + 1) := rfl
theorem drN_0 {xs : List Int} {m : Int} : drN xs 0 m = srV xs 0 0 % m := rfl
attribute [irreducible] srN srV srB sdN ndN ndL drN

--# retp
/-- What a function returns that makes a block. -/
def RetP (w : World) (t : TypeId) (cs : Array Value) (e : Ending) (w' : World) : Prop := ∃ g, e = .returned (.pointer (some ⟨g, 0, none⟩)) ∧ Blk w' g t cs ∧ Ext w w' ∧ w.heap.size ≤ g
section
variable {P : Program} {ops : Array Oper} {Q : Exit → Act → World → Prop} {rest : List Oper} {o : Oper} {a : Act} {w : World}
theorem wclp {f : FuncId} {args : Array Value} {t : TypeId} {cs : Array Value} (hc : Calls P f args w (RetP w t cs))
    (k : ∀ g w', Blk w' g t cs → Ext w w' → w.heap.size ≤ g → wpList P ops Q rest (putL a o.dst (.pointer (some ⟨g, 0, none⟩))) w')
    (hw : Region.wanted o (yielded ops a.tmps) = true := by kernel_rfl) (he : (execOp (evalL a) o).run P w = .ok (.enter f args) w := by kernel_rfl) : wpList P ops Q (o :: rest) a w :=
  wpl_callx (S := fun u w' => ∃ g, u = .pointer (some ⟨g, 0, none⟩) ∧ Blk w' g t cs ∧ Ext w w' ∧ w.heap.size ≤ g) f args rfl hw he hc
    (fun e w' ⟨g, he, h1, h2, h3⟩ => ⟨_, he, g, rfl, h1, h2, h3⟩) (fun u w' ⟨g, hv, h1, h2, h3⟩ => by rw [hv]; exact k g w' h1 h2 h3)
end

--# count
section
variable {need starts D E : List Int} {len h v M : Int} {n m k i : Nat}
/-- How many of a list work at an hour. -/
def ctL (D : List Int) (len h : Int) : Nat := D.countP (fun s => inB h s (s + len - 1))
theorem cnt_take (D : List Int) (len h : Int) : ∀ n, n ≤ D.length → cntL D len h n = ((D.take n).countP (fun s => inB h s (s + len - 1)) : Nat)
  | 0, _ => by rw [cntL_0]; simp
  | n + 1, hn => by
    rw [take_succ (show n < D.length by omega), List.countP_append, List.countP_singleton]
    have ih := cnt_take D len h n (by omega)
    cases hb : inB h (atI D n) (atI D n + len - 1) with
    | true => rw [cntL_1 (inT hb), ih, if_pos rfl]; omega
    | false =>
      rw [cntL_2 (fun hk => by unfold inB at hb; rw [decide_eq_true hk.1, decide_eq_true hk.2] at hb; exact absurd hb (by decide)), ih, if_neg (by decide)]
      omega
theorem wk_ct : wkL D len h = (ctL D len h : Nat) := by
  unfold wkL ctL
  rw [cnt_take D len h _ (Nat.le_refl _), List.take_length]
theorem ct_app : ctL (D ++ E) len h = ctL D len h + ctL E len h := by unfold ctL; rw [List.countP_append]
theorem ct_rep (hb : inB h v (v + len - 1) = true) : ctL (List.replicate n v) len h = n := by unfold ctL; rw [List.countP_replicate, if_pos hb]
theorem ct_rep0 (hb : inB h v (v + len - 1) = false) : ctL (List.replicate n v) len h = 0 := by unfold ctL; rw [List.countP_replicate, if_neg (by rw [hb]; decide)]
theorem ct_0 (hE : ∀ s ∈ E, h < s) : ctL E len h = 0 := by
  unfold ctL
  rw [List.countP_eq_zero]
  intro s hs hb
  have := inT hb
  have := hE s hs
  omega
theorem ct_all (hE : ∀ s ∈ E, s ≤ h ∧ h ≤ s + len - 1) : ctL E len h = E.length := by
  unfold ctL
  rw [List.countP_eq_length]
  intro s hs
  have := hE s hs
  unfold inB
  rw [decide_eq_true this.1, decide_eq_true this.2]
  rfl
theorem few_succ (n : Nat) : fewN need len (n + 1) = fewN need len n ++ List.replicate (misL need len (fewN need len n) n).toNat (n : Int) := by rw [fewN.eq_2]
/-- Later hours only add starts at those hours. -/
theorem few_split : ∀ m, n ≤ m → ∃ E, fewN need len m = fewN need len n ++ E ∧ ∀ s ∈ E, (n : Int) ≤ s ∧ s < (m : Int)
  | 0, h => ⟨[], by rw [show n = 0 by omega]; simp, fun s hs => by cases hs⟩
  | m + 1, h => by
    by_cases hm : n ≤ m
    · obtain ⟨E, h1, h2⟩ := few_split m hm
      refine ⟨E ++ List.replicate (misL need len (fewN need len m) m).toNat (m : Int), ?_, fun s hs => ?_⟩
      · rw [← List.append_assoc, ← h1, few_succ]
      · rcases List.mem_append.1 hs with hs | hs
        · have := h2 s hs; omega
        · have := (List.mem_replicate.1 hs).2; omega
    · exact ⟨[], by rw [show n = m + 1 by omega]; simp, fun s hs => by cases hs⟩
theorem mis_eq : misL need len D n = atI need n - (ctL D len n : Nat) := by unfold misL; rw [wk_ct]
theorem ct_succ (hl : 1 ≤ len) (n : Nat) : ctL (fewN need len (n + 1)) len n = ctL (fewN need len n) len n + (misL need len (fewN need len n) n).toNat := by
  rw [few_succ, ct_app, ct_rep (by unfold inB; rw [decide_eq_true (by omega), decide_eq_true (by omega)]; rfl)]
theorem ct_few (hl : 1 ≤ len) (hn : n < m) : ctL (fewN need len m) len n = ctL (fewN need len n) len n + (misL need len (fewN need len n) n).toNat := by
  obtain ⟨E, h1, h2⟩ := few_split (need := need) (len := len) (n := n + 1) m (by omega)
  rw [h1, ct_app, ct_0 (E := E) (fun s hs => by have := h2 s hs; omega), ct_succ hl, Nat.add_zero]
theorem few_fine (hl : 1 ≤ len) (hn : n < need.length) : misL need len (fewL need len) n ≤ 0 := by
  have e := ct_few (need := need) (len := len) hl (n := n) (m := need.length) hn
  have e2 := mis_eq (need := need) (len := len) (D := fewN need len n) (n := n)
  have e3 := mis_eq (need := need) (len := len) (D := fewL need len) (n := n)
  unfold fewL at e3 ⊢
  omega
theorem few_sIdx (hl : 1 ≤ len) : sIdx need len (fewL need len) = -1 := sIdx_none (fun j hj => decide_eq_false (by have := few_fine (need := need) hl hj; omega))
/-- The fewest shifts are no fewer than any need. -/
theorem few_least (hl : 1 ≤ len) (hn : n < need.length) : atI need n ≤ ((fewL need len).length : Int) := by
  have h1 := few_fine (need := need) (len := len) hl hn
  rw [mis_eq] at h1
  have h2 : ctL (fewL need len) len n ≤ (fewL need len).length := List.countP_le_length
  omega
/-- In an interval of hours no more shifts begin than the greatest need in it. -/
theorem few_block (hl : 1 ≤ len) (hM : 0 ≤ M) : ∀ m, k ≤ m → (m : Int) ≤ k + len → (∀ j, k ≤ j → j < m → atI need j ≤ M) → ((fewN need len m).length : Int) ≤ (fewN need len k).length + M
  | 0, h1, _, _ => by rw [show k = 0 by omega]; omega
  | m + 1, h1, h2, h3 => by
    by_cases hk : k ≤ m
    · have ih := few_block hl hM m hk (by omega) (fun j hj hj2 => h3 j hj (by omega))
      obtain ⟨E, e1, e2⟩ := few_split (need := need) (len := len) (n := k) m hk
      have e3 := mis_eq (need := need) (len := len) (D := fewN need len m) (n := m)
      have e4 : ctL (fewN need len m) len m = ctL (fewN need len k) len m + E.length := by
        rw [e1, ct_app, ct_all (E := E) (fun s hs => by have := e2 s hs; omega)]
      have e5 : (fewN need len m).length = (fewN need len k).length + E.length := by rw [e1, List.length_append]
      have e6 := h3 m hk (by omega)
      rw [few_succ, List.length_append, List.length_replicate]
      omega
    · rw [show k = m + 1 by omega]; omega
/-- Without one shift: the list. -/
def lsL (D : List Int) (i : Nat) : List Int := D.take i ++ D.drop (i + 1)
theorem ls_split (hi : i < D.length) : D = D.take i ++ (atI D i :: D.drop (i + 1)) := by
  have e : atI D i = D[i] := by unfold atI; simp [List.getD, List.getElem?_eq_getElem hi]
  rw [e, List.getElem_cons_drop, List.take_append_drop]
theorem ct_ls (hi : i < D.length) : ctL D len h = ctL (lsL D i) len h + if inB h (atI D i) (atI D i + len - 1) = true then 1 else 0 := by
  have e : ctL D len h = ctL (D.take i ++ (atI D i :: D.drop (i + 1))) len h := by rw [← ls_split hi]
  rw [e]
  unfold lsL ctL
  rw [List.countP_append, List.countP_append, List.countP_cons]
  omega
theorem few_val (hi : i < (fewN need len m).length) : ∃ h, h < m ∧ atI (fewN need len m) i = (h : Int) ∧ 0 < misL need len (fewN need len h) h := by
  have key : ∀ m, ∀ x ∈ fewN need len m, ∃ h : Nat, h < m ∧ x = (h : Int) ∧ 0 < misL need len (fewN need len h) h := by
    intro m
    induction m with
    | zero => intro x hx; rw [fewN_0] at hx; cases hx
    | succ m ih =>
      intro x hx
      rw [few_succ] at hx
      rcases List.mem_append.1 hx with hx | hx
      · obtain ⟨h, h1, h2, h3⟩ := ih x hx
        exact ⟨h, by omega, h2, h3⟩
      · have h1 := List.mem_replicate.1 hx
        exact ⟨m, by omega, h1.2, by omega⟩
  exact key m _ (atI_mem hi)
theorem ls_mis (hl : 1 ≤ len) (hi : i < (fewL need len).length) : ∃ h : Nat, h < need.length ∧ atI (fewL need len) i = (h : Int) ∧ sIdx need len (lsL (fewL need len) i) = (h : Int) ∧ misL need len (lsL (fewL need len) i) h = 1 := by
  obtain ⟨h, h1, h2, h3⟩ := few_val (need := need) (len := len) (m := need.length) (i := i) hi
  have h2 : atI (fewL need len) i = (h : Int) := h2
  have hm : misL need len (lsL (fewL need len) i) h = 1 := by
    have e1 := ct_few (need := need) (len := len) hl (n := h) (m := need.length) h1
    have e2 := mis_eq (need := need) (len := len) (D := fewN need len h) (n := h)
    have e3 := mis_eq (need := need) (len := len) (D := lsL (fewL need len) i) (n := h)
    have e4 := ct_ls (D := fewL need len) (len := len) (h := (h : Int)) hi
    rw [h2, if_pos (by unfold inB; rw [decide_eq_true (by omega), decide_eq_true (by omega)]; rfl)] at e4
    have e5 : ctL (fewL need len) len h = ctL (fewN need len need.length) len h := rfl
    omega
  refine ⟨h, h1, h2, ?_, hm⟩
  refine sIdx_at h h1 (fun j hj => decide_eq_false ?_) (by omega)
  have e1 := few_fine (need := need) (len := len) hl (n := j) (by omega)
  have e3 := mis_eq (need := need) (len := len) (D := lsL (fewL need len) i) (n := j)
  have e6 := mis_eq (need := need) (len := len) (D := fewL need len) (n := j)
  have e4 := ct_ls (D := fewL need len) (len := len) (h := (j : Int)) hi
  rw [h2, if_neg (fun hb => by have := inT hb; omega)] at e4
  omega
end

--# sums
section
variable {need : List Int} {len : Int}
/-- How many shifts begin before an hour. -/
def gN (need : List Int) (len : Int) (k : Nat) : Int := ((fewN need len (min k need.length)).length : Int)
theorem gN_0 : gN need len 0 ≤ 0 := by unfold gN; rw [Nat.zero_min, fewN_0]; exact Int.le_refl _
theorem gN_end {k : Nat} (h : need.length ≤ k) : gN need len k = ((fewL need len).length : Int) := by unfold gN fewL; rw [Nat.min_eq_right h]
theorem gN_s {k m l : Nat} {M sum : Int} (hl : 1 ≤ l) (hM : 0 ≤ M) (hk : k < need.length) (h : gN need (l : Int) k ≤ sum) (h1 : k ≤ m) (h2 : m ≤ k + l) (h3 : m ≤ need.length) (h4 : ¬ (m : Int) < (k : Int) + (l : Int) ∨ ¬ (m : Int) < need.length) (hj : ∀ j, k ≤ j → j < m → atI need j ≤ M) : gN need (l : Int) (k + l) ≤ sum + M := by
  have hb := few_block (need := need) (len := (l : Int)) (M := M) (k := k) (by omega) hM m h1 (by omega) hj
  unfold gN at h ⊢
  rw [Nat.min_eq_left (by omega)] at h
  rw [show min (k + l) need.length = m by omega]
  omega
end

--# said
section
variable {need : List Int} {len : Int} {i : Nat}
/-- Needs as they are drawn. -/
def ndOk (need : List Int) (len : Int) : Prop := need.length ≤ 11 ∧ (∀ j, j < need.length → 0 ≤ atI need j ∧ atI need j ≤ 4) ∧ 1 ≤ len ∧ len ≤ 4
theorem ck_sh (hk : ndOk need len) {starts : List Int} (hs : ∀ j, j < starts.length → 0 ≤ atI starts j ∧ atI starts j ≤ (need.length : Int) - 1) : shB need len starts = true := by
  obtain ⟨h1, h2, h3, h4⟩ := hk
  unfold shB
  have e1 : inB len 1 48 = true := by unfold inB; rw [decide_eq_true (by omega), decide_eq_true (by omega)]; rfl
  have e2 : inL need 0 20 = true := by
    unfold inL inLN
    exact allB_true (fun j hj => by have := h2 j hj; unfold inB; rw [decide_eq_true (by omega), decide_eq_true (by omega)]; rfl)
  have e3 : inL starts 0 ((need.length : Int) - 1) = true := by
    unfold inL inLN
    exact allB_true (fun j hj => by have := hs j hj; unfold inB; rw [decide_eq_true (by omega), decide_eq_true (by omega)]; rfl)
  rw [e1, e2, e3, decide_eq_true (by omega)]
  rfl
theorem ck_nil (hk : ndOk need len) : shC need len [] = 0 := shC_t (ck_sh hk (fun j hj => by simp at hj))
theorem ck_few (hk : ndOk need len) : shB need len (fewL need len) = true := ck_sh hk (fun j hj => by
  obtain ⟨h, h1, h2, _⟩ := few_val (need := need) (len := len) (m := need.length) (i := j) hj
  have h2 : atI (fewL need len) j = (h : Int) := h2
  omega)
theorem ck_1 (hk : ndOk need len) : shC need len (fewL need len) = 0 := shC_t (ck_few hk)
theorem ck_2 (hk : ndOk need len) : ck0 need len (fewL need len) = true := by rw [ck0_t (ck_few hk), few_sIdx hk.2.2.1]; rfl
theorem ck_3 (hk : ndOk need len) : fs2 need len (fewL need len) = 6 := by unfold fs2; rw [if_pos (ck_few hk), few_sIdx hk.2.2.1, if_pos (by omega)]
theorem ls_in (hk : ndOk need len) (hi : i < (fewL need len).length) : shB need len (lsL (fewL need len) i) = true := ck_sh hk (fun j hj => by
  have hm : ∀ x ∈ lsL (fewL need len) i, 0 ≤ x ∧ x ≤ (need.length : Int) - 1 := fun x hx => by
    have hx2 : x ∈ fewL need len := by
      unfold lsL at hx
      rcases List.mem_append.1 hx with h | h
      · exact List.mem_of_mem_take h
      · exact List.mem_of_mem_drop h
    obtain ⟨j2, hj2⟩ := List.getElem?_of_mem hx2
    have hl2 : j2 < (fewL need len).length := (List.getElem?_eq_some_iff.1 hj2).1
    obtain ⟨h, h1, h2, _⟩ := few_val (need := need) (len := len) (m := need.length) (i := j2) hl2
    have h2 : atI (fewL need len) j2 = (h : Int) := h2
    rw [atI_of hj2] at h2
    omega
  exact hm _ (atI_mem hj))
theorem ls_1 (hk : ndOk need len) (hi : i < (fewL need len).length) : shC need len (lsL (fewL need len) i) = 0 := shC_t (ls_in hk hi)
theorem ls_2 (hk : ndOk need len) (hi : i < (fewL need len).length) : ck0 need len (lsL (fewL need len) i) = false := by
  obtain ⟨h, h1, h2, h3, h4⟩ := ls_mis (need := need) hk.2.2.1 hi
  rw [ck0_t (ls_in hk hi), h3]
  exact decide_eq_false (by omega)
theorem ls_3 (hk : ndOk need len) (hi : i < (fewL need len).length) : fs2 need len (lsL (fewL need len) i) = 0 := by
  obtain ⟨h, h1, h2, h3, h4⟩ := ls_mis (need := need) hk.2.2.1 hi
  unfold fs2
  rw [if_pos (ls_in hk hi), h3, if_neg (by omega)]
theorem ls_4 (hk : ndOk need len) (hi : i < (fewL need len).length) : fs1 need len (lsL (fewL need len) i) = 1 := by
  obtain ⟨h, h1, h2, h3, h4⟩ := ls_mis (need := need) hk.2.2.1 hi
  unfold fs1 sMis
  rw [if_pos (ls_in hk hi), h3, if_neg (by omega), Int.toNat_natCast, h4]
theorem ls_5 (hk : ndOk need len) (hi : i < (fewL need len).length) : fs0 need len (lsL (fewL need len) i) = atI (fewL need len) i := by
  obtain ⟨h, h1, h2, h3, h4⟩ := ls_mis (need := need) hk.2.2.1 hi
  unfold fs0
  rw [if_pos (ls_in hk hi), h3, if_neg (by omega), h2]
end
end Go.Proofs.Ytdhidmigngmgjaa
