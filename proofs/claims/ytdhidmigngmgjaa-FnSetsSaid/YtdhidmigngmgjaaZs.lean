/-
  Sets: numbers of cells, equal sets, the first cell of a set, rings, neighbours, kinds. No conditions.
-/
import Derived.Test.YtdhidmigngmgjaaBt
namespace Go.Proofs.Ytdhidmigngmgjaa
open Go.RowKit
set_option linter.unusedSimpArgs false
set_option linter.unusedVariables false

--# numbers
def lenP (p : Nat → Bool) (n : Nat) : Nat := (pickL p n).length
theorem lenP_0 (p : Nat → Bool) : lenP p 0 = 0 := rfl
theorem lenP_s (p : Nat → Bool) (n : Nat) : lenP p (n + 1) = lenP p n + (if p n = true then 1 else 0) := by
  unfold lenP
  cases h : p n with
  | true => rw [pickL_1 h, List.length_append]; rfl
  | false => rw [pickL_2 h]; rfl
theorem lenP_cong {p q : Nat → Bool} : ∀ n, (∀ i, i < n → p i = q i) → lenP p n = lenP q n
  | 0, _ => rfl
  | n + 1, h => by rw [lenP_s, lenP_s, lenP_cong n (fun i hi => h i (by omega)), h n (by omega)]
theorem lenP_cut {p q : Nat → Bool} : ∀ n, lenP p n = lenP (fun i => p i && q i) n + lenP (fun i => p i && !q i) n
  | 0 => rfl
  | n + 1 => by
    rw [lenP_s, lenP_s, lenP_s, lenP_cut (p := p) (q := q) n]
    cases p n <;> cases q n <;> simp <;> omega
theorem lenP_or {p q : Nat → Bool} : ∀ n, lenP (fun i => p i || q i) n = lenP (fun i => p i && !q i) n + lenP q n
  | 0 => rfl
  | n + 1 => by
    rw [lenP_s, lenP_s, lenP_s, lenP_or (p := p) (q := q) n]
    cases p n <;> cases q n <;> simp <;> omega
theorem lenP_4 {p : Nat → Bool} {k : Nat → Int} : ∀ n, (∀ i, i < n → p i = true → 0 ≤ k i ∧ k i ≤ 3) →
    lenP (fun i => p i && (k i == 0)) n + lenP (fun i => p i && (k i == 1)) n + lenP (fun i => p i && (k i == 2)) n + lenP (fun i => p i && (k i == 3)) n = lenP p n
  | 0, _ => rfl
  | n + 1, h => by
    have ih := lenP_4 n (fun i hi => h i (by omega))
    rw [lenP_s, lenP_s, lenP_s, lenP_s, lenP_s]
    cases hp : p n with
    | false => simp; omega
    | true =>
      rcases (by have := h n (by omega) hp; omega : k n = 0 ∨ k n = 1 ∨ k n = 2 ∨ k n = 3) with e | e | e | e <;> rw [e] <;> simp <;> omega
theorem listL_lenP (x y : Int) : (listL x y).length = lenP (fun i => hasB x y (i : Int)) 100 := by
  unfold listL listN lenP
  rfl
section
variable {x y x2 y2 : Int}
theorem cnt_bo (hx : wrd x) (hy : wrd y) (hx2 : wrd x2) (hy2 : wrd y2) : (listL x y).length = (listL (bo0 x x2) (bo1 y y2)).length + (listL (wo0 x x2) (wo1 y y2)).length := by
  rw [listL_lenP, listL_lenP, listL_lenP, lenP_cut (q := fun i => hasB x2 y2 (i : Int)), lenP_cong (p := fun i => hasB (bo0 x x2) (bo1 y y2) (i : Int)) 100 (fun i _ => hasB_bo hx hy hx2 hy2 i), lenP_cong (p := fun i => hasB (wo0 x x2) (wo1 y y2) (i : Int)) 100 (fun i _ => hasB_wo hx hy hx2 hy2 i)]
theorem cnt_un (hx : wrd x) (hy : wrd y) (hx2 : wrd x2) (hy2 : wrd y2) : (listL (un0 x x2) (un1 y y2)).length = (listL (wo0 x x2) (wo1 y y2)).length + (listL x2 y2).length := by
  rw [listL_lenP, listL_lenP, listL_lenP, lenP_cong (p := fun i => hasB (un0 x x2) (un1 y y2) (i : Int)) 100 (fun i _ => hasB_un hx hy hx2 hy2 i), lenP_or, lenP_cong (p := fun i => hasB (wo0 x x2) (wo1 y y2) (i : Int)) 100 (fun i _ => hasB_wo hx hy hx2 hy2 i)]
end

--# equal sets
theorem okP_ext {s t : Int × Int} (hs : okP s) (ht : okP t) (h : ∀ d : Nat, d < 100 → hasB s.1 s.2 (d : Int) = hasB t.1 t.2 (d : Int)) : s = t := by
  obtain ⟨X, Y, rfl, h1, h2⟩ := okP_nat hs
  obtain ⟨X', Y', rfl, h3, h4⟩ := okP_nat ht
  have hl : (68719476736 : Nat) < 18446744073709551616 := by decide
  have e36 : (2 : Nat) ^ 36 = 68719476736 := by decide
  have e64 : (2 : Nat) ^ 64 = 18446744073709551616 := by decide
  have eX : X = X' := by
    apply Nat.eq_of_testBit_eq
    intro c
    by_cases hc : c < 64
    · have := h c (by omega)
      simp only at this
      rw [hasB_nat h1 (by omega), hasB_nat h3 (by omega), if_pos hc, if_pos hc] at this
      exact this
    · rw [Nat.testBit_lt_two_pow (Nat.lt_of_lt_of_le h1 (by rw [← e64]; exact Nat.pow_le_pow_right (by decide) (by omega))), Nat.testBit_lt_two_pow (Nat.lt_of_lt_of_le h3 (by rw [← e64]; exact Nat.pow_le_pow_right (by decide) (by omega)))]
  have eY : Y = Y' := by
    apply Nat.eq_of_testBit_eq
    intro c
    by_cases hc : c < 36
    · have := h (c + 64) (by omega)
      simp only at this
      rw [hasB_nat h1 (by omega), hasB_nat h3 (by omega), if_neg (by omega), if_neg (by omega), decide_eq_true (by omega), Bool.true_and, Bool.true_and, Nat.add_sub_cancel] at this
      exact this
    · have hp : (2 : Nat) ^ 36 ≤ 2 ^ c := Nat.pow_le_pow_right (by decide) (by omega)
      rw [Nat.testBit_lt_two_pow (Nat.lt_of_lt_of_le (by rw [e36]; exact h2) hp), Nat.testBit_lt_two_pow (Nat.lt_of_lt_of_le (by rw [e36]; exact h4) hp)]
  rw [eX, eY]

--# the first cell
/-- The first cell of a set that comes before the others. -/
structure Fst (F : Fld) (x y : Int) (bf : Int → Int → Bool) (n : Nat) (b : Int) : Prop where
  no : b < 0 → b = -1 ∧ ∀ d : Nat, d < n → isB F (d : Int) = true → hasB x y (d : Int) = false
  yes : ¬ b < 0 → isB F b = true ∧ hasB x y b = true ∧ b < n ∧ ∀ d : Nat, d < n → isB F (d : Int) = true → hasB x y (d : Int) = true → bf d b = false ∧ ((d : Int) < b → bf b d = true)
theorem firstC_fst {F : Fld} {x y : Int} {bf : Int → Int → Bool} (ht : ∀ a b c, bf a b = true → bf b c = true → bf a c = true) (hn : ∀ a b c, bf a b = false → bf b c = false → bf a c = false) (ha : ∀ a b, bf a b = true → bf b a = false) (hi : ∀ a, bf a a = false) : ∀ n : Nat, n ≤ 100 → Fst F x y bf n (firstC F x y bf n)
  | 0, _ => by
    rw [← firstC_0]
    exact ⟨fun _ => ⟨rfl, fun d hd => by omega⟩, fun h => absurd (by decide) h⟩
  | n + 1, hn1 => by
    have ih := firstC_fst (F := F) (x := x) (y := y) ht hn ha hi n (by omega)
    generalize hb : firstC F x y bf n = b at ih
    cases hB : isB F (n : Int) with
    | false =>
      rw [← firstC_n hb.symm hB]
      refine ⟨fun h => ⟨(ih.no h).1, fun d hd hd2 => ?_⟩, fun h => ⟨(ih.yes h).1, (ih.yes h).2.1, by have := (ih.yes h).2.2.1; omega, fun d hd hd2 hd3 => ?_⟩⟩
      · by_cases e : d = n
        · subst e; rw [hB] at hd2; cases hd2
        · exact (ih.no h).2 d (by omega) hd2
      · by_cases e : d = n
        · subst e; rw [hB] at hd2; cases hd2
        · exact (ih.yes h).2.2.2 d (by omega) hd2 hd3
    | true =>
      cases hh : hasB x y (n : Int) with
      | false =>
        rw [← firstC_h hb.symm hB hh]
        refine ⟨fun h => ⟨(ih.no h).1, fun d hd hd2 => ?_⟩, fun h => ⟨(ih.yes h).1, (ih.yes h).2.1, by have := (ih.yes h).2.2.1; omega, fun d hd hd2 hd3 => ?_⟩⟩
        · by_cases e : d = n
          · subst e; exact hh
          · exact (ih.no h).2 d (by omega) hd2
        · by_cases e : d = n
          · subst e; rw [hh] at hd3; cases hd3
          · exact (ih.yes h).2.2.2 d (by omega) hd2 hd3
      | true =>
        by_cases h0 : b < 0
        · rw [← firstC_b hb.symm hB hh h0]
          refine ⟨fun h => by omega, fun _ => ⟨hB, hh, by omega, fun d hd hd2 hd3 => ?_⟩⟩
          by_cases e : d = n
          · subst e; exact ⟨hi _, fun h => by omega⟩
          · have := (ih.no h0).2 d (by omega) hd2
            rw [hd3] at this; cases this
        · have iy := ih.yes h0
          cases hf : bf (n : Int) b with
          | true =>
            rw [← firstC_t hb.symm hB hh hf]
            refine ⟨fun h => by omega, fun _ => ⟨hB, hh, by omega, fun d hd hd2 hd3 => ?_⟩⟩
            by_cases e : d = n
            · subst e; exact ⟨hi _, fun h => by omega⟩
            · have hd4 := iy.2.2.2 d (by omega) hd2 hd3
              refine ⟨hn _ _ _ hd4.1 (ha _ _ hf), fun _ => ?_⟩
              cases hc : bf (n : Int) (d : Int) with
              | true => rfl
              | false =>
                have := hn _ _ _ hc hd4.1
                rw [hf] at this; cases this
          | false =>
            rw [← firstC_f hb.symm hB h0 hf]
            refine ⟨fun h => absurd h h0, fun _ => ⟨iy.1, iy.2.1, by have := iy.2.2.1; omega, fun d hd hd2 hd3 => ?_⟩⟩
            by_cases e : d = n
            · subst e; exact ⟨hf, fun h => by have := iy.2.2.1; omega⟩
            · exact iy.2.2.2 d (by omega) hd2 hd3
theorem near_fst (F : Fld) (c x y : Int) : Fst F x y (fun a b => decide (sqr c a < sqr c b)) 100 (nearC F c x y) := by
  rw [nearC_eq]
  refine firstC_fst (fun a b d h1 h2 => ?_) (fun a b d h1 h2 => ?_) (fun a b h => ?_) (fun a => ?_) 100 (Nat.le_refl _) <;> simp only [decide_eq_true_eq, decide_eq_false_iff_not] at * <;> omega
theorem rich_fst (F : Fld) (x y : Int) : Fst F x y (fun a b => decide (F.s b.toNat < F.s a.toNat)) 100 (richC F x y) := by
  rw [richC_eq]
  refine firstC_fst (fun a b d h1 h2 => ?_) (fun a b d h1 h2 => ?_) (fun a b h => ?_) (fun a => ?_) 100 (Nat.le_refl _) <;> simp only [decide_eq_true_eq, decide_eq_false_iff_not] at * <;> omega
/-- Both find a cell, or neither. -/
theorem fst_both {F : Fld} {x y : Int} {f g : Int → Int → Bool} {a b : Int} (h : Fst F x y f 100 a) (k : Fst F x y g 100 b) : (a < 0 ↔ b < 0) := by
  constructor
  · intro ha
    by_cases hb : b < 0
    · exact hb
    · obtain ⟨h1, h2, h3, _⟩ := k.yes hb
      have hr := isB_true.1 h1
      have := (h.no ha).2 b.toNat (by omega) (by rw [show ((b.toNat : Nat) : Int) = b by omega]; exact h1)
      rw [show ((b.toNat : Nat) : Int) = b by omega, h2] at this
      cases this
  · intro hb
    by_cases ha : a < 0
    · exact ha
    · obtain ⟨h1, h2, h3, _⟩ := h.yes ha
      have hr := isB_true.1 h1
      have := (k.no hb).2 a.toNat (by omega) (by rw [show ((a.toNat : Nat) : Int) = a by omega]; exact h1)
      rw [show ((a.toNat : Nat) : Int) = a by omega, h2] at this
      cases this

--# hasN
section
variable {xs : List Int} {c : Int} {n i : Nat}
def hasN (xs : List Int) (c : Int) : Nat → Bool
  | 0 => false
  | n + 1 => hasN xs c n || (atI xs n == c)
theorem hasN_0 : hasN xs c 0 = false := rfl
theorem hasN_iff : ∀ n, hasN xs c n = true ↔ ∃ j, j < n ∧ atI xs j = c
  | 0 => by simp [hasN]
  | n + 1 => by
    rw [hasN, Bool.or_eq_true, hasN_iff n, beq_iff_eq]
    constructor
    · rintro (⟨j, h1, h2⟩ | h)
      · exact ⟨j, by omega, h2⟩
      · exact ⟨n, by omega, h⟩
    · rintro ⟨j, h1, h2⟩
      rcases (by omega : j < n ∨ j = n) with h | h
      · exact .inl ⟨j, h, h2⟩
      · subst h; exact .inr h2
theorem hasN_s (h : hasN xs c i = false) (h2 : (atI xs i == c) = false) : hasN xs c (i + 1) = false := by rw [hasN, h, h2]; rfl
theorem hasN_t (hi : i < n) (h : (atI xs i == c) = true) : hasN xs c n = true := (hasN_iff n).2 ⟨i, hi, beq_iff_eq.1 h⟩
end

--# members
theorem pickL_all {p : Nat → Bool} {n c : Nat} (hc : c < n) (hp : p c = true) : ∃ j, j < (pickL p n).length ∧ atI (pickL p n) j = (c : Int) := by
  induction n with
  | zero => omega
  | succ n ih =>
    by_cases h : c = n
    · subst h
      rw [pickL_1 hp]
      refine ⟨(pickL p c).length, by simp, ?_⟩
      unfold atI
      simp [List.getD]
    · obtain ⟨j, h1, h2⟩ := ih (by omega)
      cases hb : p n with
      | false => rw [pickL_2 hb]; exact ⟨j, h1, h2⟩
      | true =>
        rw [pickL_1 hb]
        refine ⟨j, by simp; omega, ?_⟩
        rw [← h2]
        unfold atI
        simp [List.getD, List.getElem?_append_left h1]
theorem listL_eq (x y : Int) : listL x y = pickL (fun i => hasB x y (i : Int)) 100 := by unfold listL listN; rfl
theorem hasN_list (x y : Int) {d : Int} (hd : 0 ≤ d ∧ d ≤ 99) : hasN (listL x y) d (listL x y).length = hasB x y d := by
  obtain ⟨e, rfl⟩ := Int.eq_ofNat_of_zero_le hd.1
  rw [listL_eq, Bool.eq_iff_iff, hasN_iff]
  constructor
  · rintro ⟨j, h1, h2⟩
    have hm := pickL_mem (p := fun i => hasB x y (i : Int)) (n := 100) (atI_mem h1)
    have h3 : hasB x y ((atI (pickL (fun i => hasB x y (i : Int)) 100) j).toNat : Int) = true := hm.2.2
    rw [h2] at h3
    simpa using h3
  · intro h
    obtain ⟨j, h1, h2⟩ := pickL_all (p := fun i => hasB x y (i : Int)) (n := 100) (c := e) (by omega) h
    exact ⟨j, h1, h2⟩
theorem setL_has {xs : List Int} (h : ∀ j, j < xs.length → 0 ≤ atI xs j ∧ atI xs j ≤ 99) : ∀ n, n ≤ xs.length → okP (setL xs n) ∧ ∀ d : Nat, d < 100 → hasB (setL xs n).1 (setL xs n).2 (d : Int) = hasN xs (d : Int) n
  | 0, _ => by rw [setL_0]; exact ⟨okP0, fun d _ => by rw [hasB_0]; rfl⟩
  | n + 1, hn => by
    obtain ⟨ih, ih2⟩ := setL_has h n (by omega)
    have hr := h n (by omega)
    obtain ⟨e, he⟩ := Int.eq_ofNat_of_zero_le hr.1
    have hl : e < 100 := by omega
    rw [setL_s (by omega), he]
    refine ⟨putS_ok ih hl, fun d hd => ?_⟩
    rw [hasB_put ih hl, ih2 d hd, hasN, he, Bool.or_comm]
    congr 1
    rw [Bool.eq_iff_iff, decide_eq_true_eq, beq_iff_eq]
    omega
theorem allIn_list (x y : Int) : allIn (listL x y) = true := allIn_t fun j hj => by have := listL_in hj; simp [inB]; omega
theorem ofC_list (x y : Int) : ofC (listL x y) = 0 := ofC_t (allIn_list x y)
theorem ofL_list {x y : Int} (h : okP (x, y)) : ofL (listL x y) = (x, y) := by
  rw [ofL_t (i := (listL x y).length) (allIn_list x y) (Nat.le_refl _) (by omega)]
  obtain ⟨h1, h2⟩ := setL_has (xs := listL x y) (fun j hj => listL_in hj) _ (Nat.le_refl _)
  refine okP_ext h1 h fun d hd => ?_
  rw [h2 d hd, hasN_list x y (by omega)]

--# rings
theorem ring_has {F : Fld} {c m : Int} (hk : okB F = true) (hc : isB F c = true) (hm : 0 ≤ m ∧ m ≤ 200) {d : Nat} (hd : d < 100) : hasB (ringS F c m).1 (ringS F c m).2 (d : Int) = (isB F (d : Int) && decide (sqr c (d : Int) ≤ m)) := by
  rw [ringS_t (code_0 hk (by rw [hc]; simp [inB]; omega)), hasB_set d 100 (Nat.le_refl _), decide_eq_true hd, Bool.true_and]
theorem ring_c {F : Fld} {c m : Int} (hk : okB F = true) (hc : isB F c = true) (hm : 0 ≤ m ∧ m ≤ 200) : code F (isB F c && inB m 0 200) = 0 := code_0 hk (by rw [hc]; simp [inB]; omega)

--# beside
theorem nbN_mem {F : Fld} {c v : Int} : ∀ n, (∃ j, j < (nbN F c n).length ∧ atI (nbN F c n) j = v) ↔ ∃ i, i < n ∧ nbP F c i = true ∧ c + offI i = v
  | 0 => by
    rw [nbN_0]
    constructor
    · rintro ⟨j, h, _⟩; simp at h
    · rintro ⟨i, h, _⟩; omega
  | n + 1 => by
    have ih := nbN_mem (F := F) (c := c) (v := v) n
    cases hp : nbP F c n with
    | false =>
      rw [nbN_2 hp, ih]
      constructor
      · rintro ⟨i, h1, h2⟩; exact ⟨i, by omega, h2⟩
      · rintro ⟨i, h1, h2, h3⟩
        by_cases e : i = n
        · subst e; rw [hp] at h2; cases h2
        · exact ⟨i, by omega, h2, h3⟩
    | true =>
      rw [nbN_1 hp]
      have e1 : ∀ j, j < (nbN F c n).length → atI (nbN F c n ++ [c + offI n]) j = atI (nbN F c n) j := fun j hj => by
        unfold atI; simp [List.getD, List.getElem?_append_left hj]
      have e2 : atI (nbN F c n ++ [c + offI n]) (nbN F c n).length = c + offI n := by
        unfold atI; simp [List.getD]
      constructor
      · rintro ⟨j, h1, h2⟩
        simp only [List.length_append, List.length_singleton] at h1
        by_cases e : j = (nbN F c n).length
        · subst e; rw [e2] at h2; exact ⟨n, by omega, hp, h2⟩
        · rw [e1 j (by omega)] at h2
          obtain ⟨i, h3, h4⟩ := ih.1 ⟨j, by omega, h2⟩
          exact ⟨i, by omega, h4⟩
      · rintro ⟨i, h1, h2, h3⟩
        by_cases e : i = n
        · subst e; exact ⟨(nbN F c i).length, by simp, by rw [e2]; exact h3⟩
        · obtain ⟨j, h4, h5⟩ := ih.2 ⟨i, by omega, h2, h3⟩
          exact ⟨j, by simp; omega, by rw [e1 j h4]; exact h5⟩
theorem sq_one : ∀ c : Fin 100, ∀ d : Fin 100, (c.val % 10 - d.val % 10) * (c.val % 10 - d.val % 10) + (d.val % 10 - c.val % 10) * (d.val % 10 - c.val % 10) + ((c.val / 10 - d.val / 10) * (c.val / 10 - d.val / 10) + (d.val / 10 - c.val / 10) * (d.val / 10 - c.val / 10)) = 1 → d.val + 10 = c.val ∨ d.val + 1 = c.val ∨ d.val = c.val + 1 ∨ d.val = c.val + 10 := by decide +kernel
theorem sq_nat (x y : Nat) : ((x : Int) - (y : Int)) * ((x : Int) - (y : Int)) = (((x - y) * (x - y) + (y - x) * (y - x) : Nat) : Int) := by
  rcases Nat.le_total x y with h | h
  · rw [show x - y = 0 by omega, show (x : Int) - (y : Int) = -((y - x : Nat) : Int) by omega, Int.neg_mul_neg, Nat.zero_mul, Nat.zero_add, Int.natCast_mul]
  · rw [show y - x = 0 by omega, show (x : Int) - (y : Int) = ((x - y : Nat) : Int) by omega, Nat.zero_mul, Nat.add_zero, Int.natCast_mul]
theorem sqr_one {c d : Nat} (hc : c < 100) (hd : d < 100) (h : sqr (c : Int) (d : Int) = 1) : (d : Int) = c + -10 ∨ (d : Int) = c + -1 ∨ (d : Int) = c + 1 ∨ (d : Int) = c + 10 := by
  have := sq_one ⟨c, hc⟩ ⟨d, hd⟩
  simp only at this
  have e : sqr (c : Int) (d : Int) = (((c % 10 - d % 10) * (c % 10 - d % 10) + (d % 10 - c % 10) * (d % 10 - c % 10) + ((c / 10 - d / 10) * (c / 10 - d / 10) + (d / 10 - c / 10) * (d / 10 - c / 10)) : Nat) : Int) := by
    unfold sqr
    rw [show (c : Int) % 10 = ((c % 10 : Nat) : Int) by omega, show (d : Int) % 10 = ((d % 10 : Nat) : Int) by omega, show (c : Int) / 10 = ((c / 10 : Nat) : Int) by omega, show (d : Int) / 10 = ((d / 10 : Nat) : Int) by omega, sq_nat, sq_nat, ← Int.natCast_add]
  rw [e] at h
  have := this (by omega)
  omega
theorem nb_has {F : Fld} {c : Int} (hc : 0 ≤ c ∧ c ≤ 99) {d : Nat} (hd : d < 100) : hasN (nbL F c) (d : Int) (nbL F c).length = (isB F (d : Int) && (sqr c (d : Int) == 1)) := by
  rw [Bool.eq_iff_iff, hasN_iff, ← nbN_end (n := 4) (Nat.le_refl _) (by omega), nbN_mem]
  constructor
  · rintro ⟨i, h1, h2, h3⟩
    rw [nbP_eq hc h1, h3] at h2
    exact h2
  · intro h
    have h2 := h
    rw [Bool.and_eq_true, beq_iff_eq] at h2
    obtain ⟨e, rfl⟩ := Int.eq_ofNat_of_zero_le hc.1
    have key : ∀ i, i < 4 → (e : Int) + offI i = d → ∃ i, i < 4 ∧ nbP F (e : Int) i = true ∧ (e : Int) + offI i = d := fun i hi hi2 => ⟨i, hi, by rw [nbP_eq hc hi, hi2]; exact h, hi2⟩
    rcases sqr_one (by omega) hd h2.2 with g | g | g | g
    · exact key 0 (by omega) g.symm
    · exact key 1 (by omega) g.symm
    · exact key 2 (by omega) g.symm
    · exact key 3 (by omega) g.symm

--# kinds
theorem kind_len {F : Fld} {k : Nat} (hk : okB F = true) (h : k < 4) : (listL (kindS F (k : Int)).1 (kindS F (k : Int)).2).length = lenP (fun i => isB F (i : Int) && (F.k i == (k : Int))) 100 := by
  rw [listL_lenP, kindS_t (code_0 hk (by simp [inB]; omega))]
  refine lenP_cong 100 fun i hi => ?_
  rw [hasB_set i 100 (Nat.le_refl _), decide_eq_true hi, Bool.true_and, Int.toNat_natCast]
/-- The cells of the first n kinds. -/
def knd (F : Fld) : Nat → Int
  | 0 => 0
  | n + 1 => knd F n + ((listL (kindS F (n : Int)).1 (kindS F (n : Int)).2).length : Int)
theorem knd_0 (F : Fld) : knd F 0 = 0 := rfl
theorem knd_s (F : Fld) (n : Nat) : knd F (n + 1) = knd F n + ((listL (kindS F (n : Int)).1 (kindS F (n : Int)).2).length : Int) := rfl
theorem knd_b (F : Fld) : ∀ n : Nat, 0 ≤ knd F n ∧ knd F n ≤ 100 * (n : Int)
  | 0 => by rw [knd_0]; omega
  | n + 1 => by
    have := knd_b F n
    have := listL_length (kindS F (n : Int)).1 (kindS F (n : Int)).2
    rw [knd_s]
    omega
theorem kind_c {F : Fld} {k : Int} (hk : okB F = true) (h : 0 ≤ k ∧ k ≤ 3) : code F (inB k 0 3) = 0 := code_0 hk (by simp [inB]; omega)
/-- The cells of a field below n. -/
def cntF (F : Fld) (n : Nat) : Nat := lenP (fun i => isB F (i : Int)) n
theorem cntF_0 (F : Fld) : cntF F 0 = 0 := rfl
theorem cntF_t {F : Fld} {n : Nat} (h : isB F (n : Int) = true) : cntF F (n + 1) = cntF F n + 1 := by unfold cntF; rw [lenP_s, if_pos h]
theorem cntF_f {F : Fld} {n : Nat} (h : isB F (n : Int) = false) : cntF F (n + 1) = cntF F n := by unfold cntF; rw [lenP_s, if_neg (by rw [h]; decide)]; rfl
theorem cntF_le (F : Fld) : ∀ n, cntF F n ≤ n := fun n => pickL_length _ n
theorem knd_4 {F : Fld} (hk : okB F = true) : knd F 4 = (cntF F 100 : Int) := by
  have h := lenP_4 (p := fun i => isB F (i : Int)) (k := F.k) 100 (fun i hi _ => by have := ok_cell hk i hi; omega)
  have k0 := kind_len (k := 0) hk (by omega)
  have k1 := kind_len (k := 1) hk (by omega)
  have k2 := kind_len (k := 2) hk (by omega)
  have k3 := kind_len (k := 3) hk (by omega)
  have e : knd F 4 = (((listL (kindS F ((0 : Nat) : Int)).1 (kindS F ((0 : Nat) : Int)).2).length + (listL (kindS F ((1 : Nat) : Int)).1 (kindS F ((1 : Nat) : Int)).2).length + (listL (kindS F ((2 : Nat) : Int)).1 (kindS F ((2 : Nat) : Int)).2).length + (listL (kindS F ((3 : Nat) : Int)).1 (kindS F ((3 : Nat) : Int)).2).length : Nat) : Int) := by
    rw [knd_s, knd_s, knd_s, knd_s, knd_0]
    simp only [Int.natCast_add, Int.zero_add]
  rw [e, k0, k1, k2, k3]
  unfold cntF
  rw [← h]
  rfl

--# answers
section
variable {F : Fld} {c x y : Int}
theorem near2_v (hk : okB F = true) (hc : isB F c = true) : near2 F c x y = if nearC F c x y < 0 then 6 else 0 := by unfold near2; rw [if_pos (code_0 hk hc)]
theorem near2_or (hk : okB F = true) (hc : isB F c = true) : near2 F c x y = 0 ∨ near2 F c x y = 6 := by rw [near2_v hk hc]; split <;> omega
theorem rich2_n (hk : okB F = true) (hc : isB F c = true) : rich2 F x y = near2 F c x y := by
  rw [near2_v hk hc]
  unfold rich2
  rw [if_pos hk]
  have := fst_both (near_fst F c x y) (rich_fst F x y)
  by_cases h : nearC F c x y < 0
  · rw [if_pos h, if_pos (this.1 h)]
  · rw [if_neg h, if_neg (fun k => h (this.2 k))]
theorem near0_in : 0 ≤ near0 F c x y ∧ near0 F c x y ≤ 99 := by
  have := nearC_in F c x y
  unfold near0
  split
  · split <;> omega
  · omega
theorem rich0_in : 0 ≤ rich0 F x y ∧ rich0 F x y ≤ 99 := by
  have := richC_in F x y
  unfold rich0
  split
  · split <;> omega
  · omega
theorem near_has (hk : okB F = true) (hc : isB F c = true) (h : near2 F c x y = 0) : hasB x y (near0 F c x y) = true ∧ hasB x y (rich0 F x y) = true := by
  have h1 : ¬ nearC F c x y < 0 := fun k => by rw [near2_v hk hc, if_pos k] at h; omega
  have h2 : ¬ richC F x y < 0 := fun k => h1 ((fst_both (near_fst F c x y) (rich_fst F x y)).2 k)
  unfold near0 rich0
  rw [if_pos (code_0 hk hc), if_neg h1, if_pos hk, if_neg h2]
  exact ⟨((near_fst F c x y).yes h1).2.1, ((rich_fst F x y).yes h2).2.1⟩
theorem near_all (hk : okB F = true) (hc : isB F c = true) {d : Nat} (hd : d < 100) (hb : isB F (d : Int) = true) (hh : hasB x y (d : Int) = true) :
    near2 F c x y = 0 ∧ near1 F c x y ≤ sqr c (d : Int) ∧ (sqr c (d : Int) = near1 F c x y → near0 F c x y ≤ (d : Int)) ∧ F.s d ≤ rich1 F x y ∧ (F.s d = rich1 F x y → rich0 F x y ≤ (d : Int)) := by
  have h1 : ¬ nearC F c x y < 0 := fun k => by
    have := ((near_fst F c x y).no k).2 d hd hb
    rw [hh] at this; cases this
  have h2 : ¬ richC F x y < 0 := fun k => h1 ((fst_both (near_fst F c x y) (rich_fst F x y)).2 k)
  have n1 := ((near_fst F c x y).yes h1).2.2.2 d hd hb hh
  have r1 := ((rich_fst F x y).yes h2).2.2.2 d hd hb hh
  have n2 := n1.2
  have r2 := r1.2
  have n3 := of_decide_eq_false n1.1
  have r3 := of_decide_eq_false r1.1
  rw [decide_eq_true_eq] at n2 r2
  rw [Int.toNat_natCast] at r2 r3
  rw [near2_v hk hc, if_neg h1]
  unfold near0 near1 rich0 rich1
  rw [if_pos (code_0 hk hc), if_pos (code_0 hk hc), if_neg h1, if_neg h1, if_pos hk, if_pos hk, if_neg h2, if_neg h2]
  exact ⟨rfl, by omega, fun e => by
    by_cases q : (d : Int) < nearC F c x y
    · have := n2 q; omega
    · omega, by omega, fun e => by
    by_cases q : (d : Int) < richC F x y
    · have := r2 q; omega
    · omega⟩
end
end Go.Proofs.Ytdhidmigngmgjaa
