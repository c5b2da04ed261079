/-
  Sets by their members: union, both, without, empty. No conditions.
-/
import Derived.Test.YtdhidmigngmgjaaPop
namespace Go.Proofs.Ytdhidmigngmgjaa
open Go.RowKit
set_option linter.unusedSimpArgs false
set_option linter.unusedVariables false

--# mem
theorem hasB_nat {X Y : Nat} (hX : X < 18446744073709551616) (hY : Y < 18446744073709551616) (c : Nat) : hasB (X : Int) (Y : Int) (c : Int) = if c < 64 then X.testBit c else decide (c < 100) && Y.testBit (c - 64) := by
  by_cases h1 : c < 100
  · rw [hasB_in (by simp [inB]; omega)]
    by_cases h2 : c < 64
    · rw [if_pos h2]
      have := bit_one (X : Int) c (by omega) (by omega)
      rw [Int.toNat_natCast] at this
      rw [← this]
      congr 3
      · unfold wd; rw [if_pos (by omega)]
      · congr 1; omega
    · rw [if_neg h2, decide_eq_true h1, Bool.true_and]
      have := bit_one (Y : Int) (c - 64) (by omega) (by omega)
      rw [Int.toNat_natCast] at this
      rw [← this]
      congr 3
      · unfold wd; rw [if_neg (by omega)]
      · congr 1; omega
  · rw [hasB_out (by simp [inB]; omega), if_neg (by omega), decide_eq_false h1, Bool.false_and]
def un0 (x x2 : Int) : Int := bits BinOp.or IntKind.u64 x x2
def un1 (y y2 : Int) : Int := un0 y y2 % 68719476736
def bo0 (x x2 : Int) : Int := bits BinOp.and IntKind.u64 x x2
def bo1 (y y2 : Int) : Int := bo0 y y2 % 68719476736
def wo0 (x x2 : Int) : Int := bits BinOp.andNot IntKind.u64 x x2
def wo1 (y y2 : Int) : Int := wo0 y y2 % 68719476736
/-- A word. -/
def wrd (x : Int) : Prop := 0 ≤ x ∧ x ≤ 18446744073709551615
theorem wrd_nat {x : Int} (h : wrd x) : ∃ X : Nat, x = (X : Int) ∧ X < 18446744073709551616 := by
  obtain ⟨X, rfl⟩ := Int.eq_ofNat_of_zero_le h.1
  exact ⟨X, rfl, by have := h.2; omega⟩
theorem un0_nat {X Y : Nat} (hX : X < 18446744073709551616) (hY : Y < 18446744073709551616) : un0 (X : Int) (Y : Int) = ((X ||| Y : Nat) : Int) := u64_or_nat X Y hX hY
theorem bo0_nat {X Y : Nat} (hX : X < 18446744073709551616) (hY : Y < 18446744073709551616) : bo0 (X : Int) (Y : Int) = ((X &&& Y : Nat) : Int) := u64_and_nat X Y hX hY
theorem wo0_nat {X Y : Nat} (hX : X < 18446744073709551616) (hY : Y < 18446744073709551616) : wo0 (X : Int) (Y : Int) = ((X &&& (18446744073709551615 - Y) : Nat) : Int) := u64_andNot_nat X Y hX hY
theorem or_lt {X Y : Nat} (hX : X < 18446744073709551616) (hY : Y < 18446744073709551616) : (X ||| Y) < 18446744073709551616 := Nat.or_lt_two_pow (n := 64) hX hY
theorem and_lt {X Y : Nat} (hX : X < 18446744073709551616) : (X &&& Y) < 18446744073709551616 := Nat.lt_of_le_of_lt Nat.and_le_left hX
theorem un0_w {x y : Int} (hx : wrd x) (hy : wrd y) : wrd (un0 x y) := by
  obtain ⟨X, rfl, h1⟩ := wrd_nat hx
  obtain ⟨Y, rfl, h2⟩ := wrd_nat hy
  rw [un0_nat h1 h2]
  have := or_lt h1 h2
  constructor <;> omega
theorem bo0_w {x y : Int} (hx : wrd x) (hy : wrd y) : wrd (bo0 x y) := by
  obtain ⟨X, rfl, h1⟩ := wrd_nat hx
  obtain ⟨Y, rfl, h2⟩ := wrd_nat hy
  rw [bo0_nat h1 h2]
  have := and_lt (Y := Y) h1
  constructor <;> omega
theorem wo0_w {x y : Int} (hx : wrd x) (hy : wrd y) : wrd (wo0 x y) := by
  obtain ⟨X, rfl, h1⟩ := wrd_nat hx
  obtain ⟨Y, rfl, h2⟩ := wrd_nat hy
  rw [wo0_nat h1 h2]
  have := and_lt (Y := 18446744073709551615 - Y) h1
  constructor <;> omega
theorem mod_w {x : Int} : wrd (x % 68719476736) := by unfold wrd; omega
theorem not_bit {Y i : Nat} (hY : Y < 18446744073709551616) (hi : i < 64) : (18446744073709551615 - Y).testBit i = !Y.testBit i := by
  have := Nat.testBit_two_pow_sub_succ (n := 64) (x := Y) hY i
  rw [show 2 ^ 64 - (Y + 1) = 18446744073709551615 - Y by omega, decide_eq_true hi, Bool.true_and] at this
  exact this
section
variable {x y x2 y2 : Int}
theorem hasB_un (hx : wrd x) (hy : wrd y) (hx2 : wrd x2) (hy2 : wrd y2) (c : Nat) : hasB (un0 x x2) (un1 y y2) (c : Int) = (hasB x y (c : Int) || hasB x2 y2 (c : Int)) := by
  obtain ⟨X, rfl, h1⟩ := wrd_nat hx
  obtain ⟨Y, rfl, h2⟩ := wrd_nat hy
  obtain ⟨X2, rfl, h3⟩ := wrd_nat hx2
  obtain ⟨Y2, rfl, h4⟩ := wrd_nat hy2
  unfold un1
  rw [un0_nat h1 h3, un0_nat h2 h4, show (((Y ||| Y2 : Nat) : Int) % 68719476736) = (((Y ||| Y2) % 2 ^ 36 : Nat) : Int) by simp, hasB_nat (or_lt h1 h3) (by omega), hasB_nat h1 h2, hasB_nat h3 h4]
  by_cases hc : c < 64
  · rw [if_pos hc, if_pos hc, if_pos hc, Nat.testBit_or]
  · rw [if_neg hc, if_neg hc, if_neg hc]
    by_cases hd : c < 100
    · rw [Nat.testBit_mod_two_pow, Nat.testBit_or]
      simp [hd, show c - 64 < 36 by omega]
    · simp [hd]
theorem hasB_bo (hx : wrd x) (hy : wrd y) (hx2 : wrd x2) (hy2 : wrd y2) (c : Nat) : hasB (bo0 x x2) (bo1 y y2) (c : Int) = (hasB x y (c : Int) && hasB x2 y2 (c : Int)) := by
  obtain ⟨X, rfl, h1⟩ := wrd_nat hx
  obtain ⟨Y, rfl, h2⟩ := wrd_nat hy
  obtain ⟨X2, rfl, h3⟩ := wrd_nat hx2
  obtain ⟨Y2, rfl, h4⟩ := wrd_nat hy2
  unfold bo1
  rw [bo0_nat h1 h3, bo0_nat h2 h4, show (((Y &&& Y2 : Nat) : Int) % 68719476736) = (((Y &&& Y2) % 2 ^ 36 : Nat) : Int) by simp, hasB_nat (and_lt h1) (by omega), hasB_nat h1 h2, hasB_nat h3 h4]
  by_cases hc : c < 64
  · rw [if_pos hc, if_pos hc, if_pos hc, Nat.testBit_and]
  · rw [if_neg hc, if_neg hc, if_neg hc]
    by_cases hd : c < 100
    · rw [Nat.testBit_mod_two_pow, Nat.testBit_and]
      simp [hd, show c - 64 < 36 by omega]
    · simp [hd]
theorem hasB_wo (hx : wrd x) (hy : wrd y) (hx2 : wrd x2) (hy2 : wrd y2) (c : Nat) : hasB (wo0 x x2) (wo1 y y2) (c : Int) = (hasB x y (c : Int) && !hasB x2 y2 (c : Int)) := by
  obtain ⟨X, rfl, h1⟩ := wrd_nat hx
  obtain ⟨Y, rfl, h2⟩ := wrd_nat hy
  obtain ⟨X2, rfl, h3⟩ := wrd_nat hx2
  obtain ⟨Y2, rfl, h4⟩ := wrd_nat hy2
  unfold wo1
  rw [wo0_nat h1 h3, wo0_nat h2 h4, show (((Y &&& (18446744073709551615 - Y2) : Nat) : Int) % 68719476736) = (((Y &&& (18446744073709551615 - Y2)) % 2 ^ 36 : Nat) : Int) by simp, hasB_nat (and_lt h1) (by omega), hasB_nat h1 h2, hasB_nat h3 h4]
  by_cases hc : c < 64
  · rw [if_pos hc, if_pos hc, if_pos hc, Nat.testBit_and, not_bit h3 hc]
  · rw [if_neg hc, if_neg hc, if_neg hc]
    by_cases hd : c < 100
    · rw [Nat.testBit_mod_two_pow, Nat.testBit_and, not_bit h4 (by omega)]
      simp [hd, show c - 64 < 36 by omega]
    · simp [hd]
/-- No member: empty. -/
theorem empty_iff (hx : wrd x) (hy : 0 ≤ y ∧ y < 68719476736) : (x = 0 ∧ y = 0) ↔ ∀ c : Nat, c < 100 → hasB x y (c : Int) = false := by
  obtain ⟨X, rfl, h1⟩ := wrd_nat hx
  obtain ⟨Y, rfl, h2⟩ := wrd_nat (show wrd y by unfold wrd; omega)
  constructor
  · rintro ⟨e1, e2⟩ c hc
    have e1 : X = 0 := by omega
    have e2 : Y = 0 := by omega
    subst e1 e2
    rw [hasB_nat (by omega) (by omega)]
    simp
  · intro h
    have hX : X = 0 := by
      apply Nat.eq_of_testBit_eq
      intro i
      rw [Nat.zero_testBit]
      by_cases hi : i < 64
      · have := h i (by omega)
        rwa [hasB_nat h1 h2, if_pos hi] at this
      · exact Nat.testBit_lt_two_pow (Nat.lt_of_lt_of_le h1 (Nat.pow_le_pow_right (n := 2) (i := 64) (by omega) (by omega)))
    have hY : Y = 0 := by
      apply Nat.eq_of_testBit_eq
      intro i
      rw [Nat.zero_testBit]
      by_cases hi : i < 36
      · have := h (64 + i) (by omega)
        rw [hasB_nat h1 h2, if_neg (by omega), decide_eq_true (by omega), Bool.true_and, show 64 + i - 64 = i by omega] at this
        exact this
      · exact Nat.testBit_lt_two_pow (Nat.lt_of_lt_of_le (show Y < 2 ^ 36 by omega) (Nat.pow_le_pow_right (by omega) (by omega)))
    omega
end
section
variable {x y x2 y2 : Int}
theorem un_b (hy : wrd y) (hy2 : wrd y2) : 0 ≤ bits BinOp.or IntKind.u64 y y2 ∧ bits BinOp.or IntKind.u64 y y2 ≤ 18446744073709551615 := un0_w hy hy2
theorem bo_b (hy : wrd y) (hy2 : wrd y2) : 0 ≤ bits BinOp.and IntKind.u64 y y2 ∧ bits BinOp.and IntKind.u64 y y2 ≤ 18446744073709551615 := bo0_w hy hy2
theorem wo_b (hy : wrd y) (hy2 : wrd y2) : 0 ≤ bits BinOp.andNot IntKind.u64 y y2 ∧ bits BinOp.andNot IntKind.u64 y y2 ≤ 18446744073709551615 := wo0_w hy hy2
theorem un_eq : (#[.int .u64 (un0 x x2), .int .u64 (un1 y y2)] : Array Value) = #[.int .u64 (bits BinOp.or IntKind.u64 x x2), .int .u64 (bits BinOp.or IntKind.u64 y y2 % 68719476736)] := rfl
theorem bo_eq : (#[.int .u64 (bo0 x x2), .int .u64 (bo1 y y2)] : Array Value) = #[.int .u64 (bits BinOp.and IntKind.u64 x x2), .int .u64 (bits BinOp.and IntKind.u64 y y2 % 68719476736)] := rfl
theorem wo_eq : (#[.int .u64 (wo0 x x2), .int .u64 (wo1 y y2)] : Array Value) = #[.int .u64 (bits BinOp.andNot IntKind.u64 x x2), .int .u64 (bits BinOp.andNot IntKind.u64 y y2 % 68719476736)] := rfl
end
attribute [irreducible] un0 un1 bo0 bo1 wo0 wo1

--# put
/-- A set of numbers below 100. -/
def okP (s : Int × Int) : Prop := wrd s.1 ∧ (0 ≤ s.2 ∧ s.2 < 68719476736)
theorem okP.w2 {s : Int × Int} (h : okP s) : wrd s.2 := by have := h.2; unfold wrd; omega
theorem okP_nat {s : Int × Int} (h : okP s) : ∃ X Y : Nat, s = ((X : Int), (Y : Int)) ∧ X < 18446744073709551616 ∧ Y < 68719476736 := by
  obtain ⟨x, y⟩ := s
  obtain ⟨X, hx, h1⟩ := wrd_nat h.1
  obtain ⟨Y, hy⟩ := Int.eq_ofNat_of_zero_le h.2.1
  have h2 := h.2.2
  simp only at hx hy h2
  subst hx hy
  exact ⟨X, Y, rfl, h1, by omega⟩
theorem put_bit (n : Nat) (hn : n < 64) : IntKind.u64.wrap (1 * 2 ^ ((n : Int)).toNat) = ((2 ^ n : Nat) : Int) := by
  have h1 : (2 : Nat) ^ n < 18446744073709551616 := Nat.pow_lt_pow_right (n := 64) (by omega) hn
  have e : (1 * 2 ^ ((n : Int)).toNat : Int) = ((2 ^ n : Nat) : Int) := by simp
  rw [e]
  clear e
  generalize (2 : Nat) ^ n = m at h1 ⊢
  exact IntWalk.u64_in _ (by omega)
theorem putS_nat {X Y : Nat} (hX : X < 18446744073709551616) (hY : Y < 68719476736) {c : Nat} (hc : c < 100) : putS ((X : Int), (Y : Int)) (c : Int) = if c < 64 then (((X ||| 2 ^ c : Nat) : Int), (Y : Int)) else ((X : Int), ((Y ||| 2 ^ (c - 64) : Nat) : Int)) := by
  unfold putS
  by_cases h : c < 64
  · have hp : 2 ^ c < 18446744073709551616 := Nat.pow_lt_pow_right (n := 64) (by omega) h
    rw [if_pos h, show ((c : Int) % 64) = ((c : Nat) : Int) by omega, put_bit c h]
    unfold pw0 pw1 wd
    rw [if_pos (by omega), if_pos (by omega), if_pos (by omega), u64_or_nat X (2 ^ c) hX hp]
  · have hp : 2 ^ (c - 64) < 18446744073709551616 := Nat.pow_lt_pow_right (n := 64) (by omega) (by omega)
    rw [if_neg h, show ((c : Int) % 64) = ((c - 64 : Nat) : Int) by omega, put_bit (c - 64) (by omega)]
    unfold pw0 pw1 wd
    rw [if_neg (by omega), if_neg (by omega), if_neg (by omega), u64_or_nat Y (2 ^ (c - 64)) (by omega) hp]
theorem putS_ok {s : Int × Int} (h : okP s) {c : Nat} (hc : c < 100) : okP (putS s c) := by
  obtain ⟨X, Y, rfl, h1, h2⟩ := okP_nat h
  rw [putS_nat h1 h2 hc]
  split
  · next hl =>
    have hp : 2 ^ c < 18446744073709551616 := Nat.pow_lt_pow_right (n := 64) (by omega) hl
    have := or_lt h1 hp
    exact ⟨⟨by simp only; omega, by simp only; omega⟩, by simp only; omega, by simp only; omega⟩
  · have hp : 2 ^ (c - 64) < 2 ^ 36 := Nat.pow_lt_pow_right (by omega) (by omega)
    have : (Y ||| 2 ^ (c - 64)) < 2 ^ 36 := Nat.or_lt_two_pow h2 hp
    exact ⟨⟨by simp only; omega, by simp only; omega⟩, by simp only; omega, by simp only; omega⟩
theorem hasB_put {s : Int × Int} (h : okP s) {c : Nat} (hc : c < 100) (d : Nat) : hasB (putS s c).1 (putS s c).2 (d : Int) = (decide (d = c) || hasB s.1 s.2 (d : Int)) := by
  obtain ⟨X, Y, rfl, h1, h2⟩ := okP_nat h
  rw [putS_nat h1 h2 hc]
  simp only
  rw [hasB_nat h1 (by omega)]
  by_cases hl : c < 64
  · have hp : 2 ^ c < 18446744073709551616 := Nat.pow_lt_pow_right (n := 64) (by omega) hl
    rw [if_pos hl, hasB_nat (or_lt h1 hp) (by omega)]
    by_cases hd : d < 64
    · rw [if_pos hd, if_pos hd, Nat.testBit_or, Nat.testBit_two_pow, Bool.or_comm]
      congr 1
      exact decide_eq_decide.2 eq_comm
    · rw [if_neg hd, if_neg hd, decide_eq_false (by omega : ¬ d = c), Bool.false_or]
  · have hp : 2 ^ (c - 64) < 18446744073709551616 := Nat.pow_lt_pow_right (n := 64) (by omega) (by omega)
    rw [if_neg hl, hasB_nat h1 (or_lt (by omega) hp)]
    by_cases hd : d < 64
    · rw [if_pos hd, if_pos hd, decide_eq_false (by omega : ¬ d = c), Bool.false_or]
    · rw [if_neg hd, if_neg hd, Nat.testBit_or, Nat.testBit_two_pow]
      by_cases hd2 : d < 100
      · rw [decide_eq_true hd2, Bool.true_and, Bool.true_and, Bool.or_comm]
        congr 1
        exact decide_eq_decide.2 (by omega)
      · rw [decide_eq_false hd2, Bool.false_and, Bool.false_and, decide_eq_false (by omega : ¬ d = c), Bool.or_false]
theorem okP0 : okP (0, 0) := by unfold okP wrd; simp
theorem hasB_0 (d : Nat) : hasB 0 0 (d : Int) = false := by
  have := hasB_nat (X := 0) (Y := 0) (by omega) (by omega) d
  simpa using this
theorem setC_ok {F : Fld} {p : Int → Bool} : ∀ n : Nat, n ≤ 100 → okP (setC F p n)
  | 0, _ => by unfold setC; rw [foldC_0]; exact okP0
  | n + 1, h => by
    have ih := setC_ok (F := F) (p := p) n (by omega)
    cases hb : (isB F (n : Int) && p n) with
    | true => rw [setC_5 hb]; exact putS_ok ih (by omega)
    | false => rw [setC_4 hb]; exact ih
theorem hasB_set {F : Fld} {p : Int → Bool} (d : Nat) : ∀ n : Nat, n ≤ 100 → hasB (setC F p n).1 (setC F p n).2 (d : Int) = (decide (d < n) && (isB F (d : Int) && p d))
  | 0, _ => by unfold setC; rw [foldC_0, hasB_0]; simp
  | n + 1, h => by
    have ih := hasB_set (F := F) (p := p) d n (by omega)
    have ok := setC_ok (F := F) (p := p) n (by omega)
    cases hb : (isB F (n : Int) && p n) with
    | true =>
      rw [setC_5 hb, hasB_put ok (by omega), ih]
      by_cases h1 : d = n
      · subst h1; rw [hb]; simp
      · rw [decide_eq_false h1, Bool.false_or]
        congr 1
        exact decide_eq_decide.2 (by omega)
    | false =>
      rw [setC_4 hb, ih]
      by_cases h1 : d = n
      · subst h1; rw [hb]; simp
      · congr 1
        exact decide_eq_decide.2 (by omega)
end Go.Proofs.Ytdhidmigngmgjaa
