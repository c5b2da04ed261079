/-
  The number of one bits of a word, by lanes; the length of a set's list. No conditions.
-/
import Derived.Test.YtdhidmigngmgjaaMth
import Derived.Laws.BitsAllLaws
import Derived.Laws.Bits128
namespace Go.Proofs.Ytdhidmigngmgjaa
open Go.RowKit
set_option linter.unusedSimpArgs false
set_option linter.unusedVariables false

--# cnt
def cnt (p : Nat → Bool) : Nat → Nat
  | 0 => 0
  | n + 1 => cnt p n + (if p n = true then 1 else 0)
theorem cnt_0 (p : Nat → Bool) : cnt p 0 = 0 := rfl
theorem cnt_add (p : Nat → Bool) (m : Nat) : ∀ n, cnt p (m + n) = cnt p m + cnt (fun i => p (m + i)) n
  | 0 => rfl
  | n + 1 => by
    show cnt p (m + n) + (if p (m + n) = true then 1 else 0) = _
    rw [cnt_add p m n]
    simp only [cnt]
    omega
theorem cnt_congr {p q : Nat → Bool} : ∀ {n : Nat}, (∀ i, i < n → p i = q i) → cnt p n = cnt q n
  | 0, _ => rfl
  | n + 1, h => by
    simp only [cnt]
    rw [cnt_congr (n := n) (fun i hi => h i (by omega)), h n (by omega)]
theorem cnt_zero {p : Nat → Bool} : ∀ {n : Nat}, (∀ i, i < n → p i = false) → cnt p n = 0
  | 0, _ => rfl
  | n + 1, h => by
    simp only [cnt]
    rw [cnt_zero (n := n) (fun i hi => h i (by omega)), h n (by omega)]
    rfl
theorem cnt_le (p : Nat → Bool) : ∀ n, cnt p n ≤ n
  | 0 => Nat.le_refl _
  | n + 1 => by
    have := cnt_le p n
    simp only [cnt]
    split <;> omega
theorem pickL_cnt (p : Nat → Bool) : ∀ n, (pickL p n).length = cnt p n
  | 0 => rfl
  | n + 1 => by
    have ih := pickL_cnt p n
    simp only [pickL, cnt]
    split
    · simp [ih]
    · simp [ih]

--# lanes
theorem lane_bit {v R : Nat} (hv : v < 256) (j : Nat) : (v + 256 * R).testBit j = if j < 8 then v.testBit j else R.testBit (j - 8) := by
  have := Nat.testBit_two_pow_mul_add (i := 8) R (b := v) (by omega) j
  rwa [show 2 ^ 8 * R + v = v + 256 * R by omega] at this
theorem and_lane {v c R M : Nat} (hv : v < 256) (hc : c < 256) : (v + 256 * R) &&& (c + 256 * M) = (v &&& c) + 256 * (R &&& M) := by
  apply Nat.eq_of_testBit_eq
  intro j
  have h : (v &&& c) < 2 ^ 8 := Nat.and_lt_two_pow _ (by omega)
  rw [Nat.testBit_and, lane_bit hv, lane_bit hc, lane_bit (by omega)]
  split
  · rw [Nat.testBit_and]
  · rw [Nat.testBit_and]
def msk (c : Nat) : Nat → Nat
  | 0 => 0
  | n + 1 => c + 256 * msk c n
theorem msk_s (c n : Nat) : msk c (n + 1) = c + 256 * msk c n := rfl
def ln1 (n X : Nat) : Nat := (X / 2 &&& msk 85 n) + (X &&& msk 85 n)
def ln2 (n X : Nat) : Nat := (X / 4 &&& msk 51 n) + (X &&& msk 51 n)
def ln3 (n X : Nat) : Nat := (X / 16 + X) &&& msk 15 n
theorem dec1 : ∀ v, v < 256 → ∀ q, q < 2 → (v / 2 + 128 * q) &&& 85 = v / 2 &&& 85 := by decide +kernel
theorem dec2 : ∀ v, v < 256 → ∀ q, q < 4 → (v / 4 + 64 * q) &&& 51 = v / 4 &&& 51 := by decide +kernel
theorem dec3 : ∀ v, v < 69 → ∀ q, q < 5 → (v / 16 + 16 * q + v) &&& 15 = (v / 16 + v) &&& 15 := by decide +kernel
def by1 (v : Nat) : Nat := (v / 2 &&& 85) + (v &&& 85)
def by2 (v : Nat) : Nat := (v / 4 &&& 51) + (v &&& 51)
def by3 (v : Nat) : Nat := (v / 16 + v) &&& 15
theorem decb : ∀ v, v < 256 → by1 v < 256 ∧ by2 (by1 v) < 69 ∧ by2 (by1 v) % 16 < 5 ∧ by3 (by2 (by1 v)) = cnt v.testBit 8 := by decide +kernel
theorem ln1_s {n v R : Nat} (hv : v < 256) : ln1 (n + 1) (v + 256 * R) = by1 v + 256 * ln1 n R := by
  unfold ln1 by1
  rw [msk_s, show (v + 256 * R) / 2 = (v / 2 + 128 * (R % 2)) + 256 * (R / 2) by omega, and_lane (by omega) (by omega), and_lane hv (by omega), dec1 v hv _ (by omega)]
  omega
theorem ln2_s {n v R : Nat} (hv : v < 256) : ln2 (n + 1) (v + 256 * R) = by2 v + 256 * ln2 n R := by
  unfold ln2 by2
  rw [msk_s, show (v + 256 * R) / 4 = (v / 4 + 64 * (R % 4)) + 256 * (R / 4) by omega, and_lane (by omega) (by omega), and_lane hv (by omega), dec2 v hv _ (by omega)]
  omega
theorem ln3_s {n v R : Nat} (hv : v < 69) (hR : R % 16 < 5) : ln3 (n + 1) (v + 256 * R) = by3 v + 256 * ln3 n R := by
  unfold ln3 by3
  rw [msk_s, show (v + 256 * R) / 16 + (v + 256 * R) = (v / 16 + 16 * (R % 16) + v) + 256 * (R / 16 + R) by omega, and_lane (by omega) (by omega), dec3 v hv _ hR]
theorem ln12_low (n R : Nat) : ln2 n (ln1 n R) % 16 < 5 := by
  cases n with
  | zero => simp [ln2, ln1, msk]
  | succ n =>
    have h := decb (R % 256) (by omega)
    rw [show R = R % 256 + 256 * (R / 256) by omega, ln1_s (by omega), ln2_s (by omega)]
    have := h.2.2.1
    omega
def lns (n X : Nat) : Nat := ln3 n (ln2 n (ln1 n X))
theorem lns_s {n : Nat} (X : Nat) : lns (n + 1) X = cnt (X % 256).testBit 8 + 256 * lns n (X / 256) := by
  have h := decb (X % 256) (by omega)
  unfold lns
  conv => lhs; rw [show X = X % 256 + 256 * (X / 256) by omega]
  rw [ln1_s (by omega), ln2_s h.1, ln3_s h.2.1 (ln12_low _ _), h.2.2.2]
theorem lns_0 (X : Nat) : lns 0 X = 0 := by simp [lns, ln3, msk]
theorem cnt_lane (n X : Nat) : cnt X.testBit (8 + n) = cnt (X % 256).testBit 8 + cnt (X / 256).testBit n := by
  rw [cnt_add]
  have hb : ∀ j, X.testBit j = if j < 8 then (X % 256).testBit j else (X / 256).testBit (j - 8) := fun j => by
    have := lane_bit (v := X % 256) (R := X / 256) (by omega) j
    rwa [show X % 256 + 256 * (X / 256) = X by omega] at this
  congr 1
  · exact cnt_congr fun i hi => by rw [hb i, if_pos hi]
  · exact cnt_congr fun i hi => by rw [hb (8 + i), if_neg (by omega), show 8 + i - 8 = i by omega]
theorem cnt_lanes (X : Nat) (hX : X < 18446744073709551616) : ∃ z0 z1 z2 z3 z4 z5 z6 z7 : Nat, z0 ≤ 8 ∧ z1 ≤ 8 ∧ z2 ≤ 8 ∧ z3 ≤ 8 ∧ z4 ≤ 8 ∧ z5 ≤ 8 ∧ z6 ≤ 8 ∧ z7 ≤ 8 ∧
    cnt X.testBit 64 = z0 + z1 + z2 + z3 + z4 + z5 + z6 + z7 ∧ lns 8 X = z0 + 256 * (z1 + 256 * (z2 + 256 * (z3 + 256 * (z4 + 256 * (z5 + 256 * (z6 + 256 * z7)))))) := by
  refine ⟨cnt (X % 256).testBit 8, cnt ((X / 256) % 256).testBit 8, cnt (((X / 256) / 256) % 256).testBit 8, cnt ((((X / 256) / 256) / 256) % 256).testBit 8, cnt (((((X / 256) / 256) / 256) / 256) % 256).testBit 8, cnt ((((((X / 256) / 256) / 256) / 256) / 256) % 256).testBit 8, cnt (((((((X / 256) / 256) / 256) / 256) / 256) / 256) % 256).testBit 8, cnt ((((((((X / 256) / 256) / 256) / 256) / 256) / 256) / 256) % 256).testBit 8, cnt_le _ _, cnt_le _ _, cnt_le _ _, cnt_le _ _, cnt_le _ _, cnt_le _ _, cnt_le _ _, cnt_le _ _, ?_, ?_⟩
  case refine_2 => rw [lns_s, lns_s, lns_s, lns_s, lns_s, lns_s, lns_s, lns_s, lns_0, Nat.mul_zero, Nat.add_zero]
  case refine_1 =>
    rw [cnt_lane 56, cnt_lane 48, cnt_lane 40, cnt_lane 32, cnt_lane 24, cnt_lane 16, cnt_lane 8, cnt_lane 0 (X / 256 / 256 / 256 / 256 / 256 / 256 / 256), cnt_0]
    simp only [Nat.add_assoc, Nat.add_zero]
attribute [irreducible] cnt
theorem msk85 : msk 85 8 = 6148914691236517205 := by simp [msk]
theorem msk51 : msk 51 8 = 3689348814741910323 := by simp [msk]
theorem msk15 : msk 15 8 = 1085102592571150095 := by simp [msk]
theorem dvl {K u v : Nat} (h : u < K) : (u + K * v) / K = v := by rw [Nat.add_mul_div_left _ _ (by omega), Nat.div_eq_of_lt h, Nat.zero_add]
/-- The number of one bits. -/
def pop64 (X : Nat) : Nat := cnt X.testBit 64
theorem pop64_eq {X A B C D E : Nat} (hX : X < 18446744073709551616) (hA : A = (X / 2 &&& 6148914691236517205) + (X &&& 6148914691236517205)) (hB : B = (A / 4 &&& 3689348814741910323) + (A &&& 3689348814741910323))
    (hC : C = (B / 16 + B) &&& 1085102592571150095) (hD : D = C + C / 256) (hE : E = D + D / 65536) : (E + E / 4294967296) % 128 = pop64 X := by
  obtain ⟨z0, z1, z2, z3, z4, z5, z6, z7, b0, b1, b2, b3, b4, b5, b6, b7, hs, hl⟩ := cnt_lanes X hX
  have e : C = lns 8 X := by
    unfold lns ln1 ln2 ln3
    rw [msk85, msk51, msk15, hC, hB, hA]
  rw [hl] at e
  unfold pop64
  rw [hs]
  clear hs hl hA hB hC hX
  have hb : z0 + z1 + z2 + z3 + z4 + z5 + z6 + z7 < 128 := by omega
  have h1 : C / 256 = z1 + 256 * (z2 + 256 * (z3 + 256 * (z4 + 256 * (z5 + 256 * (z6 + 256 * z7))))) := by rw [e]; exact dvl (by omega)
  have hD' : D = ((z0 + z1) + 256 * (z1 + z2)) + 65536 * ((z2 + z3) + 256 * (z3 + z4) + 65536 * (z4 + z5) + 16777216 * (z5 + z6) + 4294967296 * (z6 + z7) + 1099511627776 * z7) := by rw [hD, h1, e]; omega
  have h2 : D / 65536 = (z2 + z3) + 256 * (z3 + z4) + 65536 * (z4 + z5) + 16777216 * (z5 + z6) + 4294967296 * (z6 + z7) + 1099511627776 * z7 := by rw [hD']; exact dvl (by omega)
  have hE' : E = ((z0 + z1 + z2 + z3) + 256 * (z1 + z2 + z3 + z4) + 65536 * (z2 + z3 + z4 + z5) + 16777216 * (z3 + z4 + z5 + z6)) + 4294967296 * ((z4 + z5 + z6 + z7) + 256 * (z5 + z6 + z7) + 65536 * (z6 + z7) + 16777216 * z7) := by rw [hE, h2, hD']; omega
  have h3 : E / 4294967296 = (z4 + z5 + z6 + z7) + 256 * (z5 + z6 + z7) + 65536 * (z6 + z7) + 16777216 * z7 := by rw [hE']; exact dvl (by omega)
  have hF : E + E / 4294967296 = (z0 + z1 + z2 + z3 + z4 + z5 + z6 + z7) + 128 * (2 * (z1 + z2 + z3 + z4 + z5 + z6 + z7) + 512 * (z2 + z3 + z4 + z5 + z6 + z7) + 131072 * (z3 + z4 + z5 + z6 + z7) + 33554432 * ((z4 + z5 + z6 + z7) + 256 * (z5 + z6 + z7) + 65536 * (z6 + z7) + 16777216 * z7)) := by
    rw [h3, hE']
    clear h3 hE' h2 hD' h1 e hD hE
    omega
  rw [hF, Nat.add_mul_mod_self_left, Nat.mod_eq_of_lt hb]
theorem pop64_le (X : Nat) : pop64 X ≤ 64 := cnt_le _ _

--# sets
def popI (x : Int) : Int := (pop64 x.toNat : Int)
theorem popI_b (x : Int) : 0 ≤ popI x ∧ popI x ≤ 64 := by
  have := pop64_le x.toNat
  unfold popI
  omega
theorem bit_one (x : Int) (n : Nat) (h0 : 0 ≤ x) (h1 : x ≤ 18446744073709551615) : (bits BinOp.and IntKind.u64 (x / 2 ^ n) 1 == 1) = x.toNat.testBit n := by
  obtain ⟨X, rfl⟩ := Int.eq_ofNat_of_zero_le h0
  have e : ((X : Int) / 2 ^ n) = ((X / 2 ^ n : Nat) : Int) := by simp
  have hlt : X / 2 ^ n ≤ X := Nat.div_le_self _ _
  rw [e, show (1 : Int) = ((1 : Nat) : Int) from rfl, u64_and_nat _ _ (by omega) (by omega), Nat.and_one_is_mod, Int.toNat_natCast, Nat.testBit_eq_decide_div_mod_eq]
  rcases Nat.mod_two_eq_zero_or_one (X / 2 ^ n) with h | h <;> rw [h] <;> rfl
theorem cut_eq {x y : Int} (hy : 0 ≤ y ∧ y ≤ 18446744073709551615) : (#[.int .u64 x, .int .u64 (y % 68719476736)] : Array Value) = #[.int .u64 x, .int .u64 (bits BinOp.and IntKind.u64 y 68719476735)] := by
  obtain ⟨Y, rfl⟩ := Int.eq_ofNat_of_zero_le hy.1
  rw [show (68719476735 : Int) = ((2 ^ 36 - 1 : Nat) : Int) from rfl, u64_and_nat _ _ (by omega) (by omega), Nat.and_two_pow_sub_one_eq_mod]
  rfl
theorem count_eq (x y : Int) (hx : 0 ≤ x ∧ x ≤ 18446744073709551615) (hy : 0 ≤ y ∧ y ≤ 18446744073709551615) : popI x + popI (y % 68719476736) = ((listL x y).length : Int) := by
  have h1 : (listL x y).length = cnt (fun i => hasB x y (i : Int)) (64 + 36) := by
    rw [show listL x y = pickL (fun i => hasB x y (i : Int)) 100 by unfold listL listN; rfl, pickL_cnt]
  rw [h1, cnt_add]
  have e1 : cnt (fun i => hasB x y (i : Int)) 64 = pop64 x.toNat := by
   unfold pop64
   refine cnt_congr fun i hi => ?_
   · rw [hasB_in (by simp [inB]; omega), ← bit_one x i hx.1 hx.2]
     congr 3
     · unfold wd; rw [if_pos (by omega)]
     · congr 1; omega
  have e2 : cnt (fun i => hasB x y ((64 + i : Nat) : Int)) 36 = pop64 (y % 68719476736).toNat := by
    unfold pop64
    rw [show (64 : Nat) = 36 + 28 from rfl, cnt_add]
    have z : cnt (fun i => (y % 68719476736).toNat.testBit (36 + i)) 28 = 0 := cnt_zero fun i hi => by
      apply Nat.testBit_lt_two_pow
      have : (2 : Nat) ^ 36 ≤ 2 ^ (36 + i) := Nat.pow_le_pow_right (by omega) (by omega)
      omega
    rw [z, Nat.add_zero]
    refine cnt_congr fun i hi => ?_
    rw [hasB_in (by simp [inB]; omega)]
    have e3 : (y % 68719476736).toNat = y.toNat % 2 ^ 36 := by omega
    rw [e3, Nat.testBit_mod_two_pow, decide_eq_true hi, Bool.true_and, ← bit_one y i hy.1 hy.2]
    congr 3
    · unfold wd; rw [if_neg (by omega)]
    · congr 1; omega
  rw [e1, e2]
  unfold popI
  omega
end Go.Proofs.Ytdhidmigngmgjaa
