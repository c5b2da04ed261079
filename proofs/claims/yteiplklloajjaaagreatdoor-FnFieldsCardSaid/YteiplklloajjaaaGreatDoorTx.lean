/-
  Texts: a text cut at a byte, and numbers without signs, in plain Lean. No conditions.
-/
import Derived.Test.YteiplklloajjaaaGreatDoorBase
import Derived.Lib.Split
import Derived.Lib.ItoaNum
import Derived.Lib.AtoiTie
import Derived.Lib.ParseIntBTie
import Derived.Lib.Join
namespace Go.Proofs.YteiplklloajjaaaGreatDoor
open Go.RowKit
set_option linter.unusedSimpArgs false
set_option linter.unusedVariables false

--# bytes
/-- A text of these bytes. -/
def bs (l : List UInt8) : ByteArray := ⟨l.toArray⟩
theorem bs_data (l : List UInt8) : (bs l).data.toList = l := rfl
theorem bs_of (s : ByteArray) : bs s.data.toList = s := rfl
theorem bs_size (l : List UInt8) : (bs l).size = l.length := by simp [bs, ByteArray.size]
theorem bs_inj {a b : List UInt8} (h : bs a = bs b) : a = b := by
  have := congrArg (fun s : ByteArray => s.data.toList) h
  simpa [bs] using this
theorem bs_app (a b : List UInt8) : bs a ++ bs b = bs (a ++ b) := by
  apply ByteArray.ext
  show _ = (a ++ b).toArray
  rw [ByteArray.data_append]
  simp [bs]

--# cuts
/-- A text cut at each byte c. -/
def cutL (c : UInt8) : List UInt8 → List (List UInt8)
  | [] => [[]]
  | x :: r => if x = c then [] :: cutL c r else (x :: (cutL c r).headD []) :: (cutL c r).tail
theorem cutL_ne (c : UInt8) (l : List UInt8) : cutL c l ≠ [] := by
  cases l with
  | nil => simp [cutL]
  | cons x r => unfold cutL; split <;> simp
theorem cutL_no {c : UInt8} : ∀ {l : List UInt8}, c ∉ l → cutL c l = [l]
  | [], _ => rfl
  | x :: r, h => by
    have h1 : x ≠ c := fun e => h (by simp [e])
    have h2 : c ∉ r := fun e => h (by simp [e])
    simp [cutL, h1, cutL_no h2]
theorem cutL_at {c : UInt8} : ∀ {p : List UInt8} (q : List UInt8), c ∉ p → cutL c (p ++ c :: q) = p :: cutL c q
  | [], q, _ => by simp [cutL]
  | x :: r, q, h => by
    have h1 : x ≠ c := fun e => h (by simp [e])
    have h2 : c ∉ r := fun e => h (by simp [e])
    simp [cutL, h1, cutL_at q h2]
theorem has_split {c : UInt8} : ∀ {l : List UInt8}, c ∈ l → ∃ p q, l = p ++ c :: q ∧ c ∉ p
  | [], h => by cases h
  | x :: r, h => by
    by_cases e : x = c
    · exact ⟨[], r, by simp [e], by simp⟩
    · obtain ⟨p, q, h1, h2⟩ := has_split (l := r) (by rcases List.mem_cons.1 h with h | h; exact absurd h.symm e; exact h)
      exact ⟨x :: p, q, by simp [h1], by simp [h2]; exact fun h => e h.symm⟩
/-- The pieces, with c between them. -/
def gluL (c : UInt8) : List (List UInt8) → List UInt8
  | [] => []
  | [p] => p
  | p :: q => p ++ c :: gluL c q
theorem gluL_cons {c : UInt8} {p : List UInt8} {q : List (List UInt8)} (h : q ≠ []) : gluL c (p :: q) = p ++ c :: gluL c q := by
  cases q with
  | nil => exact absurd rfl h
  | cons x r => rfl
theorem gluL_cut (c : UInt8) : ∀ (n : Nat) (l : List UInt8), l.length < n → gluL c (cutL c l) = l
  | 0, _, h => absurd h (Nat.not_lt_zero _)
  | n + 1, l, h => by
    by_cases hc : c ∈ l
    · obtain ⟨p, q, rfl, h2⟩ := has_split hc
      rw [cutL_at q h2, gluL_cons (cutL_ne c q), gluL_cut c n q (by simp at h; omega)]
    · rw [cutL_no hc]; rfl
theorem gluL_cutL (c : UInt8) (l : List UInt8) : gluL c (cutL c l) = l := gluL_cut c _ l (Nat.lt_succ_self _)
theorem cutL_gluL {c : UInt8} : ∀ {xs : List (List UInt8)}, xs ≠ [] → (∀ p, p ∈ xs → c ∉ p) → cutL c (gluL c xs) = xs
  | [], h, _ => absurd rfl h
  | [p], _, h => cutL_no (h p (by simp))
  | p :: q :: r, _, h => by
    rw [gluL_cons (by simp), cutL_at _ (h p (by simp)), cutL_gluL (by simp) (fun x hx => h x (by simp at hx ⊢; exact .inr hx))]
theorem cutL_mem {c : UInt8} : ∀ (n : Nat) {l : List UInt8}, l.length < n → ∀ p, p ∈ cutL c l → c ∉ p
  | 0, _, h => absurd h (Nat.not_lt_zero _)
  | n + 1, l, h => by
    intro p hp
    by_cases hc : c ∈ l
    · obtain ⟨a, q, rfl, h2⟩ := has_split hc
      rw [cutL_at q h2] at hp
      rcases List.mem_cons.1 hp with rfl | hp
      · exact h2
      · exact cutL_mem n (by simp at h; omega) p hp
    · rw [cutL_no hc] at hp
      rw [List.mem_singleton.1 hp]; exact hc
theorem cutL_len (c : UInt8) : ∀ (l : List UInt8), (cutL c l).length ≤ l.length + 1
  | [] => by simp [cutL]
  | x :: r => by
    have ih := cutL_len c r
    unfold cutL
    split
    · simp; omega
    · simp; omega
theorem cutL_part {c : UInt8} : ∀ (n : Nat) {l : List UInt8}, l.length < n → ∀ p, p ∈ cutL c l → p.length ≤ l.length
  | 0, _, h => absurd h (Nat.not_lt_zero _)
  | n + 1, l, h => by
    intro p hp
    by_cases hc : c ∈ l
    · obtain ⟨a, q, rfl, h2⟩ := has_split hc
      rw [cutL_at q h2] at hp
      rcases List.mem_cons.1 hp with rfl | hp
      · simp
      · have := cutL_part n (by simp at h; omega) p hp
        simp; omega
    · rw [cutL_no hc] at hp
      rw [List.mem_singleton.1 hp]; exact Nat.le_refl _
theorem cutL_partL {c : UInt8} {l p : List UInt8} (h : p ∈ cutL c l) : p.length ≤ l.length := cutL_part _ (Nat.lt_succ_self _) p h

--# index
theorem index_one (c : UInt8) : ∀ (l : List UInt8), (Lib.index l [c] = -1 ∧ c ∉ l) ∨ ∃ p q, l = p ++ c :: q ∧ c ∉ p ∧ Lib.index l [c] = (p.length : Int)
  | [] => .inl ⟨rfl, by simp⟩
  | b :: l => by
    by_cases e : b = c
    · subst e
      exact .inr ⟨[], l, rfl, by simp, by simp [Lib.index]⟩
    · have hp : ([c] : List UInt8).isPrefixOf (b :: l) = false := by
        simp [List.isPrefixOf]; exact fun h => e h.symm
      rcases index_one c l with ⟨h1, h2⟩ | ⟨p, q, h1, h2, h3⟩
      · exact .inl ⟨by unfold Lib.index; rw [hp, h1]; rfl, by simp [h2]; exact fun h => e h.symm⟩
      · refine .inr ⟨b :: p, q, by rw [h1]; rfl, by simp [h2]; exact fun h => e h.symm, ?_⟩
        unfold Lib.index
        rw [hp, h3]
        have : ¬ ((p.length : Int) == -1) = true := by rw [beq_iff_eq]; omega
        simp only [this, if_false]
        simp
theorem splitK_cut (c : UInt8) : ∀ (n : Nat) (l : List UInt8), l.length < n → Lib.splitK [c] 0 (Lib.count l [c]) l = cutL c l
  | 0, _, h => absurd h (Nat.not_lt_zero _)
  | n + 1, l, h => by
    rcases index_one c l with ⟨h1, h2⟩ | ⟨p, q, h1, h2, h3⟩
    · rw [Lib.count_miss h1, cutL_no h2]; rfl
    · have hd : l.drop (p.length + [c].length) = q := by rw [h1]; simp
      have ht : l.take (p.length + 0) = p := by rw [h1]; simp
      rw [Lib.count_hit (by simp) h3, Nat.add_comm 1, Lib.splitK]
      have hm : ¬ ((Lib.index l [c]) == -1) = true := by rw [h3, beq_iff_eq]; omega
      rw [if_neg hm, h3, Int.toNat_natCast, hd, ht]
      rw [splitK_cut c n q (by rw [h1] at h; simp at h; omega)]
      rw [h1, cutL_at q h2]
theorem splitB_cut (c : UInt8) (s : ByteArray) : Lib.splitB ⟨#[c]⟩ 0 (Lib.countB s ⟨#[c]⟩) s = (cutL c s.data.toList).map bs := by
  have h := Lib.splitB_data ⟨#[c]⟩ 0 (Lib.countB s ⟨#[c]⟩) s
  have h2 : Lib.splitK [c] 0 (Lib.count s.data.toList [c]) s.data.toList = cutL c s.data.toList := splitK_cut c _ _ (Nat.lt_succ_self _)
  have h3 : (Lib.splitB ⟨#[c]⟩ 0 (Lib.countB s ⟨#[c]⟩) s).map (·.data.toList) = cutL c s.data.toList := h.trans h2
  rw [← h3, List.map_map]
  conv => lhs; rw [← List.map_id (Lib.splitB ⟨#[c]⟩ 0 (Lib.countB s ⟨#[c]⟩) s)]
  rfl
theorem countB_cut (c : UInt8) (s : ByteArray) : Lib.countB s ⟨#[c]⟩ + 1 = (cutL c s.data.toList).length := by
  have h2 : Lib.splitK [c] 0 (Lib.count s.data.toList [c]) s.data.toList = cutL c s.data.toList := splitK_cut c _ _ (Nat.lt_succ_self _)
  have : ∀ (n : Nat) (l : List UInt8), l.length < n → Lib.count l [c] + 1 = (cutL c l).length := by
    intro n
    induction n with
    | zero => intro l h; exact absurd h (Nat.not_lt_zero _)
    | succ n ih =>
      intro l h
      rcases index_one c l with ⟨h1, h2⟩ | ⟨p, q, h1, h2, h3⟩
      · rw [Lib.count_miss h1, cutL_no h2]; rfl
      · have hd : l.drop (p.length + [c].length) = q := by rw [h1]; simp
        rw [Lib.count_hit (by simp) h3, hd, Nat.add_comm 1, ih q (by rw [h1] at h; simp at h; omega)]
        rw [h1, cutL_at q h2, List.length_cons]
  exact this _ _ (Nat.lt_succ_self _)
/-- What stands before the first c (all, if there is none), and what stands behind it. -/
def cu1 (c : UInt8) (l : List UInt8) : List UInt8 := (Lib.cut l [c]).1
def cu2 (c : UInt8) (l : List UInt8) : List UInt8 := (Lib.cut l [c]).2.1
theorem cut_one (c : UInt8) (l : List UInt8) : (c ∉ l ∧ cu1 c l = l ∧ cu2 c l = []) ∨ ∃ p q, l = p ++ c :: q ∧ c ∉ p ∧ cu1 c l = p ∧ cu2 c l = q := by
  rcases index_one c l with ⟨h1, h2⟩ | ⟨p, q, h1, h2, h3⟩
  · refine .inl ⟨h2, ?_, ?_⟩ <;> simp [cu1, cu2, Lib.cut, h1]
  · have hd : l.drop (p.length + [c].length) = q := by rw [h1]; simp
    have ht : l.take p.length = p := by rw [h1]; simp
    refine .inr ⟨p, q, h1, h2, ?_, ?_⟩
    · unfold cu1 Lib.cut
      rw [if_pos (by rw [h3]; omega), h3]
      simpa using ht
    · unfold cu2 Lib.cut
      rw [if_pos (by rw [h3]; omega), h3]
      simpa using hd
theorem cu_len (c : UInt8) (l : List UInt8) : (cu1 c l).length ≤ l.length ∧ (cu2 c l).length ≤ l.length := by
  rcases cut_one c l with ⟨_, h1, h2⟩ | ⟨p, q, h0, _, h1, h2⟩
  · rw [h1, h2]; simp
  · rw [h1, h2, h0]; simp; omega
/-- Two pieces just where c stands once. -/
theorem cut_two {c : UInt8} {l : List UInt8} (h : c ∈ l) (h2 : c ∉ cu2 c l) : cutL c l = [cu1 c l, cu2 c l] := by
  rcases cut_one c l with ⟨h1, _⟩ | ⟨p, q, h0, hp, e1, e2⟩
  · exact absurd h h1
  · rw [e2] at h2
    rw [e1, e2]
    conv => lhs; rw [h0]
    rw [cutL_at q hp, cutL_no h2]
theorem cut_two' {c : UInt8} {l : List UInt8} (h : (cutL c l).length = 2) : cutL c l = [cu1 c l, cu2 c l] := by
  rcases cut_one c l with ⟨h1, _⟩ | ⟨p, q, h0, hp, e1, e2⟩
  · rw [cutL_no h1] at h; simp at h
  · have e : cutL c l = p :: cutL c q := by rw [h0]; exact cutL_at q hp
    by_cases hq : c ∈ q
    · obtain ⟨a, b, rfl, ha⟩ := has_split hq
      rw [e, cutL_at b ha] at h
      have := List.length_pos_iff.2 (cutL_ne c b)
      simp at h
      exact absurd h (cutL_ne c b)
    · rw [e, cutL_no hq, e1, e2]

--# numbers
theorem decFrom_app : ∀ (p q : List UInt8) (acc : Nat), Lib.decFrom acc (p ++ q) = (Lib.decFrom acc p).bind fun m => Lib.decFrom m q
  | [], q, acc => rfl
  | x :: p, q, acc => by
    simp only [List.cons_append, Lib.decFrom]
    cases Lib.digitVal x with
    | none => rfl
    | some d => exact decFrom_app p q _
theorem digitVal_some {x : UInt8} {d : Nat} (h : Lib.digitVal x = some d) : 48 ≤ x.toNat ∧ x.toNat ≤ 57 ∧ d = x.toNat - 48 := by
  unfold Lib.digitVal at h
  split at h
  · next h1 => exact ⟨h1.1, h1.2, (Option.some.inj h).symm⟩
  · cases h
theorem digitVal_of {x : UInt8} (h : 48 ≤ x.toNat ∧ x.toNat ≤ 57) : Lib.digitVal x = some (x.toNat - 48) := by
  unfold Lib.digitVal
  rw [if_pos h]
theorem decFrom_dig : ∀ {l : List UInt8} {acc n : Nat}, Lib.decFrom acc l = some n → ∀ x, x ∈ l → 48 ≤ x.toNat ∧ x.toNat ≤ 57
  | [], _, _, _ => by simp
  | y :: r, acc, n, h => by
    simp only [Lib.decFrom] at h
    cases hd : Lib.digitVal y with
    | none => rw [hd] at h; cases h
    | some d =>
      rw [hd] at h
      intro x hx
      rcases List.mem_cons.1 hx with rfl | hx
      · have := digitVal_some hd; exact ⟨this.1, this.2.1⟩
      · exact decFrom_dig h x hx
theorem decFrom_ge : ∀ {l : List UInt8} {acc n : Nat}, Lib.decFrom acc l = some n → acc ≤ n
  | [], _, _, h => by simp [Lib.decFrom] at h; omega
  | y :: r, acc, n, h => by
    simp only [Lib.decFrom] at h
    cases hd : Lib.digitVal y with
    | none => rw [hd] at h; cases h
    | some d => rw [hd] at h; have := decFrom_ge h; omega
/-- A number without a sign, of at most nine digits, without needless zeros. -/
def numL (l : List UInt8) : Option Nat := if l = [] ∨ 9 < l.length ∨ (l.head? = some 48 ∧ 1 < l.length) then none else Lib.decFrom 0 l
def numO (l : List UInt8) : Bool := (numL l).isSome
def numV (l : List UInt8) : Int := (((numL l).getD 0 : Nat) : Int)
theorem numL_of {l : List UInt8} (h : numO l = true) : ∃ n, numL l = some n ∧ numV l = n := by
  unfold numO at h
  obtain ⟨n, hn⟩ := Option.isSome_iff_exists.1 h
  exact ⟨n, hn, by unfold numV; rw [hn]; rfl⟩
theorem numL_dec {l : List UInt8} {n : Nat} (h : numL l = some n) : l ≠ [] ∧ l.length ≤ 9 ∧ ¬ (l.head? = some 48 ∧ 1 < l.length) ∧ Lib.decFrom 0 l = some n := by
  unfold numL at h
  split at h
  · cases h
  · next hc =>
    refine ⟨fun e => hc (.inl e), ?_, fun e => hc (.inr (.inr e)), h⟩
    rcases Nat.lt_or_ge 9 l.length with h' | h'
    · exact absurd (.inr (.inl h')) hc
    · exact h'
theorem numO_dig {l : List UInt8} (h : numO l = true) : ∀ x, x ∈ l → 48 ≤ x.toNat ∧ x.toNat ≤ 57 := by
  obtain ⟨n, hn, _⟩ := numL_of h
  exact decFrom_dig (numL_dec hn).2.2.2
theorem numO_ne {l : List UInt8} (h : numO l = true) : l ≠ [] := by
  obtain ⟨n, hn, _⟩ := numL_of h
  exact (numL_dec hn).1
theorem numV_in (l : List UInt8) : 0 ≤ numV l ∧ numV l ≤ 999999999 := by
  unfold numV
  cases h : numL l with
  | none => simp
  | some n =>
    have h1 := numL_dec h
    have h2 := Lib.decFrom_lt l 0 n h1.2.2.2
    have h3 : 10 ^ l.length ≤ 10 ^ 9 := Nat.pow_le_pow_right (by decide) h1.2.1
    have e : (10 : Nat) ^ 9 = 1000000000 := by decide
    show 0 ≤ ((n : Nat) : Int) ∧ ((n : Nat) : Int) ≤ 999999999
    omega
theorem dig_ofNat {x : UInt8} (h : 48 ≤ x.toNat ∧ x.toNat ≤ 57) : UInt8.ofNat (48 + (x.toNat - 48)) = x := by
  rw [show 48 + (x.toNat - 48) = x.toNat by omega]
  exact UInt8.ofNat_toNat
theorem decDigits_of : ∀ (k : Nat) {l : List UInt8} {n : Nat}, l.length = k → l ≠ [] → ¬ (l.head? = some 48 ∧ 1 < l.length) → Lib.decFrom 0 l = some n → Lib.decDigits n = l
  | 0, l, n, hk, hne, _, _ => absurd (List.length_eq_zero_iff.1 hk) hne
  | k + 1, l, n, hk, hne, hz, h => by
    obtain ⟨p, x, rfl⟩ : ∃ p x, l = p ++ [x] := ⟨l.dropLast, l.getLast hne, (List.dropLast_concat_getLast hne).symm⟩
    rw [decFrom_app] at h
    cases hp : Lib.decFrom 0 p with
    | none => rw [hp] at h; cases h
    | some m =>
      rw [hp] at h
      simp only [Option.bind_some, Lib.decFrom] at h
      cases hd : Lib.digitVal x with
      | none => rw [hd] at h; cases h
      | some d =>
        rw [hd] at h
        have hx := digitVal_some hd
        have hn : n = m * 10 + d := (Option.some.inj h).symm
        by_cases hpe : p = []
        · subst hpe
          simp only [Lib.decFrom] at hp
          have hm : m = 0 := (Option.some.inj hp).symm
          rw [Lib.decDigits, dif_pos (by omega), hn, hm, hx.2.2, Nat.zero_mul, Nat.zero_add, dig_ofNat ⟨hx.1, hx.2.1⟩]
          rfl
        · have hpl : 0 < p.length := List.length_pos_iff.2 hpe
          have hh : (p ++ [x]).head? = p.head? := by cases p with | nil => exact absurd rfl hpe | cons a b => rfl
          have hz1 : p.head? ≠ some 48 := fun e => hz ⟨hh.trans e, by simp; omega⟩
          have hm1 : 1 ≤ m := by
            obtain ⟨a, b, rfl⟩ : ∃ a b, p = a :: b := by cases p with | nil => exact absurd rfl hpe | cons a b => exact ⟨a, b, rfl⟩
            simp only [Lib.decFrom] at hp
            cases hda : Lib.digitVal a with
            | none => rw [hda] at hp; cases hp
            | some da =>
              rw [hda] at hp
              have h1 := digitVal_some hda
              have h2 := decFrom_ge hp
              have h3 : a ≠ 48 := fun e => hz1 (by rw [e]; rfl)
              have h4 : a.toNat ≠ 48 := fun e => h3 (UInt8.toNat_inj.1 e)
              omega
          have ih := decDigits_of k (l := p) (n := m) (by simp at hk; omega) hpe (fun e => hz1 e.1) hp
          rw [Lib.decDigits, dif_neg (by omega), show n / 10 = m by omega, show n % 10 = d by omega, ih, hx.2.2, dig_ofNat ⟨hx.1, hx.2.1⟩]
theorem numL_digits {l : List UInt8} {n : Nat} (h : numL l = some n) : Lib.decDigits n = l :=
  decDigits_of _ rfl (numL_dec h).1 (numL_dec h).2.2.1 (numL_dec h).2.2.2
theorem digitVal_ofNat {d : Nat} (h : d < 10) : Lib.digitVal (UInt8.ofNat (48 + d)) = some d := by
  have e : (UInt8.ofNat (48 + d)).toNat = 48 + d := by rw [UInt8.toNat_ofNat']; omega
  rw [digitVal_of (by omega), e]
  congr 1
  omega
theorem decFrom_digits : ∀ (k n : Nat), n < k → Lib.decFrom 0 (Lib.decDigits n) = some n
  | 0, n, h => absurd h (Nat.not_lt_zero _)
  | k + 1, n, h => by
    by_cases h1 : n < 10
    · rw [Lib.decDigits, dif_pos h1]
      simp only [Lib.decFrom]
      rw [digitVal_ofNat h1]
      simp
    · rw [Lib.decDigits, dif_neg h1, decFrom_app, decFrom_digits k (n / 10) (by omega)]
      simp only [Option.bind_some, Lib.decFrom]
      rw [digitVal_ofNat (by omega)]
      simp only []
      congr 1
      omega
theorem decDigits_ne (n : Nat) : Lib.decDigits n ≠ [] := by
  rw [Lib.decDigits]
  split <;> simp
theorem decDigits_head : ∀ (k n : Nat), n < k → 1 ≤ n → (Lib.decDigits n).head? ≠ some 48
  | 0, n, h, _ => absurd h (Nat.not_lt_zero _)
  | k + 1, n, h, h0 => by
    by_cases h1 : n < 10
    · rw [Lib.decDigits, dif_pos h1]
      intro e
      have e2 := Option.some.inj e
      have e3 := congrArg UInt8.toNat e2
      rw [UInt8.toNat_ofNat'] at e3
      have : (48 : UInt8).toNat = 48 := rfl
      omega
    · rw [Lib.decDigits, dif_neg h1]
      have ih := decDigits_head k (n / 10) (by omega) (by omega)
      cases hq : Lib.decDigits (n / 10) with
      | nil => exact absurd hq (decDigits_ne _)
      | cons a b => rw [hq] at ih; exact ih
theorem decDigits_len {n k : Nat} (hk : 1 ≤ k) (h : n < 10 ^ k) : (Lib.decDigits n).length ≤ k := by
  rw [Lib.decDigits_length]
  have hp := Lib.nDigits_pos n
  obtain ⟨m, hm⟩ : ∃ m, Lib.nDigits n = m + 1 := ⟨Lib.nDigits n - 1, by omega⟩
  by_cases h0 : m = 0
  · omega
  · rcases Nat.lt_or_ge k (Lib.nDigits n) with hlt | hge
    · exfalso
      have h1 : ∀ (j u : Nat), Lib.nDigits u = j + 1 → j ≠ 0 → 10 ^ j ≤ u := by
        intro j
        induction j with
        | zero => intro u _ h; exact absurd rfl h
        | succ j ih =>
          intro u hu _
          by_cases hs : u < 10
          · rw [Lib.nDigits_small hs] at hu; omega
          · rw [Lib.nDigits_big hs] at hu
            by_cases hj : j = 0
            · subst hj; simp; omega
            · have := ih (u / 10) (by omega) hj
              rw [Nat.pow_succ]; omega
      have h2 := h1 m n hm h0
      have h3 : 10 ^ k ≤ 10 ^ m := Nat.pow_le_pow_right (by decide) (by omega)
      omega
    · exact hge
theorem numL_decDigits {n : Nat} (h : n < 1000000000) : numL (Lib.decDigits n) = some n := by
  have h1 := decDigits_len (n := n) (k := 9) (by decide) (by simpa using h)
  unfold numL
  rw [if_neg ?_, decFrom_digits _ n (Nat.lt_succ_self _)]
  rintro (h2 | h2 | ⟨h2, h3⟩)
  · exact decDigits_ne n h2
  · omega
  · by_cases h0 : n = 0
    · subst h0
      have : (Lib.decDigits 0).length = 1 := by rw [Lib.decDigits]; rfl
      omega
    · exact decDigits_head _ n (Nat.lt_succ_self _) (by omega) h2
theorem numL_parse {l : List UInt8} {n : Nat} (h : numL l = some n) : Lib.parseIntB 64 l = .ok (n : Int) := by
  have hd := numL_dec h
  rw [Lib.parseIntB_64, Lib.atoiAll_short l (by omega)]
  have ha : Lib.atoi l = some (n : Int) := by
    cases l with
    | nil => exact absurd rfl hd.1
    | cons b r =>
      have hb := decFrom_dig hd.2.2.2 b (by simp)
      have h1 : (b == 45) = false := by rw [beq_eq_false_iff_ne]; intro e; rw [e] at hb; exact absurd hb.1 (by decide)
      have h2 : (b == 43) = false := by rw [beq_eq_false_iff_ne]; intro e; rw [e] at hb; exact absurd hb.1 (by decide)
      simp only [Lib.atoi, h1, h2, Bool.false_eq_true, if_false, Lib.decNat, List.isEmpty_cons]
      rw [hd.2.2.2]
      rfl
  rw [ha]
  rfl
/-- Whether a word is a number from lo to hi. -/
def parO (l : List UInt8) (lo hi : Int) : Bool := numO l && inB (numV l) lo hi
theorem parO_n {l : List UInt8} {lo hi : Int} (h : ∀ v, Lib.parseIntB 64 l ≠ .ok v) : parO l lo hi = false := by
  cases hn : numL l with
  | none => unfold parO numO; rw [hn]; rfl
  | some n => exact absurd (numL_parse hn) (h _)
theorem parO_v {l : List UInt8} {lo hi v : Int} (h0 : 0 ≤ lo) (h9 : hi ≤ 999999999) (h : Lib.parseIntB 64 l = .ok v) : parO l lo hi = (inB v lo hi && decide (Lib.itoa v = l)) := by
  cases hn : numL l with
  | some n =>
    have h1 := numL_parse hn
    rw [h] at h1
    have hv : v = n := Lib.NumEnd.ok.inj h1
    have hi : Lib.itoa v = l := by
      unfold Lib.itoa
      rw [if_neg (by omega), hv, Int.toNat_natCast]
      exact numL_digits hn
    unfold parO numO numV
    rw [hn, decide_eq_true hi, hv]
    simp
  | none =>
    have : parO l lo hi = false := by unfold parO numO; rw [hn]; rfl
    rw [this]
    symm
    rw [Bool.and_eq_false_iff]
    by_cases hb : inB v lo hi = true
    · right
      rw [decide_eq_false_iff_not]
      intro e
      unfold inB at hb
      simp only [Bool.and_eq_true, decide_eq_true_eq] at hb
      unfold Lib.itoa at e
      rw [if_neg (by omega)] at e
      have := numL_decDigits (n := v.toNat) (by omega)
      rw [e, hn] at this
      cases this
    · left; simpa using hb
theorem parO_val {l : List UInt8} {lo hi v : Int} (h : Lib.parseIntB 64 l = .ok v) (hp : parO l lo hi = true) : v = numV l := by
  unfold parO at hp
  rw [Bool.and_eq_true] at hp
  obtain ⟨n, hn, hv⟩ := numL_of hp.1
  have h1 := numL_parse hn
  rw [h] at h1
  rw [hv]
  exact Lib.NumEnd.ok.inj h1
theorem parO_num {l : List UInt8} {lo hi : Int} (hp : parO l lo hi = true) : numO l = true ∧ lo ≤ numV l ∧ numV l ≤ hi := by
  unfold parO inB at hp
  simp only [Bool.and_eq_true, decide_eq_true_eq] at hp
  exact ⟨hp.1, hp.2⟩
end Go.Proofs.YteiplklloajjaaaGreatDoor
