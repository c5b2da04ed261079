/-
  Fields moved, twice mirrored, four times turned; seeds taken, sown, summed; a drawn number. No conditions.
-/
import Derived.Test.YteiplklloajjaaaGreatDoorMv
import Derived.Test.YteiplklloajjaaaGreatDoorLs
namespace Go.Proofs.YteiplklloajjaaaGreatDoor
set_option linter.unusedSimpArgs false
set_option linter.unusedVariables false


--# moved cells
section
variable {F : Fld} {a b : Int} {q : Int → Int → Int}
theorem mvC_wh (n : Nat) : (mvC F a b q n).w = a ∧ (mvC F a b q n).h = b := by
  unfold mvC
  refine foldC_inv (P := fun G : Fld => G.w = a ∧ G.h = b) n ⟨rfl, rfl⟩ (fun G c _ p => ?_)
  exact ⟨p.1, p.2⟩
theorem mvC_at : ∀ n, n ≤ 100 → ∀ i, (mvC F a b q n).k i = (if i < n ∧ isB (fldWH a b) i = true then F.k (q ((i : Int) % 10) ((i : Int) / 10)).toNat else 0) ∧ (mvC F a b q n).s i = (if i < n ∧ isB (fldWH a b) i = true then F.s (q ((i : Int) % 10) ((i : Int) / 10)).toNat else 0)
  | 0, _, i => by
    rw [mvC_0, if_neg (by omega), if_neg (by omega)]; exact ⟨rfl, rfl⟩
  | n + 1, hn, i => by
    have ih := mvC_at n (by omega) i
    cases hB : isB (fldWH a b) (n : Int) with
    | true =>
      rw [mvC_s hB rfl]
      show upd _ _ _ i = _ ∧ upd _ _ _ i = _
      by_cases e : i = n
      · subst e
        rw [show ((i : Int)).toNat = i by omega, upd_self, upd_self, if_pos ⟨by omega, hB⟩, if_pos ⟨by omega, hB⟩]
        exact ⟨rfl, rfl⟩
      · rw [show ((n : Int)).toNat = n by omega, upd_ne _ _ e, upd_ne _ _ e, ih.1, ih.2]
        by_cases h2 : i < n ∧ isB (fldWH a b) i = true
        · rw [if_pos h2, if_pos h2, if_pos ⟨by omega, h2.2⟩, if_pos ⟨by omega, h2.2⟩]; exact ⟨rfl, rfl⟩
        · rw [if_neg h2, if_neg h2, if_neg (fun h => h2 ⟨by omega, h.2⟩), if_neg (fun h => h2 ⟨by omega, h.2⟩)]; exact ⟨rfl, rfl⟩
    | false =>
      rw [mvC_2 hB, ih.1, ih.2]
      by_cases h2 : i < n ∧ isB (fldWH a b) i = true
      · rw [if_pos h2, if_pos h2, if_pos ⟨by omega, h2.2⟩, if_pos ⟨by omega, h2.2⟩]; exact ⟨rfl, rfl⟩
      · have h3 : ¬ (i < n + 1 ∧ isB (fldWH a b) i = true) := fun h => by
          by_cases e : i = n
          · subst e; rw [hB] at h; exact absurd h.2 (by decide)
          · exact h2 ⟨by omega, h.2⟩
        rw [if_neg h2, if_neg h2, if_neg h3, if_neg h3]; exact ⟨rfl, rfl⟩
end
/-- A valid field, cell by cell: beyond the board nothing. -/
theorem ok_off {F : Fld} (h : okB F = true) {i : Nat} (hi : i < 100) (hB : isB F i = false) : F.k i = 0 ∧ F.s i = 0 := by
  have := (okB_true.1 h).2.2.2.2 i hi
  rw [celB_out hB, decide_eq_true_eq] at this
  exact this
theorem ok_on {F : Fld} (h : okB F = true) {i : Nat} (hi : i < 100) (hB : isB F i = true) : 0 ≤ F.k i ∧ F.k i ≤ 3 ∧ 0 ≤ F.s i ∧ F.s i ≤ 1000 ∧ (F.k i = 0 ∨ F.s i = 0) := by
  have := (okB_true.1 h).2.2.2.2 i hi
  rw [celB_in hB, decide_eq_true_eq] at this
  exact this
/-- G has at each cell of its board what F has at the cell q of its own. -/
structure Moved (F G : Fld) (a b : Int) (q : Nat → Nat) : Prop where
  w : G.w = a
  h : G.h = b
  inn : ∀ i : Nat, i < 100 → isB (fldWH a b) i = true → q i < 100 ∧ isB F (q i : Nat) = true ∧ G.k i = F.k (q i) ∧ G.s i = F.s (q i)
  off : ∀ i : Nat, i < 100 → isB (fldWH a b) i = false → G.k i = 0 ∧ G.s i = 0
section
variable {F G : Fld} {a b : Int} {q : Nat → Nat}
theorem Moved.ok (hF : okB F = true) (m : Moved F G a b q) (ha : 1 ≤ a ∧ a ≤ 10) (hb : 1 ≤ b ∧ b ≤ 10) : okB G = true := by
  have eB : ∀ c : Int, isB G c = isB (fldWH a b) c := fun c => isB_wh m.w m.h
  refine okB_true.2 ⟨by rw [m.w]; exact ha.1, by rw [m.w]; exact ha.2, by rw [m.h]; exact hb.1, by rw [m.h]; exact hb.2, fun i hi => ?_⟩
  cases hB : isB (fldWH a b) i with
  | true =>
    obtain ⟨h1, h2, h3, h4⟩ := m.inn i hi hB
    have := ok_on hF h1 h2
    rw [celB_in ((eB i).trans hB), decide_eq_true_eq, h3, h4]
    exact this
  | false =>
    rw [celB_out ((eB i).trans hB), decide_eq_true_eq]
    exact m.off i hi hB
theorem Moved.wf (hF : F.wf) (m : Moved F G a b q) (ha : 1 ≤ a ∧ a ≤ 10) (hb : 1 ≤ b ∧ b ≤ 10) : G.wf := by
  refine ⟨by rw [m.w]; omega, by rw [m.w]; omega, by rw [m.h]; omega, by rw [m.h]; omega, fun i hi => ?_, fun i hi => ?_⟩
  · cases hB : isB (fldWH a b) i with
    | true => rw [(m.inn i hi hB).2.2.1]; exact hF.k1 _ (m.inn i hi hB).1
    | false => rw [(m.off i hi hB).1]; omega
  · cases hB : isB (fldWH a b) i with
    | true => rw [(m.inn i hi hB).2.2.2]; exact hF.s1 _ (m.inn i hi hB).1
    | false => rw [(m.off i hi hB).2]; omega
theorem mir_moved (h : okB F = true) : Moved F (mirF F) F.w F.h (fun i => (F.w - 1 - (i : Int) % 10 + 10 * ((i : Int) / 10)).toNat) := by
  have hw := ok_wh h
  rw [mirF_t h]
  refine ⟨?_, ?_, fun i hi hB => ?_, fun i hi hB => ?_⟩
  · exact (mvC_wh 100).1
  · exact (mvC_wh 100).2
  · have hb := isB_W hB
    have e := mvC_at (F := F) (a := F.w) (b := F.h) (q := mirQ F) 100 (Nat.le_refl _) i
    rw [if_pos ⟨hi, hB⟩, if_pos ⟨hi, hB⟩] at e
    refine ⟨by omega, isB_true.2 (by omega), e.1, e.2⟩
  · have e := mvC_at (F := F) (a := F.w) (b := F.h) (q := mirQ F) 100 (Nat.le_refl _) i
    rw [if_neg (fun x => by rw [hB] at x; exact absurd x.2 (by decide)), if_neg (fun x => by rw [hB] at x; exact absurd x.2 (by decide))] at e
    exact e
theorem tur_moved (h : okB F = true) : Moved F (turF F) F.h F.w (fun i => ((i : Int) / 10 + 10 * (F.h - 1 - (i : Int) % 10)).toNat) := by
  have hw := ok_wh h
  rw [turF_t h]
  refine ⟨?_, ?_, fun i hi hB => ?_, fun i hi hB => ?_⟩
  · exact (mvC_wh 100).1
  · exact (mvC_wh 100).2
  · have hb := isB_W hB
    have e := mvC_at (F := F) (a := F.h) (b := F.w) (q := turQ F) 100 (Nat.le_refl _) i
    rw [if_pos ⟨hi, hB⟩, if_pos ⟨hi, hB⟩] at e
    refine ⟨by omega, isB_true.2 (by omega), e.1, e.2⟩
  · have e := mvC_at (F := F) (a := F.h) (b := F.w) (q := turQ F) 100 (Nat.le_refl _) i
    rw [if_neg (fun x => by rw [hB] at x; exact absurd x.2 (by decide)), if_neg (fun x => by rw [hB] at x; exact absurd x.2 (by decide))] at e
    exact e
end


--# moved twice
section
variable {F : Fld}
theorem mir_ok (h : okB F = true) : okB (mirF F) = true := (mir_moved h).ok h ⟨(ok_wh h).1, (ok_wh h).2.1⟩ ⟨(ok_wh h).2.2.1, (ok_wh h).2.2.2⟩
theorem tur_ok (h : okB F = true) : okB (turF F) = true := (tur_moved h).ok h ⟨(ok_wh h).2.2.1, (ok_wh h).2.2.2⟩ ⟨(ok_wh h).1, (ok_wh h).2.1⟩
theorem mir_wf (h : okB F = true) (hF : F.wf) : (mirF F).wf := (mir_moved h).wf hF ⟨(ok_wh h).1, (ok_wh h).2.1⟩ ⟨(ok_wh h).2.2.1, (ok_wh h).2.2.2⟩
theorem tur_wf (h : okB F = true) (hF : F.wf) : (turF F).wf := (tur_moved h).wf hF ⟨(ok_wh h).2.2.1, (ok_wh h).2.2.2⟩ ⟨(ok_wh h).1, (ok_wh h).2.1⟩
theorem mir_mir (h : okB F = true) : (mirF (mirF F)).cells = F.cells := by
  have hw := ok_wh h
  have m1 := mir_moved h
  have m2 := mir_moved (mir_ok h)
  have key : ∀ i, i < 100 → (mirF (mirF F)).k i = F.k i ∧ (mirF (mirF F)).s i = F.s i := fun i hi => by
    have e : isB (fldWH (mirF F).w (mirF F).h) i = isB F i := by rw [m1.w, m1.h]; exact isB_F F i
    cases hB : isB F i with
    | true =>
      have hb := isB_true.1 hB
      obtain ⟨a1, a2, a3, a4⟩ := m2.inn i hi (e.trans hB)
      rw [m1.w] at a1 a2 a3 a4
      have e2 : isB (fldWH F.w F.h) ((F.w - 1 - (i : Int) % 10 + 10 * ((i : Int) / 10)).toNat : Nat) = true := by
        rw [isB_F]; exact isB_true.2 (by omega)
      obtain ⟨b1, b2, b3, b4⟩ := m1.inn _ a1 e2
      have ei : (F.w - 1 - (((F.w - 1 - (i : Int) % 10 + 10 * ((i : Int) / 10)).toNat : Nat) : Int) % 10 + 10 * ((((F.w - 1 - (i : Int) % 10 + 10 * ((i : Int) / 10)).toNat : Nat) : Int) / 10)).toNat = i := by omega
      rw [ei] at b3 b4
      exact ⟨a3.trans b3, a4.trans b4⟩
    | false =>
      have o2 := m2.off i hi (e.trans hB)
      have o := ok_off h hi hB
      rw [o.1, o.2]; exact o2
  exact Fld.ext' (m2.w.trans m1.w) (m2.h.trans m1.h) (fun i hi => (key i hi).1) (fun i hi => (key i hi).2)
/-- What a field turned holds, by its coordinates. -/
theorem tur_at (h : okB F = true) {x y : Nat} (hx : x < 10) (hy : y < 10) : ((turF F).k (x + 10 * y) = if (x : Int) < F.h ∧ (y : Int) < F.w then F.k (y + 10 * (F.h.toNat - 1 - x)) else 0) ∧ ((turF F).s (x + 10 * y) = if (x : Int) < F.h ∧ (y : Int) < F.w then F.s (y + 10 * (F.h.toNat - 1 - x)) else 0) := by
  have hw := ok_wh h
  have m := tur_moved h
  by_cases hq : (x : Int) < F.h ∧ (y : Int) < F.w
  · rw [if_pos hq, if_pos hq]
    obtain ⟨_, _, a3, a4⟩ := m.inn (x + 10 * y) (by omega) (isB_true.2 ⟨by omega, by omega, by show ((x + 10 * y : Nat) : Int) % 10 < F.h; omega, by show ((x + 10 * y : Nat) : Int) / 10 < F.w; omega⟩)
    have ei : (((x + 10 * y : Nat) : Int) / 10 + 10 * (F.h - 1 - ((x + 10 * y : Nat) : Int) % 10)).toNat = y + 10 * (F.h.toNat - 1 - x) := by omega
    rw [ei] at a3 a4
    exact ⟨a3, a4⟩
  · rw [if_neg hq, if_neg hq]
    refine m.off (x + 10 * y) (by omega) ?_
    cases hB : isB (fldWH F.h F.w) ((x + 10 * y : Nat) : Int) with
    | false => rfl
    | true =>
      have hb := isB_W hB
      exact absurd ⟨by omega, by omega⟩ hq
theorem tur4 (h : okB F = true) : (turF (turF (turF (turF F)))).cells = F.cells := by
  have hw := ok_wh h
  have o1 := tur_ok h
  have o2 := tur_ok o1
  have o3 := tur_ok o2
  have m1 := tur_moved h
  have m2 := tur_moved o1
  have m3 := tur_moved o2
  have m4 := tur_moved o3
  have w1 := m1.w; have h1 := m1.h; have w2 := m2.w; have h2 := m2.h; have w3 := m3.w; have h3 := m3.h; have w4 := m4.w; have h4 := m4.h
  have key : ∀ i, i < 100 → (turF (turF (turF (turF F)))).k i = F.k i ∧ (turF (turF (turF (turF F)))).s i = F.s i := fun i hi => by
    have e : i = i % 10 + 10 * (i / 10) := by omega
    have t4 := tur_at o3 (x := i % 10) (y := i / 10) (by omega) (by omega)
    rw [← e] at t4
    cases hB : isB F i with
    | true =>
      have hb := isB_true.1 hB
      rw [if_pos (by omega), if_pos (by omega)] at t4
      have t3 := tur_at o2 (x := i / 10) (y := (turF (turF (turF F))).h.toNat - 1 - i % 10) (by omega) (by omega)
      rw [if_pos (by omega), if_pos (by omega)] at t3
      have t2 := tur_at o1 (x := (turF (turF (turF F))).h.toNat - 1 - i % 10) (y := (turF (turF F)).h.toNat - 1 - i / 10) (by omega) (by omega)
      rw [if_pos (by omega), if_pos (by omega)] at t2
      have t1 := tur_at h (x := (turF (turF F)).h.toNat - 1 - i / 10) (y := (turF F).h.toNat - 1 - ((turF (turF (turF F))).h.toNat - 1 - i % 10)) (by omega) (by omega)
      rw [if_pos (by omega), if_pos (by omega), show (turF F).h.toNat - 1 - ((turF (turF (turF F))).h.toNat - 1 - i % 10) + 10 * (F.h.toNat - 1 - ((turF (turF F)).h.toNat - 1 - i / 10)) = i by omega] at t1
      exact ⟨((t4.1.trans t3.1).trans t2.1).trans t1.1, ((t4.2.trans t3.2).trans t2.2).trans t1.2⟩
    | false =>
      have o := ok_off h hi hB
      have hn : ¬ (((i % 10 : Nat) : Int) < (turF (turF (turF F))).h ∧ ((i / 10 : Nat) : Int) < (turF (turF (turF F))).w) := fun hq => by
        have : isB F i = true := isB_true.2 (by omega)
        rw [this] at hB; cases hB
      rw [if_neg hn, if_neg hn] at t4
      rw [o.1, o.2]; exact t4
  exact Fld.ext' (by omega) (by omega) (fun i hi => (key i hi).1) (fun i hi => (key i hi).2)
end

--# sums
theorem sum_cong {f g : Nat → Int} : ∀ n, (∀ i, i < n → f i = g i) → sumN f n = sumN g n
  | 0, _ => rfl
  | n + 1, h => by
    show sumN f n + f n = sumN g n + g n
    rw [sum_cong n (fun i hi => h i (by omega)), h n (by omega)]
theorem sum_add {f g : Nat → Int} : ∀ n, sumN (fun i => f i + g i) n = sumN f n + sumN g n
  | 0 => rfl
  | n + 1 => by
    show sumN (fun i => f i + g i) n + (f n + g n) = sumN f n + f n + (sumN g n + g n)
    rw [sum_add n]; omega
theorem sum_zero : ∀ n, sumN (fun _ => 0) n = 0
  | 0 => rfl
  | n + 1 => by
    show sumN (fun _ => 0) n + 0 = 0
    rw [sum_zero n]; rfl
theorem sum_app {f : Nat → Int} (n : Nat) : ∀ m, sumN f (n + m) = sumN f n + sumN (fun i => f (n + i)) m
  | 0 => by show sumN f n = sumN f n + 0; omega
  | m + 1 => by
    show sumN f (n + m) + f (n + m) = sumN f n + (sumN (fun i => f (n + i)) m + f (n + m))
    rw [sum_app n m]; omega
theorem sum_ten {f : Nat → Int} : ∀ m, sumN f (10 * m) = sumN (fun y => sumN (fun x => f (x + 10 * y)) 10) m
  | 0 => rfl
  | m + 1 => by
    show sumN f (10 * m + 10) = _
    rw [sum_app, sum_ten m]
    show _ = sumN (fun y => sumN (fun x => f (x + 10 * y)) 10) m + sumN (fun x => f (x + 10 * m)) 10
    rw [sum_cong (f := fun i => f (10 * m + i)) (g := fun x => f (x + 10 * m)) 10 (fun i _ => by rw [Nat.add_comm])]
theorem sum_comm {g : Nat → Nat → Int} (n : Nat) : ∀ m, sumN (fun y => sumN (fun x => g x y) n) m = sumN (fun x => sumN (fun y => g x y) m) n
  | 0 => (sum_zero n).symm
  | m + 1 => by
    show sumN (fun y => sumN (fun x => g x y) n) m + sumN (fun x => g x m) n = sumN (fun x => sumN (fun y => g x y) m + g x m) n
    rw [sum_comm n m, sum_add]
theorem sum_left {f : Nat → Int} : ∀ n, sumN f (n + 1) = f 0 + sumN (fun i => f (i + 1)) n
  | 0 => by show 0 + f 0 = f 0 + 0; omega
  | n + 1 => by
    show sumN f (n + 1) + f (n + 1) = f 0 + (sumN (fun i => f (i + 1)) n + f (n + 1))
    rw [sum_left n]; omega
theorem sum_rev {f : Nat → Int} : ∀ n, sumN (fun x => f (n - 1 - x)) n = sumN f n
  | 0 => rfl
  | n + 1 => by
    rw [sum_left]
    show f (n + 1 - 1 - 0) + sumN (fun i => f (n + 1 - 1 - (i + 1))) n = sumN f n + f n
    rw [sum_cong (g := fun x => f (n - 1 - x)) n (fun i hi => by rw [show n + 1 - 1 - (i + 1) = n - 1 - i by omega]), sum_rev n, show n + 1 - 1 - 0 = n by omega]
    omega
theorem sum_cut {f : Nat → Int} {n m : Nat} (h : n ≤ m) (hz : ∀ i, n ≤ i → i < m → f i = 0) : sumN f m = sumN f n := by
  obtain ⟨k, rfl⟩ := Nat.exists_eq_add_of_le h
  rw [sum_app, sum_cong (g := fun _ => 0) k (fun i hi => hz (n + i) (by omega) (by omega)), sum_zero]; omega
theorem sum_upd {f : Nat → Int} {c : Nat} {v : Int} : ∀ n, sumN (upd f c v) n = sumN f n + (if c < n then v - f c else 0)
  | 0 => by rw [if_neg (by omega)]; rfl
  | n + 1 => by
    show sumN (upd f c v) n + upd f c v n = sumN f n + f n + _
    rw [sum_upd n]
    by_cases e : n = c
    · subst e
      rw [if_neg (by omega), if_pos (by omega), upd_self]; omega
    · rw [upd_ne _ _ e]
      by_cases hc : c < n
      · rw [if_pos hc, if_pos (by omega)]; omega
      · rw [if_neg hc, if_neg (by omega)]; omega
theorem sum_const (v : Int) : ∀ n, sumN (fun _ => v) n = (n : Int) * v
  | 0 => by simp [sumN]
  | n + 1 => by
    show sumN (fun _ => v) n + v = _
    rw [sum_const v n, Int.natCast_add, Int.add_mul]; simp
/-- The sum over a board alone. -/
theorem sum_board {f : Nat → Int} {W H : Nat} (hW : W ≤ 10) (hH : H ≤ 10) (hz : ∀ x y, x < 10 → y < 10 → ¬ (x < W ∧ y < H) → f (x + 10 * y) = 0) : sumN f 100 = sumN (fun y => sumN (fun x => f (x + 10 * y)) W) H := by
  rw [show (100 : Nat) = 10 * 10 from rfl, sum_ten]
  rw [sum_cut (n := H) (m := 10) hH (fun y h1 h2 => by
    rw [sum_cong (g := fun _ => 0) 10 (fun x hx => hz x y hx h2 (by omega)), sum_zero])]
  exact sum_cong H (fun y hy => sum_cut hW (fun x h1 h2 => hz x y h2 (by omega) (by omega)))
theorem sum_tur {F : Fld} (h : okB F = true) : sumN (turF F).s 100 = sumN F.s 100 := by
  have hw := ok_wh h
  rw [sum_board (f := (turF F).s) (W := F.h.toNat) (H := F.w.toNat) (by omega) (by omega) (fun x y hx hy hn => by
    rw [(tur_at h hx hy).2, if_neg (by omega)])]
  rw [sum_board (f := F.s) (W := F.w.toNat) (H := F.h.toNat) (by omega) (by omega) (fun x y hx hy hn => by
    refine (ok_off h (by omega) ?_).2
    cases hB : isB F ((x + 10 * y : Nat) : Int) with
    | false => rfl
    | true =>
      have := isB_true.1 hB
      exact absurd ⟨by omega, by omega⟩ hn)]
  rw [sum_comm (g := fun x y => (turF F).s (x + 10 * y))]
  rw [← sum_rev (f := fun y => sumN (fun x => F.s (x + 10 * y)) F.w.toNat)]
  exact sum_cong _ (fun x hx => sum_cong _ (fun y hy => by
    rw [(tur_at h (by omega) (by omega)).2, if_pos (by omega)]))


--# changed
section
variable {F : Fld} {c n : Int}
theorem cd_t (h : okB F = true) (hc : isB F c = true) : code F (isB F c) = 0 := code_0 h hc
theorem cd_n (h : okB F = true) (hc : isB F c = true) (hn : 0 ≤ n) : code F (isB F c && decide (0 ≤ n)) = 0 := code_0 h (by rw [hc, decide_eq_true hn]; rfl)
theorem cd_b (h : okB F = true) (hc : isB F c = true) {a b : Int} (hn : a ≤ n ∧ n ≤ b) : code F (isB F c && inB n a b) = 0 := code_0 h (by unfold inB; rw [hc, decide_eq_true hn.1, decide_eq_true hn.2]; rfl)
theorem cel (h : okB F = true) (hc : isB F c = true) : c.toNat < 100 ∧ isB F (c.toNat : Nat) = true ∧ 0 ≤ F.k c.toNat ∧ F.k c.toNat ≤ 3 ∧ 0 ≤ F.s c.toNat ∧ F.s c.toNat ≤ 1000 ∧ (F.k c.toNat = 0 ∨ F.s c.toNat = 0) := by
  have hb := isB_true.1 hc
  have e : ((c.toNat : Nat) : Int) = c := by omega
  have h1 : c.toNat < 100 := by omega
  exact ⟨h1, by rw [e]; exact hc, ok_on h h1 (by rw [e]; exact hc)⟩
/-- One cell of a valid field put anew. -/
theorem ok_put (h : okB F = true) (hc : isB F c = true) {k s : Int} (hk : 0 ≤ k ∧ k ≤ 3) (hs : 0 ≤ s ∧ s ≤ 1000) (hz : k = 0 ∨ s = 0) : okB ⟨F.w, F.h, upd F.k c.toNat k, upd F.s c.toNat s⟩ = true := by
  have hl := cel h hc
  have hw := ok_wh h
  refine okB_true.2 ⟨hw.1, hw.2.1, hw.2.2.1, hw.2.2.2, fun i hi => ?_⟩
  have e : isB (⟨F.w, F.h, upd F.k c.toNat k, upd F.s c.toNat s⟩ : Fld) (i : Int) = isB F i := isB_wh rfl rfl
  by_cases hic : i = c.toNat
  · subst hic
    rw [celB_in (e.trans hl.2.1), decide_eq_true_eq]
    show 0 ≤ upd F.k c.toNat k c.toNat ∧ upd F.k c.toNat k c.toNat ≤ 3 ∧ 0 ≤ upd F.s c.toNat s c.toNat ∧ upd F.s c.toNat s c.toNat ≤ 1000 ∧ (upd F.k c.toNat k c.toNat = 0 ∨ upd F.s c.toNat s c.toNat = 0)
    rw [upd_self, upd_self]
    exact ⟨hk.1, hk.2, hs.1, hs.2, hz⟩
  · cases hB : isB F i with
    | true =>
      rw [celB_in (e.trans hB), decide_eq_true_eq]
      show 0 ≤ upd F.k c.toNat k i ∧ upd F.k c.toNat k i ≤ 3 ∧ 0 ≤ upd F.s c.toNat s i ∧ upd F.s c.toNat s i ≤ 1000 ∧ (upd F.k c.toNat k i = 0 ∨ upd F.s c.toNat s i = 0)
      rw [upd_ne _ _ hic, upd_ne _ _ hic]
      exact ok_on h hi hB
    | false =>
      rw [celB_out (e.trans hB), decide_eq_true_eq]
      show upd F.k c.toNat k i = 0 ∧ upd F.s c.toNat s i = 0
      rw [upd_ne _ _ hic, upd_ne _ _ hic]
      exact ok_off h hi hB
theorem upd_same (f : Nat → Int) (i : Nat) : upd f i (f i) = f := by
  funext j
  by_cases e : j = i
  · rw [e, upd_self]
  · rw [upd_ne _ _ e]
theorem wf_put (hF : F.wf) {k s : Int} (hk : 0 ≤ k ∧ k ≤ 255) (hs : -32768 ≤ s ∧ s ≤ 32767) : (⟨F.w, F.h, upd F.k c.toNat k, upd F.s c.toNat s⟩ : Fld).wf :=
  ⟨hF.w1, hF.w2, hF.h1, hF.h2, fun i hi => by
    show 0 ≤ upd F.k c.toNat k i ∧ upd F.k c.toNat k i ≤ 255
    by_cases e : i = c.toNat
    · rw [e, upd_self]; exact hk
    · rw [upd_ne _ _ e]; exact hF.k1 i hi, fun i hi => by
    show -32768 ≤ upd F.s c.toNat s i ∧ upd F.s c.toNat s i ≤ 32767
    by_cases e : i = c.toNat
    · rw [e, upd_self]; exact hs
    · rw [upd_ne _ _ e]; exact hF.s1 i hi⟩
theorem took_is (h : okB F = true) (hc : isB F c = true) (hn : 0 ≤ n) : tookF F c n = ⟨F.w, F.h, upd F.k c.toNat (F.k c.toNat), upd F.s c.toNat (F.s c.toNat - minI n (F.s c.toNat))⟩ := by
  rw [tookF_2 (cd_n h hc hn), upd_same]
theorem took_ok (h : okB F = true) (hc : isB F c = true) (hn : 0 ≤ n) : okB (tookF F c n) = true := by
  have hl := cel h hc
  have hm := minI_b n (F.s c.toNat)
  rw [took_is h hc hn]
  exact ok_put h hc ⟨hl.2.2.1, hl.2.2.2.1⟩ (by omega) (by omega)
theorem took_wf (hF : F.wf) (h : okB F = true) (hc : isB F c = true) (hn : 0 ≤ n) : (tookF F c n).wf := by
  have hl := cel h hc
  have hm := minI_b n (F.s c.toNat)
  rw [took_is h hc hn]
  exact wf_put hF (by omega) (by omega)
theorem took_sum (h : okB F = true) (hc : isB F c = true) (hn : 0 ≤ n) : sumN (tookF F c n).s 100 = sumN F.s 100 - minI n (F.s c.toNat) := by
  rw [took_is h hc hn]
  show sumN (upd F.s c.toNat _) 100 = _
  rw [sum_upd, if_pos (cel h hc).1]
  omega
theorem took_isB (h : okB F = true) (hc : isB F c = true) (hn : 0 ≤ n) : isB (tookF F c n) c = true := by
  rw [took_is h hc hn, ← hc]
  exact isB_wh rfl rfl
/-- What was taken sown again. -/
theorem sow_0 (h : okB F = true) (hc : isB F c = true) (hn : 0 ≤ n) (hk : F.k c.toNat = 0) : sowC (tookF F c n) c (minI n (F.s c.toNat)) = 0 ∧ (sowF (tookF F c n) c (minI n (F.s c.toNat))) = F := by
  have hl := cel h hc
  have hm := minI_b n (F.s c.toNat)
  have hcode : code (tookF F c n) (isB (tookF F c n) c && inB (minI n (F.s c.toNat)) 0 1000) = 0 := cd_b (took_ok h hc hn) (took_isB h hc hn) (by omega)
  have e := took_is h hc hn
  have ek : (tookF F c n).k c.toNat = 0 := by rw [e]; show upd _ _ _ _ = 0; rw [upd_self]; exact hk
  have es : (tookF F c n).s c.toNat = F.s c.toNat - minI n (F.s c.toNat) := by rw [e]; show upd _ _ _ _ = _; rw [upd_self]
  have h3 : (tookF F c n).s c.toNat + minI n (F.s c.toNat) ≤ 1000 := by rw [es]; omega
  refine ⟨sowC_4 hcode ek h3, ?_⟩
  rw [sowF_4 hcode ek h3, es, show F.s c.toNat - minI n (F.s c.toNat) + minI n (F.s c.toNat) = F.s c.toNat by omega, e]
  show (⟨F.w, F.h, upd F.k c.toNat (F.k c.toNat), upd (upd F.s c.toNat _) c.toNat (F.s c.toNat)⟩ : Fld) = F
  rw [upd_same]
  have : upd (upd F.s c.toNat (F.s c.toNat - minI n (F.s c.toNat))) c.toNat (F.s c.toNat) = F.s := by
    funext j
    by_cases ej : j = c.toNat
    · rw [ej, upd_self]
    · rw [upd_ne _ _ ej, upd_ne _ _ ej]
  rw [this]
theorem sow_4 (h : okB F = true) (hc : isB F c = true) (hn : 0 ≤ n) (hk : F.k c.toNat ≠ 0) : sowC (tookF F c n) c (minI n (F.s c.toNat)) = 4 ∧ (sowF (tookF F c n) c (minI n (F.s c.toNat))) = Fld.zero := by
  have hl := cel h hc
  have hm := minI_b n (F.s c.toNat)
  have hcode : code (tookF F c n) (isB (tookF F c n) c && inB (minI n (F.s c.toNat)) 0 1000) = 0 := cd_b (took_ok h hc hn) (took_isB h hc hn) (by omega)
  have ek : (tookF F c n).k c.toNat ≠ 0 := by rw [took_is h hc hn]; show upd _ _ _ _ ≠ 0; rw [upd_self]; exact hk
  exact ⟨sowC_2 hcode ek, sowF_2 hcode ek⟩
theorem wk_is (h : okB F = true) (hc : isB F c = true) : withK F c 2 = ⟨F.w, F.h, upd F.k c.toNat 2, upd F.s c.toNat 0⟩ := withK_3 (cd_b h hc (by decide)) (by decide)
theorem wk_ok (h : okB F = true) (hc : isB F c = true) : okB (withK F c 2) = true := by rw [wk_is h hc]; exact ok_put h hc (by decide) (by decide) (.inr rfl)
theorem wk_wf (hF : F.wf) (h : okB F = true) (hc : isB F c = true) : (withK F c 2).wf := by rw [wk_is h hc]; exact wf_put hF (by decide) (by decide)
theorem wk_sum (h : okB F = true) (hc : isB F c = true) : sumN (withK F c 2).s 100 = sumN F.s 100 - F.s c.toNat := by
  rw [wk_is h hc]
  show sumN (upd F.s c.toNat 0) 100 = _
  rw [sum_upd, if_pos (cel h hc).1]
  omega
end

--# plain
section
variable {a b v : Int}
theorem plC_at (hv : 0 ≤ v ∧ v ≤ 1000) : ∀ n, n ≤ 100 → ∀ i, (plC a b v n).s i = if i < n ∧ isB (fldWH a b) i = true then v else 0
  | 0, _, i => by rw [plC_0, if_neg (by omega)]; rfl
  | n + 1, hn, i => by
    have ih := plC_at hv n (by omega) i
    cases hB : isB (plC a b v n) (n : Int) with
    | true =>
      rw [plC_1 hv hB]
      show upd _ _ _ i = _
      rw [plC_is hv] at hB
      by_cases e : i = n
      · subst e
        rw [upd_self, if_pos ⟨by omega, hB⟩]
      · rw [upd_ne _ _ e, ih]
        by_cases h2 : i < n ∧ isB (fldWH a b) i = true
        · rw [if_pos h2, if_pos ⟨by omega, h2.2⟩]
        · rw [if_neg h2, if_neg (fun h => h2 ⟨by omega, h.2⟩)]
    | false =>
      rw [plC_2 hv hB, ih]
      rw [plC_is hv] at hB
      by_cases h2 : i < n ∧ isB (fldWH a b) i = true
      · rw [if_pos h2, if_pos ⟨by omega, h2.2⟩]
      · have h3 : ¬ (i < n + 1 ∧ isB (fldWH a b) i = true) := fun h => by
          by_cases e : i = n
          · subst e; rw [hB] at h; exact absurd h.2 (by decide)
          · exact h2 ⟨by omega, h.2⟩
        rw [if_neg h2, if_neg h3]
theorem pinv_t (ha : 1 ≤ a ∧ a ≤ 10) (hb : 1 ≤ b ∧ b ≤ 10) (hv : 0 ≤ v ∧ v ≤ 1000) : pin a b v = true := by
  unfold pin inB
  rw [decide_eq_true ha.1, decide_eq_true ha.2, decide_eq_true hb.1, decide_eq_true hb.2, decide_eq_true hv.1, decide_eq_true hv.2]; rfl
theorem pln_ok (ha : 1 ≤ a ∧ a ≤ 10) (hb : 1 ≤ b ∧ b ≤ 10) (hv : 0 ≤ v ∧ v ≤ 1000) : okB (plnF a b v) = true := by
  rw [plnF_t (pinv_t ha hb hv)]
  have hi := plC_inv (a := a) (b := b) (n := 100) hv
  refine okB_true.2 ⟨by omega, by omega, by omega, by omega, fun i hi2 => ?_⟩
  cases hB : isB (plC a b v 100) i with
  | true =>
    rw [celB_in hB, decide_eq_true_eq]
    have h3 := hi.2.2.1 i
    have h4 := hi.2.2.2 i
    omega
  | false =>
    rw [celB_out hB, decide_eq_true_eq, plC_at hv 100 (Nat.le_refl _) i]
    rw [plC_is hv] at hB
    rw [if_neg (fun h => by rw [hB] at h; exact absurd h.2 (by decide))]
    exact ⟨hi.2.2.1 i, rfl⟩
theorem pln_wf (ha : 1 ≤ a ∧ a ≤ 10) (hb : 1 ≤ b ∧ b ≤ 10) (hv : 0 ≤ v ∧ v ≤ 1000) : (plnF a b v).wf := by
  rw [plnF_t (pinv_t ha hb hv)]
  exact plC_wf ha hb hv
theorem pln_sum (ha : 1 ≤ a ∧ a ≤ 10) (hb : 1 ≤ b ∧ b ≤ 10) (hv : 0 ≤ v ∧ v ≤ 1000) : sumN (plnF a b v).s 100 = v * a * b := by
  rw [plnF_t (pinv_t ha hb hv)]
  rw [sum_board (f := (plC a b v 100).s) (W := a.toNat) (H := b.toNat) (by omega) (by omega) (fun x y hx hy hn => by
    rw [plC_at hv 100 (Nat.le_refl _), if_neg (fun h => by
      have := isB_W h.2
      exact hn ⟨by omega, by omega⟩)])]
  rw [sum_cong (g := fun _ => (a.toNat : Int) * v) b.toNat (fun y hy => by
    rw [sum_cong (g := fun _ => v) a.toNat (fun x hx => by
      rw [plC_at hv 100 (Nat.le_refl _), if_pos ⟨by omega, isB_true.2 ⟨by omega, by omega, by show ((x + 10 * y : Nat) : Int) % 10 < a; omega, by show ((x + 10 * y : Nat) : Int) / 10 < b; omega⟩⟩]), sum_const]), sum_const]
  rw [show ((a.toNat : Nat) : Int) = a by omega, show ((b.toNat : Nat) : Int) = b by omega, Int.mul_comm a v, Int.mul_comm b]
end

--# number
open Go.RowKit

section
variable {P : Program} {ops : Array Oper} {Q : Exit → Act → World → Prop} {rest : List Oper} {op : Oper} {a : Act} {w : World} {f : FuncId} {args : Array Value}
def NumR (w : World) (n : Int) (e : Ending) (w' : World) : Prop := ∃ r : Int, e = .returned (.int .i64 r) ∧ (0 ≤ r ∧ r < n) ∧ Ext w w'
theorem wnum {n : Int} (hc : Calls P f args w (NumR w n)) (k : ∀ (r : Int) w', (0 ≤ r ∧ r < n) → Ext w w' → wpList P ops Q rest (putL a op.dst (.int .i64 r)) w')
    (hw : Region.wanted op (yielded ops a.tmps) = true := by kernel_rfl) (he : (execOp (evalL a) op).run P w = .ok (.enter f args) w := by kernel_rfl) : wpList P ops Q (op :: rest) a w :=
  wpl_callx (S := fun v w' => ∃ r : Int, v = .int .i64 r ∧ (0 ≤ r ∧ r < n) ∧ Ext w w') f args rfl hw he hc
    (fun e w' ⟨u, h1, h2⟩ => ⟨_, h1, u, rfl, h2⟩) (fun v w' ⟨u, h1, h2, h3⟩ => by rw [h1]; exact k u w' h2 h3)
end
end Go.Proofs.YteiplklloajjaaaGreatDoor
