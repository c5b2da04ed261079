/-
  Texts as fields: the program and the reference read the same texts. No conditions.
-/
import Derived.Test.YteiplklloajjaaaGreatDoorRg
namespace Go.Proofs.YteiplklloajjaaaGreatDoor
open Go.RowKit
set_option linter.unusedSimpArgs false
set_option linter.unusedVariables false

--# words
def kOf (w : List UInt8) : Int := if w = [104] then 1 else if w = [112] then 2 else if w = [116] then 3 else 0
def sOf (w : List UInt8) : Int := if w = [104] ∨ w = [112] ∨ w = [116] then 0 else numV w
theorem cix (x y : Nat) : ((x : Int) + 10 * (y : Int)).toNat = x + 10 * y := by omega
section
variable {F : Fld} {c j x y : Nat} {w : List UInt8}
theorem cellW_wh : (cellW F c w).w = F.w ∧ (cellW F c w).h = F.h := by
  unfold cellW
  split
  · exact ⟨rfl, rfl⟩
  · split
    · exact ⟨rfl, rfl⟩
    · split <;> exact ⟨rfl, rfl⟩
theorem cellW_at (hk : F.k c = 0) (hs : F.s c = 0) : (cellW F c w).k c = kOf w ∧ (cellW F c w).s c = sOf w := by
  unfold cellW kOf sOf
  by_cases h1 : w = [104]
  · rw [if_pos h1, if_pos h1, if_pos (.inl h1)]; exact ⟨upd_self _ _ _, hs⟩
  · rw [if_neg h1, if_neg h1]
    by_cases h2 : w = [112]
    · rw [if_pos h2, if_pos h2, if_pos (.inr (.inl h2))]; exact ⟨upd_self _ _ _, hs⟩
    · rw [if_neg h2, if_neg h2]
      by_cases h3 : w = [116]
      · rw [if_pos h3, if_pos h3, if_pos (.inr (.inr h3))]; exact ⟨upd_self _ _ _, hs⟩
      · rw [if_neg h3, if_neg h3, if_neg (by simp [h1, h2, h3])]; exact ⟨hk, upd_self _ _ _⟩
theorem cellW_ne (hj : j ≠ c) : (cellW F c w).k j = F.k j ∧ (cellW F c w).s j = F.s j := by
  unfold cellW
  split
  · exact ⟨upd_ne _ _ hj, rfl⟩
  · split
    · exact ⟨upd_ne _ _ hj, rfl⟩
    · split
      · exact ⟨upd_ne _ _ hj, rfl⟩
      · exact ⟨rfl, upd_ne _ _ hj⟩
theorem wrd_4 (h : wrdO w = true) : kOf w = 0 ∧ numO w = true ∧ 0 ≤ sOf w ∧ sOf w ≤ 1000 ∧ sOf w = numV w ∨ 1 ≤ kOf w ∧ kOf w ≤ 3 ∧ sOf w = 0 := by
  unfold wrdO at h
  simp only [Bool.or_eq_true, decide_eq_true_eq] at h
  unfold kOf sOf
  by_cases h1 : w = [104]
  · right; rw [if_pos h1, if_pos (.inl h1)]; decide
  · rw [if_neg h1]
    by_cases h2 : w = [112]
    · right; rw [if_pos h2, if_pos (.inr (.inl h2))]; decide
    · rw [if_neg h2]
      by_cases h3 : w = [116]
      · right; rw [if_pos h3, if_pos (.inr (.inr h3))]; decide
      · left
        rw [if_neg h3, if_neg (by simp [h1, h2, h3])]
        have hp := parO_num (by simpa [h1, h2, h3] using h)
        exact ⟨rfl, hp.1, hp.2.1, hp.2.2, rfl⟩
theorem cellT_of (h : wrdO w = true) (hk : F.k c = kOf w) (hs : F.s c = sOf w) : cellT F c = w := by
  have h4 := wrd_4 h
  unfold cellT
  rw [hk, hs]
  unfold kOf at h4 ⊢
  by_cases h1 : w = [104]
  · rw [if_pos h1, if_neg (by decide), if_pos rfl]; exact h1.symm
  · rw [if_neg h1] at h4 ⊢
    by_cases h2 : w = [112]
    · rw [if_pos h2, if_neg (by decide), if_neg (by decide), if_pos rfl]; exact h2.symm
    · rw [if_neg h2] at h4 ⊢
      by_cases h3 : w = [116]
      · rw [if_pos h3, if_neg (by decide), if_neg (by decide), if_neg (by decide)]; exact h3.symm
      · rw [if_neg h3] at h4 ⊢
        rw [if_pos rfl]
        rcases h4 with h4 | h4
        · obtain ⟨n, hn, hv⟩ := numL_of h4.2.1
          rw [h4.2.2.2.2, hv]
          exact numL_digits hn
        · omega
end

--# rows
theorem rowW_spec {F : Fld} {y : Nat} {ws : List (List UInt8)} (h0 : ∀ c, c / 10 = y → F.k c = 0 ∧ F.s c = 0) : ∀ x, x ≤ 10 → (rowW F y ws x).w = F.w ∧ (rowW F y ws x).h = F.h ∧
    ∀ c, (rowW F y ws x).k c = (if c / 10 = y ∧ c % 10 < x then kOf (atL ws (c % 10)) else F.k c) ∧ (rowW F y ws x).s c = (if c / 10 = y ∧ c % 10 < x then sOf (atL ws (c % 10)) else F.s c)
  | 0, _ => ⟨rfl, rfl, fun c => by rw [if_neg (by omega), if_neg (by omega)]; exact ⟨rfl, rfl⟩⟩
  | x + 1, hx => by
    obtain ⟨i1, i2, i3⟩ := rowW_spec h0 (ws := ws) x (by omega)
    have e : rowW F y ws (x + 1) = cellW (rowW F y ws x) (x + 10 * y) (atL ws x) := by
      show cellW _ _ _ = _
      rw [cix]
    rw [e]
    have hw := cellW_wh (F := rowW F y ws x) (c := x + 10 * y) (w := atL ws x)
    refine ⟨hw.1.trans i1, hw.2.trans i2, fun c => ?_⟩
    by_cases hc : c = x + 10 * y
    · have hz := h0 c (by omega)
      have hi := i3 c
      rw [if_neg (by omega), if_neg (by omega)] at hi
      subst hc
      have ha := cellW_at (w := atL ws x) (hi.1.trans hz.1) (hi.2.trans hz.2)
      rw [if_pos (by omega), if_pos (by omega), show (x + 10 * y) % 10 = x by omega]
      exact ha
    · have hn := cellW_ne (F := rowW F y ws x) (w := atL ws x) hc
      rw [hn.1, hn.2, (i3 c).1, (i3 c).2]
      by_cases hq : c / 10 = y ∧ c % 10 < x
      · rw [if_pos hq, if_pos hq, if_pos (by omega), if_pos (by omega)]; exact ⟨rfl, rfl⟩
      · rw [if_neg hq, if_neg hq, if_neg (by omega), if_neg (by omega)]; exact ⟨rfl, rfl⟩
theorem rdF_spec {l : List UInt8} {hh : Nat} : ∀ Y, (∀ y, y < Y → (lnW l y).length ≤ 10) → (rdF l hh Y).h = (hh : Int) ∧ (rdF l hh Y).w = (if Y = 0 then 0 else ((lnW l (Y - 1)).length : Int)) ∧
    ∀ c, (rdF l hh Y).k c = (if c / 10 < Y ∧ c % 10 < (lnW l (c / 10)).length then kOf (atL (lnW l (c / 10)) (c % 10)) else 0) ∧ (rdF l hh Y).s c = (if c / 10 < Y ∧ c % 10 < (lnW l (c / 10)).length then sOf (atL (lnW l (c / 10)) (c % 10)) else 0)
  | 0, _ => ⟨rfl, rfl, fun c => by rw [if_neg (by omega), if_neg (by omega)]; exact ⟨rfl, rfl⟩⟩
  | Y + 1, hn => by
    obtain ⟨i1, i2, i3⟩ := rdF_spec (l := l) (hh := hh) Y (fun y hy => hn y (by omega))
    have hr := rowW_spec (F := { rdF l hh Y with w := ((lnW l Y).length : Int) }) (y := Y) (ws := lnW l Y) (fun c hc => by
      have := i3 c
      rw [if_neg (by omega), if_neg (by omega)] at this
      exact this) (lnW l Y).length (hn Y (by omega))
    refine ⟨hr.2.1.trans i1, hr.1.trans (by rw [if_neg (by omega)]; rfl), fun c => ?_⟩
    have h3 := hr.2.2 c
    have hi := i3 c
    refine ⟨h3.1.trans ?_, h3.2.trans ?_⟩
    · by_cases hc : c / 10 = Y
      · subst hc
        by_cases hq : c % 10 < (lnW l (c / 10)).length
        · rw [if_pos ⟨rfl, hq⟩, if_pos ⟨by omega, hq⟩]
        · rw [if_neg (fun h => hq h.2), if_neg (fun h => hq h.2)]
          exact hi.1.trans (if_neg (fun h => hq h.2))
      · rw [if_neg (fun h => hc h.1)]
        refine hi.1.trans ?_
        by_cases hq : c / 10 < Y ∧ c % 10 < (lnW l (c / 10)).length
        · rw [if_pos hq, if_pos ⟨by omega, hq.2⟩]
        · rw [if_neg hq, if_neg (fun h => hq ⟨by omega, h.2⟩)]
    · by_cases hc : c / 10 = Y
      · subst hc
        by_cases hq : c % 10 < (lnW l (c / 10)).length
        · rw [if_pos ⟨rfl, hq⟩, if_pos ⟨by omega, hq⟩]
        · rw [if_neg (fun h => hq h.2), if_neg (fun h => hq h.2)]
          exact hi.2.trans (if_neg (fun h => hq h.2))
      · rw [if_neg (fun h => hc h.1)]
        refine hi.2.trans ?_
        by_cases hq : c / 10 < Y ∧ c % 10 < (lnW l (c / 10)).length
        · rw [if_pos hq, if_pos ⟨by omega, hq.2⟩]
        · rw [if_neg hq, if_neg (fun h => hq ⟨by omega, h.2⟩)]

--# glue
theorem glu_end {c : UInt8} {p : List UInt8} : ∀ A : List (List UInt8), gluL c (A ++ [p] ++ [[]]) = gluL c (A ++ [[]]) ++ (p ++ [c])
  | [] => by simp [gluL]
  | q :: r => by
    have ih := glu_end (c := c) (p := p) r
    have e1 : gluL c (q :: (r ++ [p] ++ [[]])) = q ++ c :: gluL c (r ++ [p] ++ [[]]) := gluL_cons (by simp)
    have e2 : gluL c (q :: (r ++ [[]])) = q ++ c :: gluL c (r ++ [[]]) := gluL_cons (by simp)
    show gluL c (q :: (r ++ [p] ++ [[]])) = gluL c (q :: (r ++ [[]])) ++ (p ++ [c])
    rw [e1, ih, e2, List.append_assoc]; rfl
theorem glu_mem {c x : UInt8} : ∀ {A : List (List UInt8)}, x ∈ gluL c A → x = c ∨ ∃ p, p ∈ A ∧ x ∈ p
  | [], h => by simp [gluL] at h
  | [p], h => .inr ⟨p, by simp, by simpa [gluL] using h⟩
  | p :: q :: r, h => by
    rw [gluL_cons (by simp)] at h
    simp only [List.mem_append, List.mem_cons] at h
    rcases h with h | h | h
    · exact .inr ⟨p, by simp, h⟩
    · exact .inl h
    · rcases glu_mem h with h | ⟨s, h1, h2⟩
      · exact .inl h
      · exact .inr ⟨s, List.mem_cons_of_mem _ h1, h2⟩
theorem cellT_mem {F : Fld} {c : Nat} {x : UInt8} (h : x ∈ cellT F c) : x ≠ 10 ∧ x ≠ 32 := by
  unfold cellT at h
  split at h
  · have := decFrom_dig (decFrom_digits _ (F.s c).toNat (Nat.lt_succ_self _)) x h
    exact ⟨fun e => by rw [e] at this; exact absurd this.1 (by decide), fun e => by rw [e] at this; exact absurd this.1 (by decide)⟩
  · split at h
    · rw [List.mem_singleton.1 h]; decide
    · split at h
      · rw [List.mem_singleton.1 h]; decide
      · rw [List.mem_singleton.1 h]; decide
theorem fieldP_glu {F : Fld} : ∀ Y, fieldP F Y = gluL 10 ((List.range Y).map (fun y => preT F y F.w.toNat) ++ [[]])
  | 0 => rfl
  | Y + 1 => by
    show fieldP F Y ++ lineT F Y = _
    rw [List.range_succ, List.map_append, show List.map (fun y => preT F y F.w.toNat) [Y] = [preT F Y F.w.toNat] from rfl, glu_end, ← fieldP_glu Y]
    rfl
theorem preT_cut {F : Fld} {y x : Nat} (hx : 0 < x) : cutL 32 (preT F y x) = rowC F y x := by
  unfold preT
  apply cutL_gluL
  · intro e
    have := rowC_len (F := F) (y := y) (x := x)
    rw [e] at this
    simp at this
    omega
  · intro p hp h32
    unfold rowC at hp
    obtain ⟨j, _, e⟩ := List.mem_map.1 hp
    rw [← e] at h32
    exact (cellT_mem h32).2 rfl
theorem fieldT_cut {F : Fld} {hh : Nat} (hh_ : F.h.toNat = hh) : cutL 10 (fieldT F) = (List.range hh).map (fun y => preT F y F.w.toNat) ++ [[]] := by
  unfold fieldT
  rw [hh_, fieldP_glu]
  apply cutL_gluL
  · simp
  · intro p hp h10
    rw [List.mem_append] at hp
    rcases hp with hp | hp
    · obtain ⟨y, _, e⟩ := List.mem_map.1 hp
      rw [← e] at h10
      unfold preT at h10
      rcases glu_mem h10 with e | ⟨q, h1, h2⟩
      · exact absurd e (by decide)
      · unfold rowC at h1
        obtain ⟨j, _, e⟩ := List.mem_map.1 h1
        rw [← e] at h2
        exact (cellT_mem h2).1 rfl
    · rw [List.mem_singleton.1 hp] at h10
      cases h10
--# the same
section
variable {l : List UInt8} {hh : Nat}
theorem rowO_t {y : Nat} (h : rowO l y = true) : (lnW l y).length ≤ 10 ∧ ∀ x, x < (lnW l y).length → wrdO (atL (lnW l y) x) = true := by
  unfold rowO at h
  rw [Bool.and_eq_true, decide_eq_true_eq] at h
  exact ⟨by omega, atL_map.1 h.2⟩
theorem inB_t {n a b : Int} (h : inB n a b = true) : a ≤ n ∧ n ≤ b := by
  unfold inB at h
  rw [Bool.and_eq_true, decide_eq_true_eq, decide_eq_true_eq] at h
  exact h
theorem i_s (h : iO l hh = true) : sO l hh = true := by
  unfold iO at h
  simp only [Bool.and_eq_true, decide_eq_true_eq] at h
  obtain ⟨_, h2, h3, h4, h5⟩ := h
  have hr := fun y (hy : y < hh) => rowO_t (List.all_eq_true.1 h3 y (List.mem_range.2 hy))
  obtain ⟨s1, s2, s3⟩ := rdF_spec (l := l) (hh := hh) hh (fun y hy => (hr y hy).1)
  have hw := ok_wh h4
  have hcut := fieldT_cut (F := rdF l hh hh) (hh := hh) (by omega)
  rw [h5] at hcut
  have hln : ∀ y, y < hh → atL (cutL 10 l) y = preT (rdF l hh hh) y (rdF l hh hh).w.toNat := fun y hy => by
    rw [hcut]
    unfold atL
    rw [List.getD, List.getElem?_append_left (by simpa using hy), List.getElem?_map, List.getElem?_range hy]
    rfl
  have hn : ∀ y, y < hh → (lnW l y).length = (rdF l hh hh).w.toNat := fun y hy => by
    unfold lnW
    rw [hln y hy, preT_cut (by omega), rowC_len]
  refine so_t ?_ (inB_t h2) (fun j hj => List.all_eq_true.1 h3 j (List.mem_range.2 hj)) (fun j hj => ?_)
  · rw [hcut]
    unfold atL
    rw [List.getD, List.getElem?_append_right (by simp)]
    simp
  · by_cases h0 : j = 0
    · exact sm_0 (by omega)
    · obtain ⟨_, t2, _⟩ := rdF_spec (l := l) (hh := hh) j (fun y hy => (hr y (by omega)).1)
      refine sm_1 rfl ?_
      rw [t2, if_neg h0, hn j hj, hn (j - 1) (by omega)]
theorem s_i (hH : (cutL 10 l).length = hh + 1) (h : sO l hh = true) : iO l hh = true := by
  unfold sO at h
  simp only [Bool.and_eq_true, decide_eq_true_eq] at h
  obtain ⟨h1, h2, h3, h4⟩ := h
  have hb := inB_t h2
  have hr := fun y (hy : y < hh) => rowO_t (List.all_eq_true.1 h3 y (List.mem_range.2 hy))
  obtain ⟨s1, s2, s3⟩ := rdF_spec (l := l) (hh := hh) hh (fun y hy => (hr y hy).1)
  have hn : ∀ y, y < hh → (lnW l y).length = (lnW l 0).length := by
    intro y
    induction y with
    | zero => intro _; rfl
    | succ y ih =>
      intro hy
      have hs := List.all_eq_true.1 h4 (y + 1) (List.mem_range.2 hy)
      unfold samO at hs
      rw [decide_eq_false (by omega), Bool.false_or, decide_eq_true_eq] at hs
      obtain ⟨_, t2, _⟩ := rdF_spec (l := l) (hh := hh) (y + 1) (fun z hz => (hr z (by omega)).1)
      rw [t2, if_neg (by omega), Nat.add_sub_cancel] at hs
      have := ih (by omega)
      omega
  have hp : 0 < (lnW l 0).length := List.length_pos_iff.2 (cutL_ne _ _)
  have hW10 := (hr 0 (by omega)).1
  have hFw : (rdF l hh hh).w = ((lnW l 0).length : Int) := by rw [s2, if_neg (by omega), hn (hh - 1) (by omega)]
  have hFt : (rdF l hh hh).w.toNat = (lnW l 0).length := by rw [hFw]; omega
  have hcell : ∀ y x, y < hh → x < (lnW l 0).length → (rdF l hh hh).k (x + 10 * y) = kOf (atL (lnW l y) x) ∧ (rdF l hh hh).s (x + 10 * y) = sOf (atL (lnW l y) x) := fun y x hy hx => by
    have hs := s3 (x + 10 * y)
    rw [show (x + 10 * y) / 10 = y by omega, show (x + 10 * y) % 10 = x by omega, if_pos ⟨hy, by rw [hn y hy]; exact hx⟩, if_pos ⟨hy, by rw [hn y hy]; exact hx⟩] at hs
    exact hs
  have hwo : ∀ y x, y < hh → x < (lnW l 0).length → wrdO (atL (lnW l y) x) = true := fun y x hy hx => (hr y hy).2 x (by rw [hn y hy]; exact hx)
  have hok : okB (rdF l hh hh) = true := by
    refine okB_true.2 ⟨by omega, by omega, by omega, by omega, fun i hi => ?_⟩
    cases hB : isB (rdF l hh hh) i with
    | true =>
      have hi2 := isB_true.1 hB
      have hc := hcell (i / 10) (i % 10) (by omega) (by omega)
      rw [show i % 10 + 10 * (i / 10) = i by omega] at hc
      have h4' := wrd_4 (hwo (i / 10) (i % 10) (by omega) (by omega))
      rw [celB_in hB, decide_eq_true_eq, hc.1, hc.2]
      omega
    | false =>
      rw [celB_out hB, decide_eq_true_eq, (s3 i).1, (s3 i).2]
      have hno : ¬ (i / 10 < hh ∧ i % 10 < (lnW l (i / 10)).length) := fun ⟨a, b'⟩ => by
        rw [hn _ a] at b'
        have : isB (rdF l hh hh) i = true := isB_true.2 (by omega)
        rw [this] at hB
        cases hB
      rw [if_neg hno, if_neg hno]
      exact ⟨rfl, rfl⟩
  have hrow : ∀ y, y < hh → rowC (rdF l hh hh) y (lnW l 0).length = lnW l y := fun y hy => by
    apply List.ext_getElem
    · rw [rowC_len, hn y hy]
    · intro x h1' h2'
      have hx : x < (lnW l 0).length := by rw [rowC_len] at h1'; exact h1'
      have hc := hcell y x hy hx
      have e : (rowC (rdF l hh hh) y (lnW l 0).length)[x] = cellT (rdF l hh hh) (((x : Int) + 10 * (y : Int)).toNat) := by simp [rowC]
      rw [e, cix, cellT_of (hwo y x hy hx) hc.1 hc.2]
      unfold atL
      rw [List.getD, List.getElem?_eq_getElem h2']
      rfl
  have hpre : ∀ y, y < hh → preT (rdF l hh hh) y (rdF l hh hh).w.toNat = atL (cutL 10 l) y := fun y hy => by
    unfold preT
    rw [hFt, hrow y hy]
    exact gluL_cutL 32 _
  have hD : ∀ Y, Y ≤ hh → fieldP (rdF l hh hh) Y ++ gluL 10 ((cutL 10 l).drop Y) = l := by
    intro Y
    induction Y with
    | zero => intro _; exact gluL_cutL 10 l
    | succ Y ih =>
      intro hY
      have hlt : Y < (cutL 10 l).length := by omega
      have e := ih (by omega)
      rw [List.drop_eq_getElem_cons hlt, gluL_cons (by
        intro e
        have := congrArg List.length e
        rw [List.length_drop] at this
        simp at this
        omega)] at e
      have eL : (cutL 10 l)[Y] = preT (rdF l hh hh) Y (rdF l hh hh).w.toNat := by
        rw [hpre Y (by omega)]
        unfold atL
        rw [List.getD, List.getElem?_eq_getElem hlt]
        rfl
      show (fieldP (rdF l hh hh) Y ++ lineT (rdF l hh hh) Y) ++ _ = l
      unfold lineT
      rw [eL] at e
      simp only [List.append_assoc, List.cons_append, List.nil_append] at e ⊢
      exact e
  have hT : fieldT (rdF l hh hh) = l := by
    have e := hD hh (Nat.le_refl _)
    have hlt : hh < (cutL 10 l).length := by omega
    have eL : (cutL 10 l)[hh] = [] := by
      have := h1
      unfold atL at this
      rw [List.getD, List.getElem?_eq_getElem hlt] at this
      exact this
    rw [List.drop_eq_getElem_cons hlt, eL, List.drop_eq_nil_of_le (by omega)] at e
    unfold fieldT
    rw [show (rdF l hh hh).h.toNat = hh by omega]
    simpa [gluL] using e
  have hlen : l.length ≤ 600 := by
    have := fieldP_len hok hh (by omega)
    have e2 : fieldT (rdF l hh hh) = fieldP (rdF l hh hh) hh := by
      unfold fieldT
      rw [show (rdF l hh hh).h.toNat = hh by omega]
    rw [← hT, e2]
    omega
  exact io_t (by omega) h2 (fun j hj => List.all_eq_true.1 h3 j (List.mem_range.2 hj)) rfl hok hT
/-- The program and the reference read the same texts. -/
theorem rd_same (hH : (cutL 10 l).length = hh + 1) : iO l hh = sO l hh := by
  apply Bool.eq_iff_iff.2
  exact ⟨i_s, s_i hH⟩
end
end Go.Proofs.YteiplklloajjaaaGreatDoor
