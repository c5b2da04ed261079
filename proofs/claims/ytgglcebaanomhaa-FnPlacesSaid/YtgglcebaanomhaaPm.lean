/-
 What holds of places: the search finds what there is, the greedy places cover, no place covers two cells that are apart. No conditions.
-/
import Derived.Test.YtgglcebaanomhaaSk
import Derived.Test.YtgglcebaanomhaaSr
namespace Go.Proofs.Ytgglcebaanomhaa
open Go.RowKit
set_option linter.unusedSimpArgs false
set_option linter.unusedVariables false
section
variable {F : Fld} {w l B c k lk tx ty : Int} {s t : Int × Int} {o L xs A : List Int} {m n i j d : Nat}
theorem cov_has (p : Int) (hd : d < 100) : hasB (cvP F w l p).1 (cvP F w l p).2 (d : Int) = (plB F p && (isB F (d : Int) && cvU F p (d : Int) w l)) := by
 cases hp : plB F p with
 | false => rw [cvP_f hp, hasB_0]; rfl
 | true =>
  rw [cvP_t hp]
  unfold cvT
  rw [hasB_set d 100 (Nat.le_refl _), decide_eq_true hd]
theorem cov_cvB (p : Int) (hd : d < 100) : hasB (cvP F w l p).1 (cvP F w l p).2 (d : Int) = cvB F w l p (d : Int) := by
 rw [cov_has p hd]
 unfold cvB
 cases hp : plB F p with
 | false => rw [cv_out hp]; rfl
 | true => rw [cvU_eq (plB_a hp) (plB_b hp)]; rfl
theorem cov_plB {p : Int} (hd : d < 100) (h : hasB (cvP F w l p).1 (cvP F w l p).2 (d : Int) = true) : plB F p = true := by
 rw [cov_has p hd, Bool.and_eq_true] at h
 exact h.1
def Cov (F : Fld) (w l : Int) (xs : List Int) (s : Int × Int) : Prop := ∀ d : Nat, d < 100 → hasB s.1 s.2 (d : Int) = true → ∃ p, p ∈ xs ∧ hasB (cvP F w l p).1 (cvP F w l p).2 (d : Int) = true
theorem wo_has (hs : okP s) (p : Int) (d : Nat) : hasB (wo0 s.1 (cvP F w l p).1) (wo1 s.2 (cvP F w l p).2) (d : Int) = (hasB s.1 s.2 (d : Int) && !hasB (cvP F w l p).1 (cvP F w l p).2 (d : Int)) := by
 have k := cvP_ok (F := F) (w := w) (l := l) p
 exact hasB_wo hs.1 hs.w2 k.1 k.w2 d
theorem Cov.cons {p : Int} (hs : okP s) (h : Cov F w l xs (wo0 s.1 (cvP F w l p).1, wo1 s.2 (cvP F w l p).2)) : Cov F w l (p :: xs) s := by
 intro d hd hm
 cases hc : hasB (cvP F w l p).1 (cvP F w l p).2 (d : Int) with
 | true => exact ⟨p, by simp, hc⟩
 | false =>
  obtain ⟨q, hq, h2⟩ := h d hd (by
   show hasB (wo0 s.1 (cvP F w l p).1) (wo1 s.2 (cvP F w l p).2) (d : Int) = true
   rw [wo_has hs, hm, hc]; rfl)
  exact ⟨q, List.mem_cons_of_mem _ hq, h2⟩
theorem Cov.erase {p : Int} (hs : okP s) (h : Cov F w l xs s) : Cov F w l (xs.erase p) (wo0 s.1 (cvP F w l p).1, wo1 s.2 (cvP F w l p).2) := by
 intro d hd hm
 have hm2 : (hasB s.1 s.2 (d : Int) && !hasB (cvP F w l p).1 (cvP F w l p).2 (d : Int)) = true := by rw [← wo_has hs]; exact hm
 rw [Bool.and_eq_true] at hm2
 obtain ⟨q, hq, h2⟩ := h d hd hm2.1
 refine ⟨q, (List.mem_erase_of_ne (fun e => ?_)).2 hq, h2⟩
 rw [e] at h2
 rw [h2] at hm2
 exact absurd hm2.2 (by decide)
theorem Cov.nil (hs : okP s) (h : Cov F w l [] s) : eq2 s.1 s.2 0 0 = true := by
 refine fsC_none hs (fun d hd => ?_)
 cases hm : hasB s.1 s.2 (d : Int) with
 | false => rfl
 | true => obtain ⟨p, hp, _⟩ := h d hd hm; cases hp
theorem cov_empty (hs : okP s) (he : eq2 s.1 s.2 0 0 = true) : Cov F w l xs s := fun d hd hm => by
 have := (empty_iff hs.1 hs.2).1 (eq2_0.1 he) d hd
 rw [this] at hm
 exact absurd hm (by decide)
theorem lp_some {f : Int → Int → FwR} {Q : List Int} : ∀ (L : List Int) (lk : Int), (lpF F w l B f c L lk).fd = some Q → ∃ k lk', k ∈ L ∧ hasB (cvP F w l k).1 (cvP F w l k).2 c = true ∧ (f k lk').fd = some Q
 | [], lk, h => by simp [lpF] at h
 | k :: r, lk, h => by
  rw [lpF] at h
  split at h
  ·next hb =>
   split at h
   ·simp at h
   ·split at h
    ·exact ⟨k, _, by simp, hb, h⟩
    ·obtain ⟨k', lk', h1, h2, h3⟩ := lp_some r _ h
     exact ⟨k', lk', List.mem_cons_of_mem _ h1, h2, h3⟩
  ·obtain ⟨k', lk', h1, h2, h3⟩ := lp_some r _ h
   exact ⟨k', lk', List.mem_cons_of_mem _ h1, h2, h3⟩
theorem lp_comp {f : Int → Int → FwR} {p : Int} (hp : hasB (cvP F w l p).1 (cvP F w l p).2 c = true) (hf : ∀ lk, (f p lk).fd.isSome = true ∨ (f p lk).ov = true) : ∀ (L : List Int) (lk : Int), p ∈ L → (lpF F w l B f c L lk).fd.isSome = true ∨ (lpF F w l B f c L lk).ov = true
 | [], _, h => by cases h
 | k :: r, lk, h => by
  rw [lpF]
  by_cases hb : hasB (cvP F w l k).1 (cvP F w l k).2 c = true
  ·rw [if_pos hb]
   by_cases hk : lk = B
   ·rw [if_pos hk]; exact .inr rfl
   ·rw [if_neg hk]
    by_cases hc : (f k (lk + 1)).fd.isSome = true ∨ (f k (lk + 1)).ov = true
    ·rw [if_pos hc]; exact hc
    ·rw [if_neg hc]
     rcases List.mem_cons.1 h with e | h
     ·subst e; exact absurd (hf _) hc
     ·exact lp_comp hp hf r _ h
  ·rw [if_neg hb]
   rcases List.mem_cons.1 h with e | h
   ·subst e; exact absurd hp hb
   ·exact lp_comp hp hf r _ h
theorem lp_no {f : Int → Int → FwR} (hn : ∀ p : Int, hasB (cvP F w l p).1 (cvP F w l p).2 c = false) : ∀ (L : List Int) (lk : Int), lpF F w l B f c L lk = ⟨none, false, lk⟩
 | [], _ => rfl
 | k :: r, lk => by rw [lpF, if_neg (by rw [hn k]; decide), lp_no hn r lk]
theorem seek_sound : ∀ (m : Nat) (s : Int × Int) (o : List Int) (lk : Int) (Q : List Int), okP s → (seekF F w l B m s o lk).fd = some Q → ∃ E, Q = o ++ E ∧ E.length ≤ m ∧ (∀ p ∈ E, plB F p = true) ∧ Cov F w l E s := by
 intro m
 induction m with
 | zero =>
  intro s o lk Q hs h
  unfold seekF at h
  split at h
  ·next he => simp at h; subst h; exact ⟨[], by simp, by simp, by simp, cov_empty hs he⟩
  ·simp at h
 | succ m ih =>
  intro s o lk Q hs h
  unfold seekF at h
  split at h
  ·next he => simp at h; subst h; exact ⟨[], by simp, by simp, by simp, cov_empty hs he⟩
  ·next he =>
   obtain ⟨k, lk', h1, h2, h3⟩ := lp_some _ _ h
   obtain ⟨E, e1, e2, e3, e4⟩ := ih _ _ _ _ (wo_ok hs (cvP_ok k)) h3
   have he' : eq2 s.1 s.2 0 0 = false := by simpa using he
   obtain ⟨d, hd, hd2⟩ := fsC_nat he' hs
   rw [hd2] at h2
   refine ⟨k :: E, by rw [e1, List.append_assoc]; rfl, by simp; omega, fun p hp => ?_, e4.cons hs⟩
   rcases List.mem_cons.1 hp with e | hp
   ·rw [e]; exact cov_plB hd h2
   ·exact e3 p hp
theorem fsC_in (he : eq2 s.1 s.2 0 0 = false) (hs : okP s) : ∃ d : Nat, d < 100 ∧ fsC s = (d : Int) ∧ hasB s.1 s.2 (d : Int) = true := by
 have h0 := cn_0 hs
 rw [he] at h0
 have h1 : 0 < (listL s.1 s.2).length := by
  cases hd : decide (0 < ((listL s.1 s.2).length : Int)) with
  | true => have := of_decide_eq_true hd; omega
  | false => rw [hd] at h0; exact absurd h0 (by decide)
 have e : listL s.1 s.2 = pickL (fun i => hasB s.1 s.2 (i : Int)) 100 := by unfold listL listN; rfl
 have h2 : 0 ≤ atI (listL s.1 s.2) 0 ∧ atI (listL s.1 s.2) 0 < (100 : Nat) ∧ hasB s.1 s.2 ((atI (listL s.1 s.2) 0).toNat : Int) = true := pickL_mem (p := fun i => hasB s.1 s.2 (i : Int)) (by rw [← e]; exact atI_mem h1)
 unfold fsC
 rw [if_neg (by omega)]
 exact ⟨(atI (listL s.1 s.2) 0).toNat, by omega, by omega, h2.2.2⟩
theorem plB_cells (h : plB F c = true) : c ∈ cellsL F := by
 have hb := plB_a h
 have hr := isB_true.1 hb
 obtain ⟨d, rfl⟩ := Int.eq_ofNat_of_zero_le (show 0 ≤ c by omega)
 obtain ⟨j, h1, h2⟩ := pickL_all (p := fun i => isB F (i : Int)) (n := 100) (c := d) (by omega) hb
 rw [← cellsL_eq] at h1 h2
 rw [← h2]
 exact atI_mem h1
theorem seek_comp : ∀ (m : Nat) (s : Int × Int) (o : List Int) (lk : Int) (xs : List Int), okP s → (∀ p ∈ xs, plB F p = true) → xs.length ≤ m → Cov F w l xs s → (seekF F w l B m s o lk).fd.isSome = true ∨ (seekF F w l B m s o lk).ov = true := by
 intro m
 induction m with
 | zero =>
  intro s o lk xs hs hp hl hc
  have : xs = [] := List.length_eq_zero_iff.1 (by omega)
  subst this
  rw [seek_e (hc.nil hs)]
  exact .inl rfl
 | succ m ih =>
  intro s o lk xs hs hp hl hc
  cases he : eq2 s.1 s.2 0 0 with
  | true => rw [seek_e he]; exact .inl rfl
  | false =>
   obtain ⟨d, hd, hd2, hd3⟩ := fsC_in he hs
   obtain ⟨p, hp1, hp2⟩ := hc d hd hd3
   rw [seek_s he]
   unfold atF
   rw [List.drop_zero]
   refine lp_comp (p := p) (by rw [hd2]; exact hp2) (fun lk => ?_) _ _ (plB_cells (hp p hp1))
   unfold stF
   have h1 := List.length_erase_of_mem hp1
   have h2 := List.length_pos_of_mem hp1
   exact ih _ _ _ (xs.erase p) (wo_ok hs (cvP_ok p)) (fun q hq => hp q (List.mem_of_mem_erase hq)) (by omega) (hc.erase hs)
theorem fwG_spec : ∀ (f n : Nat) (lk : Int), (fwG F w l B s f n lk).1 = 7 ∨ ((fwG F w l B s f n lk).1 = 6 ∧ ∀ m, n ≤ m → m < n + f → ∃ lk', (seekF F w l B m s [] lk').ov = false ∧ (seekF F w l B m s [] lk').fd.isSome = false) ∨
 ((fwG F w l B s f n lk).1 = 0 ∧ ∃ n', n ≤ n' ∧ (∃ lk', (seekF F w l B n' s [] lk').fd = some (fwG F w l B s f n lk).2.1) ∧ ∀ m, n ≤ m → m < n' → ∃ lk', (seekF F w l B m s [] lk').ov = false ∧ (seekF F w l B m s [] lk').fd.isSome = false)
 | 0, n, lk => .inr (.inl ⟨rfl, fun m h1 h2 => by omega⟩)
 | f + 1, n, lk => by
  rw [fwG]
  by_cases ho : (seekF F w l B n s [] lk).ov = true
  ·rw [if_pos ho]; exact .inl rfl
  ·rw [if_neg ho]
   by_cases hf : (seekF F w l B n s [] lk).fd.isSome = true
   ·rw [if_pos hf]
    exact .inr (.inr ⟨rfl, n, Nat.le_refl _, ⟨lk, fd_get hf⟩, fun m h1 h2 => by omega⟩)
   ·rw [if_neg hf]
    have h0 : ∃ lk', (seekF F w l B n s [] lk').ov = false ∧ (seekF F w l B n s [] lk').fd.isSome = false := ⟨lk, by simpa using ho, by simpa using hf⟩
    rcases fwG_spec f (n + 1) (seekF F w l B n s [] lk).lk with h | ⟨h, h2⟩ | ⟨h, n', h1, h2, h3⟩
    ·exact .inl h
    ·refine .inr (.inl ⟨h, fun m hm hm2 => ?_⟩)
     rcases (by omega : m = n ∨ n + 1 ≤ m) with e | e
     ·rw [e]; exact h0
     ·exact h2 m e (by omega)
    ·refine .inr (.inr ⟨h, n', by omega, h2, fun m hm hm2 => ?_⟩)
     rcases (by omega : m = n ∨ n + 1 ≤ m) with e | e
     ·rw [e]; exact h0
     ·exact h3 m e hm2
def szS (s : Int × Int) : Nat := (listL s.1 s.2).length
theorem pickL_congr {p q : Nat → Bool} : ∀ n, (∀ i, i < n → p i = q i) → pickL p n = pickL q n
 | 0, _ => rfl
 | n + 1, h => by
  have ih := pickL_congr n (fun i hi => h i (by omega))
  have h0 := h n (by omega)
  simp only [pickL, ih, h0]
theorem pickL_split (p q : Nat → Bool) : ∀ n, (pickL p n).length = (pickL (fun i => p i && q i) n).length + (pickL (fun i => p i && !q i) n).length
 | 0 => rfl
 | n + 1 => by
  have ih := pickL_split p q n
  simp only [pickL]
  by_cases hp : p n = true <;> by_cases hq : q n = true <;> simp [hp, hq, ih] <;> omega
theorem sz_boP (hs : okP s) (p : Int) : (szS s : Int) = boP F w l s p + (szS (wo0 s.1 (cvP F w l p).1, wo1 s.2 (cvP F w l p).2) : Int) := by
 have k := cvP_ok (F := F) (w := w) (l := l) p
 have h := pickL_split (fun i => hasB s.1 s.2 (i : Int)) (fun i => hasB (cvP F w l p).1 (cvP F w l p).2 (i : Int)) 100
 unfold szS boP listL listN
 have e1 : pickL (fun i => hasB (bo0 (cvP F w l p).1 s.1) (bo1 (cvP F w l p).2 s.2) (i : Int)) 100 = pickL (fun i => hasB s.1 s.2 (i : Int) && hasB (cvP F w l p).1 (cvP F w l p).2 (i : Int)) 100 := pickL_congr 100 (fun i hi => by
  rw [hasB_bo k.1 k.w2 hs.1 hs.w2, Bool.and_comm])
 have e2 : pickL (fun i => hasB (wo0 s.1 (cvP F w l p).1) (wo1 s.2 (cvP F w l p).2) (i : Int)) 100 = pickL (fun i => hasB s.1 s.2 (i : Int) && !hasB (cvP F w l p).1 (cvP F w l p).2 (i : Int)) 100 := pickL_congr 100 (fun i hi => wo_has hs p i)
 simp only [e1, e2]
 omega
theorem sz_pos (hs : okP s) (he : eq2 s.1 s.2 0 0 = false) : 0 < szS s := by
 have h0 := cn_0 hs
 rw [he] at h0
 unfold szS
 cases hd : decide (0 < ((listL s.1 s.2).length : Int)) with
 | true => have := of_decide_eq_true hd; omega
 | false => rw [hd] at h0; exact absurd h0 (by decide)
theorem boP_pos {p : Int} (hs : okP s) (hd : d < 100) (h1 : hasB s.1 s.2 (d : Int) = true) (h2 : hasB (cvP F w l p).1 (cvP F w l p).2 (d : Int) = true) : 0 < boP F w l s p := by
 have k := cvP_ok (F := F) (w := w) (l := l) p
 obtain ⟨j, hj, _⟩ := pickL_all (p := fun i => hasB (bo0 (cvP F w l p).1 s.1) (bo1 (cvP F w l p).2 s.2) (i : Int)) (n := 100) (c := d) hd (by
  have := hasB_bo k.1 k.w2 hs.1 hs.w2 d
  rw [this, h1, h2]; rfl)
 unfold boP listL listN
 omega
theorem boP_nn (p : Int) : 0 ≤ boP F w l s p := by unfold boP; omega
theorem grC_best (hs : okP s) : ∀ n, (grC F w l s n = (-1, 0) ∧ ∀ c : Nat, c < n → boP F w l s (c : Int) = 0) ∨ (0 ≤ (grC F w l s n).1 ∧ 0 < (grC F w l s n).2 ∧ (grC F w l s n).2 = boP F w l s (grC F w l s n).1)
 | 0 => .inl ⟨grC_0.symm, fun c h => by omega⟩
 | n + 1 => by
  have ih := grC_best hs n
  rw [grC_s hs]
  unfold grSt
  by_cases h : (grC F w l s n).2 < boP F w l s (n : Int)
  ·rw [if_pos h]
   refine .inr ⟨by simp only; omega, ?_, rfl⟩
   simp only
   rcases ih with ⟨e, _⟩ | ⟨_, e, _⟩
   ·rw [e] at h; exact h
   ·omega
  ·rw [if_neg h]
   rcases ih with ⟨e, h1⟩ | h1
   ·refine .inl ⟨e, fun c hc => ?_⟩
    rcases (by omega : c < n ∨ c = n) with hc | hc
    ·exact h1 c hc
    ·rw [e] at h
     have := boP_nn (F := F) (w := w) (l := l) (s := s) (n : Int)
     rw [hc]
     simp only at h
     omega
   ·exact .inr h1
theorem grB_y (hs : okP s) (h : ¬ grB F w l s < 0) : plB F (grB F w l s) = true ∧ 0 < boP F w l s (grB F w l s) := by
 unfold grB at h ⊢
 rcases grC_best (F := F) (w := w) (l := l) hs 100 with ⟨e, _⟩ | ⟨_, h2, h3⟩
 ·rw [e] at h; exact absurd (by decide) h
 ·rw [h3] at h2
  refine ⟨?_, h2⟩
  cases hp : plB F (grC F w l s 100).1 with
  | true => rfl
  | false => rw [boP_0 hs hp] at h2; exact absurd h2 (by decide)
theorem grB_n (hs : okP s) (h : grB F w l s < 0) (hc : d < 100) : boP F w l s (d : Int) = 0 := by
 unfold grB at h
 rcases grC_best (F := F) (w := w) (l := l) hs 100 with ⟨_, e⟩ | ⟨h1, _, _⟩
 ·exact e d hc
 ·omega
theorem gr_sound : ∀ (f : Nat) (o : List Int) (s : Int × Int), okP s → (grR F w l f o s).1 = 0 → ∃ E, (grR F w l f o s).2 = o ++ E ∧ (∀ p ∈ E, plB F p = true) ∧ Cov F w l E s
 | 0, o, s, hs, h => by simp [grR] at h
 | f + 1, o, s, hs, h => by
  rw [grR] at h ⊢
  by_cases he : eq2 s.1 s.2 0 0 = true
  ·rw [if_pos he]; exact ⟨[], by simp, by simp, cov_empty hs he⟩
  ·rw [if_neg he] at h ⊢
   by_cases hb : grB F w l s < 0 ∨ o.length = 20
   ·rw [if_pos hb] at h; exact absurd h (by decide)
   ·rw [if_neg hb] at h ⊢
    obtain ⟨E, e1, e2, e3⟩ := gr_sound f _ _ (wo_ok hs (cvP_ok (grB F w l s))) h
    refine ⟨grB F w l s :: E, by rw [e1, List.append_assoc]; rfl, fun p hp => ?_, e3.cons hs⟩
    rcases List.mem_cons.1 hp with e | hp
    ·rw [e]; exact (grB_y hs (fun h => hb (.inl h))).1
    ·exact e2 p hp
theorem cov_self (hwl : l ≤ w) (hd : d < 100) (hb : isB F (d : Int) = true) (hk : F.k d = 0) : hasB (cvP F w l (d : Int)).1 (cvP F w l (d : Int)).2 (d : Int) = true := by
 have hk2 : (F.k (d : Int).toNat == 0) = true := by rw [Int.toNat_natCast, hk]; rfl
 rw [cov_has _ hd, hb, cvU_t hk2]
 have e : sqr (d : Int) (d : Int) = 0 := by unfold sqr; simp
 rw [e, show (1 : Int) + 0 = 1 from rfl, Int.ediv_one, decide_eq_true hwl]
 unfold plB
 rw [hb, Int.toNat_natCast, hk]
 rfl
theorem gr_comp (hwl : l ≤ w) : ∀ (f : Nat) (o : List Int) (s : Int × Int), okP s → (∀ d : Nat, d < 100 → hasB s.1 s.2 (d : Int) = true → isB F (d : Int) = true ∧ F.k d = 0) → szS s + o.length ≤ 20 → szS s < f → (grR F w l f o s).1 = 0
 | 0, o, s, hs, ht, h1, h2 => by omega
 | f + 1, o, s, hs, ht, h1, h2 => by
  rw [grR]
  by_cases he : eq2 s.1 s.2 0 0 = true
  ·rw [if_pos he]
  ·have he' : eq2 s.1 s.2 0 0 = false := by simpa using he
   rw [if_neg he]
   have hz := sz_pos hs he'
   obtain ⟨d, hd, _, hd3⟩ := fsC_in he' hs
   have h3 := boP_pos (F := F) (w := w) (l := l) hs hd hd3 (cov_self hwl hd (ht d hd hd3).1 (ht d hd hd3).2)
   have hn : ¬ grB F w l s < 0 := fun h => by have := grB_n hs h hd; omega
   have h4 := grB_y hs hn
   have h5 := sz_boP (F := F) (w := w) (l := l) hs (grB F w l s)
   rw [if_neg (by omega)]
   refine gr_comp hwl f _ _ (wo_ok hs (cvP_ok _)) (fun d hd hm => ?_) (by rw [List.length_append, List.length_singleton]; omega) (by omega)
   have hm2 : (hasB s.1 s.2 (d : Int) && !hasB (cvP F w l (grB F w l s)).1 (cvP F w l (grB F w l s)).2 (d : Int)) = true := by rw [← wo_has hs]; exact hm
   rw [Bool.and_eq_true] at hm2
   exact ht d hd hm2.1
theorem cov_none (hw : 0 ≤ w) (hwl : w < l) (p : Int) (hd : d < 100) : hasB (cvP F w l p).1 (cvP F w l p).2 (d : Int) = false := by
 rw [cov_has p hd]
 cases hp : plB F p with
 | false => rfl
 | true =>
  have hr := isB_true.1 (plB_a hp)
  have hq := sqr_b p (d : Int) (by omega) (by omega)
  have h1 : w / (1 + sqr p (d : Int)) ≤ w := Int.ediv_le_self _ hw
  have : cvU F p (d : Int) w l = false := by
   cases hk : (F.k (d : Int).toNat == 0) with
   | false => exact cvU_1 hk
   | true => rw [cvU_t hk]; exact decide_eq_false (by omega)
  rw [this, Bool.and_false]
  rfl
theorem gr_none (hw : 0 ≤ w) (hwl : w < l) (hs : okP s) (he : eq2 s.1 s.2 0 0 = false) (f : Nat) : (grR F w l (f + 1) o s).1 = 6 := by
 rw [grR, if_neg (by rw [he]; decide)]
 have hb : grB F w l s < 0 := by
  refine Classical.byContradiction fun h => ?_
  have h1 := (grB_y hs h).2
  have h2 : boP F w l s (grB F w l s) = 0 := by
   have k := cvP_ok (F := F) (w := w) (l := l) (grB F w l s)
   unfold boP
   have := listL_0 (tx := bo0 (cvP F w l (grB F w l s)).1 s.1) (ty := bo1 (cvP F w l (grB F w l s)).2 s.2) (fun d hd => by
    have e := hasB_bo k.1 k.w2 hs.1 hs.w2 d
    rw [e, cov_none hw hwl _ hd]; rfl)
   simp only [this]
   rfl
  omega
 rw [if_pos (.inl hb)]
theorem seek_none (hw : 0 ≤ w) (hwl : w < l) (hs : okP s) (he : eq2 s.1 s.2 0 0 = false) (m : Nat) : seekF F w l B m s o lk = ⟨none, false, lk⟩ := by
 cases m with
 | zero => exact seek_0 he
 | succ m =>
  rw [seek_s he]
  unfold atF
  obtain ⟨d, hd, hd2⟩ := fsC_nat he hs
  exact lp_no (fun p => by rw [hd2]; exact cov_none hw hwl p hd) _ _
theorem fwG_none (hw : 0 ≤ w) (hwl : w < l) (hs : okP s) (he : eq2 s.1 s.2 0 0 = false) : ∀ (f n : Nat) (lk : Int), (fwG F w l B s f n lk).1 = 6
 | 0, _, _ => rfl
 | f + 1, n, lk => by
  rw [fwG, seek_none hw hwl hs he, if_neg (by simp), if_neg (by simp)]
  exact fwG_none hw hwl hs he f (n + 1) _
theorem pig : ∀ (A xs : List Int), A.Pairwise (fun x y => apB F w l x y = true) → (∀ x ∈ A, ∃ p ∈ xs, cvB F w l p x = true) → A.length ≤ xs.length
 | [], _, _, _ => Nat.zero_le _
 | x :: A, xs, hp, hc => by
  rw [List.pairwise_cons] at hp
  obtain ⟨p, h1, h2⟩ := hc x (by simp)
  have hl := List.length_erase_of_mem h1
  have hl2 := List.length_pos_of_mem h1
  have ih := pig A (xs.erase p) hp.2 (fun y hy => by
   obtain ⟨q, h3, h4⟩ := hc y (List.mem_cons_of_mem _ hy)
   refine ⟨q, (List.mem_erase_of_ne (fun e => ?_)).2 h3, h4⟩
   subst e
   have hb : isB F q = true := by unfold cvB at h2; rw [Bool.and_eq_true] at h2; exact h2.1
   have hr := isB_true.1 hb
   obtain ⟨e, rfl⟩ := Int.eq_ofNat_of_zero_le (show 0 ≤ q by omega)
   have h5 := hp.1 y hy
   unfold apB at h5
   have h6 := allB_iff.1 h5 e (by omega)
   rw [h2, h4] at h6
   exact absurd h6 (by decide))
  rw [List.length_cons]
  omega
theorem apL_mem {x : Int} : ∀ n, x ∈ apL F w l L n → ∃ i, i < n ∧ x = atI L i
 | 0, h => by simp [apL] at h
 | n + 1, h => by
  rw [apL] at h
  split at h
  ·rw [List.mem_append, List.mem_singleton] at h
   rcases h with h | h
   ·obtain ⟨i, h1, h2⟩ := apL_mem n h; exact ⟨i, by omega, h2⟩
   ·exact ⟨n, by omega, h⟩
  ·obtain ⟨i, h1, h2⟩ := apL_mem n h; exact ⟨i, by omega, h2⟩
theorem mem_atI {x : Int} (h : x ∈ L) : ∃ j, j < L.length ∧ atI L j = x := by
 obtain ⟨j, hj, e⟩ := List.mem_iff_getElem.1 h
 exact ⟨j, hj, atI_of (by rw [List.getElem?_eq_getElem hj, e])⟩
theorem apL_pair (hL : ∀ i j, i < j → j < L.length → atI L i < atI L j) : ∀ n, n ≤ L.length → (apL F w l L n).Pairwise (fun x y => x < y ∧ apB F w l x y = true)
 | 0, _ => List.Pairwise.nil
 | n + 1, hn => by
  have ih := apL_pair hL n (by omega)
  rw [apL]
  split
  ·next h =>
   rw [List.pairwise_append]
   refine ⟨ih, List.pairwise_singleton _ _, fun x hx y hy => ?_⟩
   rw [List.mem_singleton] at hy
   subst hy
   obtain ⟨i, h1, h2⟩ := apL_mem n hx
   obtain ⟨j, h3, h4⟩ := mem_atI hx
   refine ⟨by rw [h2]; exact hL i n h1 (by omega), ?_⟩
   have := allB_iff.1 h j h3
   rwa [h4] at this
  ·exact ih
theorem pair_at {R : Int → Int → Prop} (h : L.Pairwise R) (hij : i < j) (hj : j < L.length) : R (atI L i) (atI L j) := by
 have e1 : atI L i = L[i]'(by omega) := atI_of (List.getElem?_eq_getElem _)
 have e2 : atI L j = L[j] := atI_of (List.getElem?_eq_getElem _)
 rw [e1, e2]
 exact List.pairwise_iff_getElem.1 h i j (by omega) hj hij
end
section
variable {F : Fld} {w l B c k lk tx ty : Int} {s t : Int × Int} {o L xs A : List Int} {m n i j d : Nat}
theorem tg_has (hx : wrd tx) (hy : wrd ty) (hd : d < 100) : hasB (gr0 F tx ty).1 (gr0 F tx ty).2 (d : Int) = tgB F tx ty (d : Int) := by
 have h := (lf_0 (F := F) (w := 0) (l := 0) (xs := []) hx hy).2 d hd
 have e : hasB (gr0 F tx ty).1 (gr0 F tx ty).2 (d : Int) = (tgB F tx ty (d : Int) && !cvH F 0 0 [] (d : Int) 0) := h
 rw [e]
 simp [cvH]
theorem tg_sl (h : tgB F tx ty c = true) : isB F c = true ∧ F.k c.toNat = 0 := by
 unfold tgB at h
 rw [Bool.and_eq_true, Bool.and_eq_true, beq_iff_eq] at h
 exact h.1
theorem tg_list (hx : wrd tx) (hy : wrd ty) : listL (gr0 F tx ty).1 (gr0 F tx ty).2 = tgL F tx ty 100 := tg_eq hx hy
theorem tg_sz (hx : wrd tx) (hy : wrd ty) : szS (gr0 F tx ty) = (tgL F tx ty 100).length := by unfold szS; rw [tg_list hx hy]
theorem tg_small (h : (listL tx ty).length ≤ n) : (tgL F tx ty 100).length ≤ n := by
 have h1 := pickL_split (fun i => hasB tx ty (i : Int)) (fun i => isB F (i : Int) && (F.k (i : Int).toNat == 0)) 100
 have e : pickL (fun i => hasB tx ty (i : Int) && (isB F (i : Int) && (F.k (i : Int).toNat == 0))) 100 = tgL F tx ty 100 := by
  unfold tgL tgB
  exact pickL_congr 100 (fun i _ => Bool.and_comm _ _)
 have e2 : listL tx ty = pickL (fun i => hasB tx ty (i : Int)) 100 := by unfold listL listN; rfl
 rw [e2] at h
 rw [e] at h1
 omega
theorem tgL_up : ∀ i j, i < j → j < (tgL F tx ty 100).length → atI (tgL F tx ty 100) i < atI (tgL F tx ty 100) j := pickL_lt (p := fun i => tgB F tx ty (i : Int)) 100
def apX (F : Fld) (w l tx ty : Int) : List Int := apL F w l (tgL F tx ty 100) (tgL F tx ty 100).length
theorem apX_pair : (apX F w l tx ty).Pairwise (fun x y => x < y ∧ apB F w l x y = true) := apL_pair tgL_up _ (Nat.le_refl _)
theorem apX_tg {x : Int} (h : x ∈ apX F w l tx ty) : (0 ≤ x ∧ x < 100) ∧ tgB F tx ty x = true := by
 obtain ⟨i, h1, h2⟩ := apL_mem _ h
 rw [h2]
 exact tgL_in h1
theorem apX_ok (hc : code F (inB w 1 1000 && inB l 1 1000) = 0) : caB F w l (apX F w l tx ty) = true := by
 refine caB_t hc (fun i hi => okN_u ⟨?_, ?_⟩ (fun k hk => (pair_at apX_pair hk hi).2))
 ·have h := tg_sl (apX_tg (atI_mem hi)).2
  unfold slB
  rw [h.1, h.2]
  rfl
 ·cases hb : hasN (apX F w l tx ty) (atI (apX F w l tx ty) i) i with
  | false => rfl
  | true =>
   obtain ⟨k, h1, h2⟩ := (hasN_iff i).1 hb
   have := (pair_at apX_pair h1 hi).1
   omega
theorem cvH_iff (hd : d < 100) : ∀ n, n ≤ xs.length → (∀ p ∈ xs, plB F p = true) → (cvH F w l xs (d : Int) n = true ↔ ∃ j, j < n ∧ hasB (cvP F w l (atI xs j)).1 (cvP F w l (atI xs j)).2 (d : Int) = true)
 | 0, _, _ => by simp [cvH]
 | n + 1, hn, hp => by
  rw [cvH, Bool.or_eq_true, cvH_iff hd n (by omega) hp, ← cvP_t (hp _ (atI_mem (show n < xs.length by omega)))]
  constructor
  ·rintro (⟨j, h1, h2⟩ | h)
   ·exact ⟨j, by omega, h2⟩
   ·exact ⟨n, by omega, h⟩
  ·rintro ⟨j, h1, h2⟩
   rcases (by omega : j < n ∨ j = n) with h | h
   ·exact .inl ⟨j, h, h2⟩
   ·subst h; exact .inr h2
theorem ck_yes (hc : code F (inB w 1 1000 && inB l 1 1000) = 0) (hx : wrd tx) (hy : wrd ty) (hp : ∀ p ∈ xs, plB F p = true) (hv : Cov F w l xs (gr0 F tx ty)) : ckB F w l tx ty xs = true := by
 rw [ckB_y hc]
 refine ckP_t (fun j hj => hp _ (atI_mem hj)) (fun d hd ht => ?_)
 obtain ⟨p, h1, h2⟩ := hv d hd (by rw [tg_has hx hy hd]; exact ht)
 obtain ⟨j, h3, h4⟩ := mem_atI h1
 exact (cvH_iff hd _ (Nat.le_refl _) hp).2 ⟨j, h3, by rw [h4]; exact h2⟩
theorem ck_cov (hx : wrd tx) (hy : wrd ty) (h : ckB F w l tx ty xs = true) : (∀ p ∈ xs, plB F p = true) ∧ Cov F w l xs (gr0 F tx ty) := by
 unfold ckB ckP at h
 rw [Bool.and_eq_true, Bool.and_eq_true] at h
 have hp : ∀ p ∈ xs, plB F p = true := fun p hp => by
  obtain ⟨j, h1, h2⟩ := mem_atI hp
  have := allB_iff.1 h.2.1 j h1
  rwa [h2] at this
 refine ⟨hp, fun d hd hm => ?_⟩
 rw [tg_has hx hy hd] at hm
 have h1 := allB_iff.1 h.2.2 d hd
 rw [hm, Bool.not_true, Bool.false_or] at h1
 obtain ⟨j, h2, h3⟩ := (cvH_iff hd _ (Nat.le_refl _) hp).1 h1
 exact ⟨atI xs j, atI_mem h2, h3⟩
theorem ap_le (hx : wrd tx) (hy : wrd ty) (hv : Cov F w l xs (gr0 F tx ty)) : (apX F w l tx ty).length ≤ xs.length := by
 refine pig _ xs (apX_pair.imp (fun h => h.2)) (fun x hx2 => ?_)
 obtain ⟨h1, h2⟩ := apX_tg hx2
 obtain ⟨d, rfl⟩ := Int.eq_ofNat_of_zero_le h1.1
 have hd : d < 100 := by omega
 obtain ⟨p, h3, h4⟩ := hv d hd (by rw [tg_has hx hy hd]; exact h2)
 exact ⟨p, h3, by rw [← cov_cvB p hd]; exact h4⟩
structure PlOk (F : Fld) (w l tx ty : Int) : Prop where
 ok : okB F = true
 hw : 1 ≤ w ∧ w ≤ 40
 hl : 1 ≤ l ∧ l ≤ 12
 hx : wrd tx
 hy : wrd ty
 sz : (listL tx ty).length ≤ 20
variable (h : PlOk F w l tx ty)
include h
theorem PlOk.code : code F (inB w 1 1000 && inB l 1 1000) = 0 := code_0 h.ok (by
 have := h.hw; have := h.hl
 unfold inB
 rw [decide_eq_true (by omega), decide_eq_true (by omega), decide_eq_true (by omega), decide_eq_true (by omega)]; rfl)
theorem PlOk.fcode : fwC F w l 3000 = 0 := fwS_0 h.code (by decide)
theorem PlOk.okP : okP (gr0 F tx ty) := gr0_ok h.hx h.hy
theorem PlOk.emp : eq2 (gr0 F tx ty).1 (gr0 F tx ty).2 0 0 = true ↔ (tgL F tx ty 100).length = 0 := by
 rw [cn_0 h.okP, tg_list h.hx h.hy]
 constructor
 ·intro hh
  refine Classical.byContradiction fun hn => ?_
  rw [decide_eq_true (by omega)] at hh
  exact absurd hh (by decide)
 ·intro hh
  rw [hh]
  rfl
theorem PlOk.far (hwl : w < l) (ht : (tgL F tx ty 100).length ≠ 0) : grK F w l tx ty = 6 ∧ fwK F w l 3000 tx ty = 6 := by
 have he : eq2 (gr0 F tx ty).1 (gr0 F tx ty).2 0 0 = false := by
  cases hh : eq2 (gr0 F tx ty).1 (gr0 F tx ty).2 0 0 with
  | false => rfl
  | true => exact absurd (h.emp.1 hh) ht
 have hw := h.hw
 constructor
 ·rw [grK_0 h.code]; exact gr_none (by omega) hwl h.okP he 21
 ·rw [fwK_t h.fcode rfl]; exact fwG_none (by omega) hwl h.okP he 21 0 0
theorem PlOk.gr0 (hn : ¬ (w < l ∧ (tgL F tx ty 100).length ≠ 0)) : grK F w l tx ty = 0 := by
 rw [grK_0 h.code]
 by_cases hwl : l ≤ w
 ·refine gr_comp hwl 22 [] _ h.okP (fun d hd hm => ?_) ?_ ?_
  ·rw [tg_has h.hx h.hy hd] at hm
   have := tg_sl hm
   rwa [Int.toNat_natCast] at this
  ·rw [tg_sz h.hx h.hy, List.length_nil]; exact tg_small h.sz
  ·have := tg_small (F := F) h.sz
   rw [tg_sz h.hx h.hy]; omega
 ·have he := h.emp.2 (by omega)
  rw [grR, if_pos he]
theorem PlOk.grC (hg : grK F w l tx ty = 0) : (∀ p ∈ grX F w l tx ty, plB F p = true) ∧ Cov F w l (grX F w l tx ty) (Proofs.Ytgglcebaanomhaa.gr0 F tx ty) := by
 rw [grK_0 h.code] at hg
 obtain ⟨E, e1, e2, e3⟩ := gr_sound 22 [] _ h.okP hg
 have : grX F w l tx ty = E := e1
 rw [this]
 exact ⟨e2, e3⟩
theorem PlOk.gr1 (hg : grK F w l tx ty = 0) : ckB F w l tx ty (grX F w l tx ty) = true := ck_yes h.code h.hx h.hy (h.grC hg).1 (h.grC hg).2
theorem PlOk.gr2 (hg : grK F w l tx ty = 0) : (apX F w l tx ty).length ≤ (grX F w l tx ty).length := ap_le h.hx h.hy (h.grC hg).2
theorem PlOk.least {n' : Nat} {xs : List Int} (h3 : ∀ m, m < n' → ∃ lk', (seekF F w l 3000 m (Proofs.Ytgglcebaanomhaa.gr0 F tx ty) [] lk').ov = false ∧ (seekF F w l 3000 m (Proofs.Ytgglcebaanomhaa.gr0 F tx ty) [] lk').fd.isSome = false)
 (hp : ∀ p ∈ xs, plB F p = true) (hv : Cov F w l xs (Proofs.Ytgglcebaanomhaa.gr0 F tx ty)) : n' ≤ xs.length := by
 refine Classical.byContradiction fun hn => ?_
 obtain ⟨lk', h4, h5⟩ := h3 xs.length (by omega)
 rcases seek_comp (B := 3000) xs.length _ [] lk' xs h.okP hp (Nat.le_refl _) hv with h6 | h6
 ·rw [h5] at h6; exact absurd h6 (by decide)
 ·rw [h4] at h6; exact absurd h6 (by decide)
theorem PlOk.fw (hg : grK F w l tx ty = 0) : fwK F w l 3000 tx ty = 7 ∨ (fwK F w l 3000 tx ty = 0 ∧ ∃ n', (fwX F w l 3000 tx ty).length ≤ n' ∧ (∀ p ∈ fwX F w l 3000 tx ty, plB F p = true) ∧ Cov F w l (fwX F w l 3000 tx ty) (Proofs.Ytgglcebaanomhaa.gr0 F tx ty) ∧ ∀ m, m < n' → ∃ lk', (seekF F w l 3000 m (Proofs.Ytgglcebaanomhaa.gr0 F tx ty) [] lk').ov = false ∧ (seekF F w l 3000 m (Proofs.Ytgglcebaanomhaa.gr0 F tx ty) [] lk').fd.isSome = false) := by
 have e : fwK F w l 3000 tx ty = (fwT F w l 3000 tx ty).1 := fwK_t h.fcode rfl
 rw [e]
 rcases fwG_spec (F := F) (w := w) (l := l) (B := 3000) (s := Proofs.Ytgglcebaanomhaa.gr0 F tx ty) 21 0 0 with h1 | ⟨_, h2⟩ | ⟨h1, n', _, ⟨lk', h3⟩, h4⟩
 ·exact .inl h1
 ·have := h.least (n' := 21) (fun m hm => h2 m (by omega) (by omega)) (h.grC hg).1 (h.grC hg).2
  have := grX_length (F := F) (w := w) (l := l) (tx := tx) (ty := ty)
  omega
 ·obtain ⟨E, e1, e2, e3, e4⟩ := seek_sound n' _ [] lk' _ h.okP h3
  have e5 : fwX F w l 3000 tx ty = E := e1
  rw [e5]
  exact .inr ⟨h1, n', e2, e3, e4, fun m hm => h4 m (by omega) hm⟩
theorem PlOk.fw7 (hg : grK F w l tx ty = 0) (h0 : fwK F w l 3000 tx ty ≠ 0) : fwK F w l 3000 tx ty = 7 := by
 rcases h.fw hg with h1 | ⟨h1, _⟩
 ·exact h1
 ·exact absurd h1 h0
theorem PlOk.fwx (hg : grK F w l tx ty = 0) (h0 : fwK F w l 3000 tx ty = 0) : ckB F w l tx ty (fwX F w l 3000 tx ty) = true ∧ (fwX F w l 3000 tx ty).length ≤ (grX F w l tx ty).length ∧ (apX F w l tx ty).length ≤ (fwX F w l 3000 tx ty).length ∧
 ((fwX F w l 3000 tx ty).length = 0 ↔ (tgL F tx ty 100).length = 0) ∧ ((fwX F w l 3000 tx ty).length ≠ 0 → ckB F w l tx ty ((fwX F w l 3000 tx ty).drop 1) = false) := by
 rcases h.fw hg with h1 | ⟨_, n', h2, h3, h4, h5⟩
 ·omega
 ·have h6 := h.least h5 (h.grC hg).1 (h.grC hg).2
  refine ⟨ck_yes h.code h.hx h.hy h3 h4, by omega, ap_le h.hx h.hy h4, ⟨fun hh => ?_, fun hh => ?_⟩, fun hh => ?_⟩
  ·rw [List.length_eq_zero_iff.1 hh] at h4
   exact h.emp.1 (h4.nil h.okP)
  ·have := h.least (xs := []) h5 (by simp) (cov_empty h.okP (h.emp.2 hh))
   rw [List.length_nil] at this
   omega
  ·cases hb : ckB F w l tx ty ((fwX F w l 3000 tx ty).drop 1) with
   | false => rfl
   | true =>
    obtain ⟨h7, h8⟩ := ck_cov h.hx h.hy hb
    have := h.least h5 h7 h8
    rw [List.length_drop] at this
    omega
end
end Go.Proofs.Ytgglcebaanomhaa
