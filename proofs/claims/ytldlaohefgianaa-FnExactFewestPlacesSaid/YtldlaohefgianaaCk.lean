/-
  Places that cover targets, told by members. No conditions.
-/
import Derived.Test.YtldlaohefgianaaBt
import Derived.Test.YtldlaohefgianaaEq
import Derived.Test.YtldlaohefgianaaFn11
namespace Go.Proofs.Ytldlaohefgianaa
open Go.RowKit
set_option linter.unusedSimpArgs false
set_option linter.unusedVariables false

--# lst
/-- A list of its own. -/
def Fct.lst (B : Nat) (t : TypeId) (k : IntKind) (xs : List Int) : Fct := ⟨fun v w => ∃ g cap cs, v = .slice (some ⟨g, 0, none⟩) xs.length cap ∧ B ≤ g ∧ Blk w g t cs ∧ SlI cs xs.length cap k xs, fun _ _ _ h k => by
  obtain ⟨g, cap, cs, e, hB, hb, hs⟩ := h
  exact ⟨g, cap, cs, e, hB, hb.ext k, hs⟩⟩

--# duo
/-- Two words. -/
structure DuoT (P : Program) (t e : TypeId) : Prop where
  ht : P.underlying t = some (.array 2 e)
  he : P.underlying e = some (.int .u64)
  hc : P.cellsOf e = 1
  hi : (P.info? e).isSome = true
  eg : P.eqGuardType P.depth t = false
def eq2 (x y x' y' : Int) : Bool := (x == x') && (y == y')
def duoF (x y : Int) (i : Nat) : Int := match i with | 0 => x | _ => y
theorem duo_arr (x y : Int) : (#[.int .u64 x, .int .u64 y] : Array Value) = arr 2 .u64 (duoF x y) := by
  refine arr_ext rfl (fun i hi => ?_)
  rcases (by omega : i = 0 ∨ i = 1) with rfl | rfl <;> rfl
theorem equalIn_duo {P : Program} {w : World} {t e : TypeId} (hT : DuoT P t e) (d : Nat) (x y x' y' : Int) : (Op.equalIn (d + 2) t (.agg #[.int .u64 x, .int .u64 y]) (.agg #[.int .u64 x', .int .u64 y'])).run P w = .ok (eq2 x y x' y') w := by
  rw [duo_arr, duo_arr, equalIn_arr hT.ht hT.he hT.hc hT.hi d _ _ w]
  congr 1
  unfold eqN eq2
  simp [List.range_succ, duoF]
theorem eq2_0 {x y : Int} : eq2 x y 0 0 = true ↔ (x = 0 ∧ y = 0) := by unfold eq2; simp

--# ck
section
variable {F : Fld} {w l tx ty : Int} {xs : List Int} {n : Nat}
/-- What a place covers. -/
def cvT (F : Fld) (w l p : Int) : Int × Int := setC F (fun c_ => cvU F p c_ w l) 100
def cvH (F : Fld) (w l : Int) (xs : List Int) (c : Int) : Nat → Bool
  | 0 => false
  | n + 1 => cvH F w l xs c n || hasB (cvT F w l (atI xs n)).1 (cvT F w l (atI xs n)).2 c
def plB (F : Fld) (c : Int) : Bool := isB F c && (F.k c.toNat != 3)
/-- A target. -/
def tgB (F : Fld) (tx ty c : Int) : Bool := (isB F c && (F.k c.toNat == 0)) && hasB tx ty c
def tgL (F : Fld) (tx ty : Int) (n : Nat) : List Int := pickL (fun i => tgB F tx ty (i : Int)) n
def ckP (F : Fld) (w l tx ty : Int) (xs : List Int) : Bool := allB xs.length (fun j => plB F (atI xs j)) && allB 100 (fun c => !tgB F tx ty (c : Int) || cvH F w l xs (c : Int) xs.length)
def ckB (F : Fld) (w l tx ty : Int) (xs : List Int) : Bool := decide (code F (inB w 1 1000 && inB l 1 1000) = 0) && ckP F w l tx ty xs
theorem ckB_n (h : code F (inB w 1 1000 && inB l 1 1000) ≠ 0) : ckB F w l tx ty xs = false := by unfold ckB; rw [decide_eq_false h]; rfl
theorem ckB_y (h : code F (inB w 1 1000 && inB l 1 1000) = 0) : ckB F w l tx ty xs = ckP F w l tx ty xs := by unfold ckB; rw [decide_eq_true h]; rfl
theorem ckP_p {i : Nat} (hi : i < xs.length) (h : plB F (atI xs i) = false) : ckP F w l tx ty xs = false := by unfold ckP; rw [allB_false i hi h]; rfl
theorem ckP_c {c : Nat} (hc : c < 100) (h1 : tgB F tx ty (c : Int) = true) (h2 : cvH F w l xs (c : Int) xs.length = false) : ckP F w l tx ty xs = false := by
  unfold ckP
  rw [allB_false (p := fun c => !tgB F tx ty (c : Int) || cvH F w l xs (c : Int) xs.length) c hc (by simp [h1, h2]), Bool.and_false]
theorem ckP_t (h1 : ∀ j, j < xs.length → plB F (atI xs j) = true) (h2 : ∀ c : Nat, c < 100 → tgB F tx ty (c : Int) = true → cvH F w l xs (c : Int) xs.length = true) : ckP F w l tx ty xs = true := by
  unfold ckP
  rw [allB_true h1, allB_true (fun c hc => ?_)]
  · rfl
  · cases hb : tgB F tx ty (c : Int) with
    | false => rfl
    | true => rw [h2 c hc hb]; rfl
theorem ckB_p (h : code F (inB w 1 1000 && inB l 1 1000) = 0) (i : Nat) (hi : i < xs.length) (hp : (isB F (atI xs i) && (F.k (atI xs i).toNat != 3)) = false) : ckB F w l tx ty xs = false := by rw [ckB_y h]; exact ckP_p hi hp
/-- What is left of the targets behind n places. -/
def lfI (F : Fld) (w l tx ty : Int) (xs : List Int) (n : Nat) (s : Int × Int) : Prop := okP s ∧ ∀ c : Nat, c < 100 → hasB s.1 s.2 (c : Int) = (tgB F tx ty (c : Int) && !cvH F w l xs (c : Int) n)
/-- What n places cover. -/
def alI (F : Fld) (w l : Int) (xs : List Int) (n : Nat) (s : Int × Int) : Prop := okP s ∧ ∀ c : Nat, c < 100 → hasB s.1 s.2 (c : Int) = cvH F w l xs (c : Int) n
theorem cvT_ok (p : Int) : okP (cvT F w l p) := setC_ok 100 (Nat.le_refl _)
theorem un_ok {s t : Int × Int} (h : okP s) (k : okP t) : okP (un0 s.1 t.1, un1 s.2 t.2) := ⟨un0_w h.1 k.1, by unfold un1; constructor <;> (simp only; omega)⟩
theorem wo_ok {s t : Int × Int} (h : okP s) (k : okP t) : okP (wo0 s.1 t.1, wo1 s.2 t.2) := ⟨wo0_w h.1 k.1, by unfold wo1; constructor <;> (simp only; omega)⟩
theorem bo_ok {s t : Int × Int} (h : wrd s.1) (h2 : wrd s.2) (k : okP t) : okP (bo0 s.1 t.1, bo1 s.2 t.2) := ⟨bo0_w h k.1, by unfold bo1; constructor <;> (simp only; omega)⟩
theorem lf_0 (hx : wrd tx) (hy : wrd ty) : lfI F w l tx ty xs 0 (bo0 tx (setC F (fun c_ => F.k c_.toNat == 0) 100).1, bo1 ty (setC F (fun c_ => F.k c_.toNat == 0) 100).2) := by
  have k := setC_ok (F := F) (p := fun c_ => F.k c_.toNat == 0) 100 (Nat.le_refl _)
  refine ⟨bo_ok (s := (tx, ty)) hx hy k, fun c hc => ?_⟩
  rw [hasB_bo hx hy k.1 k.w2, hasB_set c 100 (Nat.le_refl _), decide_eq_true hc]
  unfold tgB
  simp [cvH, Bool.and_comm]
theorem lf_s {s : Int × Int} (h : lfI F w l tx ty xs n s) : lfI F w l tx ty xs (n + 1) (wo0 s.1 (cvT F w l (atI xs n)).1, wo1 s.2 (cvT F w l (atI xs n)).2) := by
  have k := cvT_ok (F := F) (w := w) (l := l) (atI xs n)
  refine ⟨wo_ok h.1 k, fun c hc => ?_⟩
  rw [hasB_wo h.1.1 h.1.w2 k.1 k.w2, h.2 c hc]
  simp only [cvH, Bool.not_or, Bool.and_assoc]
theorem al_0 : alI F w l xs 0 (0, 0) := ⟨okP0, fun c _ => by rw [hasB_0]; rfl⟩
theorem al_s {s : Int × Int} (h : alI F w l xs n s) : alI F w l xs (n + 1) (un0 s.1 (cvT F w l (atI xs n)).1, un1 s.2 (cvT F w l (atI xs n)).2) := by
  have k := cvT_ok (F := F) (w := w) (l := l) (atI xs n)
  refine ⟨un_ok h.1 k, fun c hc => ?_⟩
  rw [hasB_un h.1.1 h.1.w2 k.1 k.w2, h.2 c hc]
  rfl
theorem lf_end {s : Int × Int} (hn : n = xs.length) (h : lfI F w l tx ty xs n s) (hp : ∀ j, j < n → plB F (atI xs j) = true) : eq2 s.1 s.2 0 0 = ckP F w l tx ty xs := by
  subst hn
  cases hb : eq2 s.1 s.2 0 0 with
  | true =>
    have h0 := (empty_iff h.1.1 h.1.2).1 (eq2_0.1 hb)
    refine (ckP_t hp fun c hc ht => ?_).symm
    have h1 := h0 c hc
    rw [h.2 c hc, ht, Bool.true_and] at h1
    simpa using h1
  | false =>
    have h0 : ¬ ∀ c : Nat, c < 100 → hasB s.1 s.2 (c : Int) = false := fun hh => by
      rw [eq2_0.2 ((empty_iff h.1.1 h.1.2).2 hh)] at hb
      exact absurd hb (by simp)
    have ⟨c, hc⟩ : ∃ c : Nat, ¬ (c < 100 → hasB s.1 s.2 (c : Int) = false) := Classical.byContradiction fun hne => h0 fun c => Classical.byContradiction fun hx => hne ⟨c, hx⟩
    have hc1 : c < 100 := Classical.byContradiction fun hx => hc fun hy => absurd hy hx
    have hc2 : hasB s.1 s.2 (c : Int) = true := by
      cases hh : hasB s.1 s.2 (c : Int) with
      | true => rfl
      | false => exact absurd (fun _ => hh) hc
    rw [h.2 c hc1, Bool.and_eq_true] at hc2
    exact (ckP_c hc1 hc2.1 (by simpa using hc2.2)).symm
theorem pickL_all {p : Nat → Bool} {n c : Nat} (hc : c < n) (hp : p c = true) : ∃ j, j < (pickL p n).length ∧ atI (pickL p n) j = (c : Int) := by
  induction n with
  | zero => omega
  | succ n ih =>
    by_cases h : c = n
    · subst h
      rw [pickL_1 hp]
      refine ⟨(pickL p c).length, by simp, ?_⟩
      unfold atI
      simp [List.getD]
    · obtain ⟨j, h1, h2⟩ := ih (by omega)
      cases hb : p n with
      | false => rw [pickL_2 hb]; exact ⟨j, h1, h2⟩
      | true =>
        rw [pickL_1 hb]
        refine ⟨j, by simp; omega, ?_⟩
        rw [← h2]
        unfold atI
        simp [List.getD, List.getElem?_append_left h1]
theorem tgL_length (F : Fld) (x y : Int) (n : Nat) : (tgL F x y n).length ≤ n := pickL_length _ n
theorem tgL_0 (F : Fld) (x y : Int) : tgL F x y 0 = [] := rfl
theorem tgL_t (h : tgB F tx ty (n : Int) = true) : tgL F tx ty (n + 1) = tgL F tx ty n ++ [(n : Int)] := pickL_1 (p := fun i => tgB F tx ty (i : Int)) h
theorem tgL_f (h : tgB F tx ty (n : Int) = false) : tgL F tx ty (n + 1) = tgL F tx ty n := pickL_2 (p := fun i => tgB F tx ty (i : Int)) h
theorem tgL_a (h : ((isB F (n : Int) && (F.k (n : Int).toNat == 0)) && hasB tx ty (n : Int)) = true) : tgL F tx ty (n + 1) = tgL F tx ty n ++ [(n : Int)] := tgL_t h
theorem tgL_b (h : ((isB F (n : Int) && (F.k (n : Int).toNat == 0)) && hasB tx ty (n : Int)) = false) : tgL F tx ty (n + 1) = tgL F tx ty n := tgL_f h
theorem tgL_c (h : (isB F (n : Int) && (F.k (n : Int).toNat == 0)) = true) (h2 : hasB tx ty (n : Int) = true) : tgL F tx ty (n + 1) = tgL F tx ty n ++ [(n : Int)] := tgL_t (by unfold tgB; rw [h, h2]; rfl)
theorem tgL_d (h : (isB F (n : Int) && (F.k (n : Int).toNat == 0)) = false) : tgL F tx ty (n + 1) = tgL F tx ty n := tgL_f (by unfold tgB; rw [h]; rfl)
theorem tgL_e (h : hasB tx ty (n : Int) = false) : tgL F tx ty (n + 1) = tgL F tx ty n := tgL_f (by unfold tgB; rw [h, Bool.and_false])
theorem plB_t {c : Int} (h : isB F c = true) (h2 : (F.k c.toNat == 3) = false) : plB F c = true := by unfold plB; rw [h, bneT h2]; rfl
theorem tgL_in {j : Nat} (h : j < (tgL F tx ty 100).length) : (0 ≤ atI (tgL F tx ty 100) j ∧ atI (tgL F tx ty 100) j < 100) ∧ tgB F tx ty (atI (tgL F tx ty 100) j) = true := by
  have h3 : 0 ≤ atI (tgL F tx ty 100) j ∧ atI (tgL F tx ty 100) j < (100 : Nat) ∧ tgB F tx ty ((atI (tgL F tx ty 100) j).toNat : Int) = true := pickL_mem (p := fun i => tgB F tx ty (i : Int)) (atI_mem h)
  obtain ⟨h4, h5, h6⟩ := h3
  rw [Int.toNat_of_nonneg h4] at h6
  exact ⟨⟨h4, by omega⟩, h6⟩
theorem al_f {s : Int × Int} {i : Nat} (hn : n = xs.length) (h : alI F w l xs n s) (hi : i < (tgL F tx ty 100).length) (hb : hasB s.1 s.2 (atI (tgL F tx ty 100) i) = false) : ckP F w l tx ty xs = false := by
  subst hn
  obtain ⟨h1, h2⟩ := tgL_in hi
  have e : ((atI (tgL F tx ty 100) i).toNat : Int) = atI (tgL F tx ty 100) i := Int.toNat_of_nonneg h1.1
  rw [← e] at hb h2
  rw [h.2 _ (by omega)] at hb
  exact ckP_c (by omega) h2 hb
theorem ckB_q (h : code F (inB w 1 1000 && inB l 1 1000) = 0) (i : Nat) (hi : i < xs.length) (hp : plB F (atI xs i) = false) : ckB F w l tx ty xs = false := by rw [ckB_y h]; exact ckP_p hi hp
theorem plB_f1 {c : Int} (h : isB F c = false) : plB F c = false := by unfold plB; rw [h]; rfl
theorem plB_f2 {c : Int} (h : (F.k c.toNat == 3) = true) : plB F c = false := by unfold plB; rw [bneF h, Bool.and_false]
theorem ckB_r {s : Int × Int} (h : code F (inB w 1 1000 && inB l 1 1000) = 0) (hn : n = xs.length) (hI : alI F w l xs n s) (k : Nat) (hk : k < (tgL F tx ty 100).length) (hb : hasB s.1 s.2 (atI (tgL F tx ty 100) k) = false) : ckB F w l tx ty xs = false := by rw [ckB_y h]; exact al_f hn hI hk hb
theorem al_t {s : Int × Int} (hn : n = xs.length) (h : alI F w l xs n s) (hp : ∀ j, j < n → plB F (atI xs j) = true) (ha : ∀ i, i < (tgL F tx ty 100).length → hasB s.1 s.2 (atI (tgL F tx ty 100) i) = true) : ckP F w l tx ty xs = true := by
  subst hn
  refine ckP_t hp fun c hc ht => ?_
  obtain ⟨j, h1, h2⟩ := pickL_all (p := fun i => tgB F tx ty (i : Int)) hc ht
  have := ha j h1
  rw [show atI (tgL F tx ty 100) j = (c : Int) from h2, h.2 c hc] at this
  exact this
theorem ckB_s {s : Int × Int} (h : code F (inB w 1 1000 && inB l 1 1000) = 0) (hn : n = xs.length) (hI : alI F w l xs n s) (hp : ∀ j, j < n → plB F (atI xs j) = true) (ha : ∀ i, i < (tgL F tx ty 100).length → hasB s.1 s.2 (atI (tgL F tx ty 100) i) = true) : ckB F w l tx ty xs = true := by rw [ckB_y h]; exact al_t hn hI hp ha
end
end Go.Proofs.Ytldlaohefgianaa
