/-
 What the law of the places asks for: lists that may be nil, a list's end, covers and coverers. No conditions.
-/
import Derived.Test.YtgglcebaanomhaaPm
import Derived.Test.YtgglcebaanomhaaLs
namespace Go.Proofs.Ytgglcebaanomhaa
open Go.RowKit
set_option linter.unusedSimpArgs false
set_option linter.unusedVariables false
theorem seq_join {P : Program} {c rest : Code} {Q : Exit → Act → World → Prop} {a : Act} {w : World} (I : Act → World → Prop) (h1 : (∀ a' w', I a' w' → rest.wp P Q a' w') → (c.seq rest).wp P Q a w) (h2 : ∀ a' w', I a' w' → rest.wp P Q a' w') : (c.seq rest).wp P Q a w := h1 h2
theorem wp_forget {P : Program} {c : Code} {Q : Exit → Act → World → Prop} {a : Act} {w : World} {f : (Nat → Value) → Act} (h : a = f (fun i => evalL a (.tmp i))) (k : ∀ J, c.wp P Q (f J) w) : c.wp P Q a w := by
 rw [h]
 exact k _
theorem eq2_s (x y : Int) : eq2 x y x y = true := by unfold eq2; simp
def LstV (w : World) (t : TypeId) (u : Value) (xs : List Int) : Prop := (u = .slice none 0 0 ∧ xs = []) ∨ ∃ g n cap cs, u = .slice (some ⟨g, 0, none⟩) n cap ∧ Blk w g t cs ∧ SlI cs n cap .i64 xs
theorem LstV.ext {w w' : World} {t : TypeId} {u : Value} {xs : List Int} (h : LstV w t u xs) (e : Ext w w') : LstV w' t u xs := by
 rcases h with h | ⟨g, n, cap, cs, h1, h2, h3⟩
 ·exact .inl h
 ·exact .inr ⟨g, n, cap, cs, h1, h2.ext e, h3⟩
def LsvR (w : World) (t : TypeId) (xs : List Int) (mk : Value → Value) (e : Ending) (w' : World) : Prop := ∃ u, e = .returned (mk u) ∧ LstV w' t u xs ∧ Ext w w'
theorem LsvR.of {w w' : World} {t : TypeId} {xs : List Int} {mk : Value → Value} {e : Ending} (h : RetI w t .i64 xs mk e w') : LsvR w t xs mk e w' := by
 obtain ⟨g, n, cap, cs, he, hb, hs, hE, _⟩ := h
 exact ⟨_, he, .inr ⟨g, n, cap, cs, rfl, hb, hs⟩, hE⟩
section
variable {P : Program} {ops : Array Oper} {Q : Exit → Act → World → Prop} {rest : List Oper} {op : Oper} {a : Act} {w : World} {f : FuncId} {args : Array Value} {t : TypeId} {xs : List Int} {mk : Value → Value}
theorem wlsv (hc : Calls P f args w (LsvR w t xs mk)) (k : ∀ u w', LstV w' t u xs → Ext w w' → wpList P ops Q rest (putL a op.dst (mk u)) w')
 (hw : Region.wanted op (yielded ops a.tmps) = true := by kernel_rfl) (he : (execOp (evalL a) op).run P w = .ok (.enter f args) w := by kernel_rfl) : wpList P ops Q (op :: rest) a w :=
 wpl_callx (S := fun v w' => ∃ u, v = mk u ∧ LstV w' t u xs ∧ Ext w w') f args rfl hw he hc
  (fun e w' ⟨u, h1, h2⟩ => ⟨_, h1, u, rfl, h2⟩) (fun v w' ⟨u, h1, h2, h3⟩ => by rw [h1]; exact k u w' h2 h3)
def NumR (w : World) (n : Int) (e : Ending) (w' : World) : Prop := ∃ r : Int, e = .returned (.int .i64 r) ∧ (0 ≤ r ∧ r < n) ∧ Ext w w'
theorem wnum {n : Int} (hc : Calls P f args w (NumR w n)) (k : ∀ (r : Int) w', (0 ≤ r ∧ r < n) → Ext w w' → wpList P ops Q rest (putL a op.dst (.int .i64 r)) w')
 (hw : Region.wanted op (yielded ops a.tmps) = true := by kernel_rfl) (he : (execOp (evalL a) op).run P w = .ok (.enter f args) w := by kernel_rfl) : wpList P ops Q (op :: rest) a w :=
 wpl_callx (S := fun v w' => ∃ r : Int, v = .int .i64 r ∧ (0 ≤ r ∧ r < n) ∧ Ext w w') f args rfl hw he hc
  (fun e w' ⟨u, h1, h2⟩ => ⟨_, h1, u, rfl, h2⟩) (fun v w' ⟨u, h1, h2, h3⟩ => by rw [h1]; exact k u w' h2 h3)
end
theorem SlA.tl {w : World} {g n cap lo : Nat} {t : TypeId} {cs : Array Value} {k : IntKind} {xs : List Int} (hb : Blk w g t cs) (hS : SlI cs n cap k xs) : SlA w (tlA g cap lo) k (xs.drop lo) := by
 intro i hi
 rw [List.length_drop] at hi
 have hl := hS.len
 have hc := SlO.nc hS
 unfold tlA
 rw [if_neg (by omega), Addr.add_mid, hb.cell, Nat.mul_one]
 have h := SlI.get hS (i := lo + i) (by omega)
 rw [Nat.zero_add] at h
 rw [h]
 congr 2
 unfold atI
 simp [List.getD, List.getElem?_drop]
theorem bneq_iff {x y : Int} (h : x = 0 ↔ y = 0) : ((x == 0) != (y == 0)) = false := by
 by_cases hx : x = 0
 ·rw [h.1 hx, hx]; rfl
 ·have hy : y ≠ 0 := fun e => hx (h.2 e)
  rw [beq_eq_false_iff_ne.2 hx, beq_eq_false_iff_ne.2 hy]; rfl
section
variable {F : Fld} {w l c tx ty : Int} {d : Nat}
theorem PlOk.cvc (h : PlOk F w l tx ty) (hb : isB F c = true) : Proofs.Ytgglcebaanomhaa.code F (isB F c && (inB w 1 1000 && inB l 1 1000)) = 0 := by
 rw [hb, Bool.true_and]
 exact h.code
theorem PlOk.cvr (h : PlOk F w l tx ty) (hb : isB F c = true) (hd : d < 100) : hasB (cvrS F c w l).1 (cvrS F c w l).2 (d : Int) = cvB F w l (d : Int) c := by
 rw [cvrS_t (h.cvc hb), hasB_set d 100 (Nat.le_refl _), decide_eq_true hd]
 rfl
theorem PlOk.cvr_1 (h : PlOk F w l tx ty) (hb : isB F c = true) (hd : d < 100) (hn : isB F (d : Int) = false) : hasB (cvrS F c w l).1 (cvrS F c w l).2 (d : Int) = false := by
 rw [h.cvr hb hd]
 unfold cvB
 rw [hn]; rfl
theorem PlOk.cvr_3 (h : PlOk F w l tx ty) (hb : isB F c = true) (hd : d < 100) (hn : (F.k d == 3) = true) : hasB (cvrS F c w l).1 (cvrS F c w l).2 (d : Int) = false := by
 rw [h.cvr hb hd]
 unfold cvB
 rw [Proofs.Ytgglcebaanomhaa.cvR_1 (by rw [Int.toNat_natCast]; exact bneF hn), Bool.and_false]
theorem PlOk.cvs (h : PlOk F w l tx ty) (hb : isB F c = true) (hd : d < 100) (hp : isB F (d : Int) = true) (hn : (F.k d == 3) = false) : hasB (cvoS F (d : Int) w l).1 (cvoS F (d : Int) w l).2 c = hasB (cvrS F c w l).1 (cvrS F c w l).2 (d : Int) := by
 have h3 : (F.k (d : Int).toNat == 3) = false := by rw [Int.toNat_natCast]; exact hn
 rw [h.cvr hb hd, cvoS_3 (h.cvc hp) h3]
 have hr := isB_true.1 hb
 obtain ⟨e, rfl⟩ := Int.eq_ofNat_of_zero_le hr.1
 rw [hasB_set e 100 (Nat.le_refl _), decide_eq_true (by omega), Bool.true_and]
 unfold cvB
 exact (cvU_eq hp (bneT h3)).symm
end
end Go.Proofs.Ytgglcebaanomhaa
