/-
  Two words compared; a number that is drawn; a drawn region of 39 operations. No conditions.
-/
import Derived.Test.YtdhidmigngmgjaaZs
import Derived.Test.YtdhidmigngmgjaaEq
import Derived.Test.YtdhidmigngmgjaaReg
namespace Go.Proofs.Ytdhidmigngmgjaa
open Go.RowKit
set_option linter.unusedSimpArgs false
set_option linter.unusedVariables false

--# duo
/-- Two words. -/
structure DuoT (P : Program) (t e : TypeId) : Prop where
  ht : P.underlying t = some (.array 2 e)
  he : P.underlying e = some (.int .u64)
  hc : P.cellsOf e = 1
  hi : (P.info? e).isSome = true
  eg : P.eqGuardType P.depth t = false
def eq2 (x y x' y' : Int) : Bool := (x == x') && (y == y')
def duoF (x y : Int) (i : Nat) : Int := match i with | 0 => x | _ => y
theorem duo_arr (x y : Int) : (#[.int .u64 x, .int .u64 y] : Array Value) = arr 2 .u64 (duoF x y) := by
  refine arr_ext rfl (fun i hi => ?_)
  rcases (by omega : i = 0 ∨ i = 1) with rfl | rfl <;> rfl
theorem equalIn_duo {P : Program} {w : World} {t e : TypeId} (hT : DuoT P t e) (d : Nat) (x y x' y' : Int) : (Op.equalIn (d + 2) t (.agg #[.int .u64 x, .int .u64 y]) (.agg #[.int .u64 x', .int .u64 y'])).run P w = .ok (eq2 x y x' y') w := by
  rw [duo_arr, duo_arr, equalIn_arr hT.ht hT.he hT.hc hT.hi d _ _ w]
  congr 1
  unfold eqN eq2
  simp [List.range_succ, duoF]
theorem eq2_s (x y : Int) : eq2 x y x y = true := by unfold eq2; simp

--# join
theorem seq_join {P : Program} {c rest : Code} {Q : Exit → Act → World → Prop} {a : Act} {w : World} (I : Act → World → Prop) (h1 : (∀ a' w', I a' w' → rest.wp P Q a' w') → (c.seq rest).wp P Q a w) (h2 : ∀ a' w', I a' w' → rest.wp P Q a' w') : (c.seq rest).wp P Q a w := h1 h2
/-- Slots that nobody reads any more are forgotten. -/
theorem wp_forget {P : Program} {c : Code} {Q : Exit → Act → World → Prop} {a : Act} {w : World} {f : (Nat → Value) → Act} (h : a = f (fun i => evalL a (.tmp i))) (k : ∀ J, c.wp P Q (f J) w) : c.wp P Q a w := by
  rw [h]
  exact k _

--# num
section
variable {P : Program} {ops : Array Oper} {Q : Exit → Act → World → Prop} {rest : List Oper} {op : Oper} {a : Act} {w : World} {f : FuncId} {args : Array Value}
def NumR (w : World) (n : Int) (e : Ending) (w' : World) : Prop := ∃ r : Int, e = .returned (.int .i64 r) ∧ (0 ≤ r ∧ r < n) ∧ Ext w w'
theorem wnum {n : Int} (hc : Calls P f args w (NumR w n)) (k : ∀ (r : Int) w', (0 ≤ r ∧ r < n) → Ext w w' → wpList P ops Q rest (putL a op.dst (.int .i64 r)) w')
    (hw : Region.wanted op (yielded ops a.tmps) = true := by kernel_rfl) (he : (execOp (evalL a) op).run P w = .ok (.enter f args) w := by kernel_rfl) : wpList P ops Q (op :: rest) a w :=
  wpl_callx (S := fun v w' => ∃ r : Int, v = .int .i64 r ∧ (0 ≤ r ∧ r < n) ∧ Ext w w') f args rfl hw he hc
    (fun e w' ⟨u, h1, h2⟩ => ⟨_, h1, u, rfl, h2⟩) (fun v w' ⟨u, h1, h2, h3⟩ => by rw [h1]; exact k u w' h2 h3)
end

--# end39
theorem end39 {P : Program} {ops : Array Oper} {Q : Exit → Act → World → Prop} {a0 : Act} {w0 : World} {φ : Nat → Fct} {d0 d1 d2 d3 d4 d5 d6 d7 d8 d9 d10 d11 d12 d13 d14 d15 d16 d17 d18 d19 d20 d21 d22 d23 d24 d25 d26 d27 d28 d29 d30 d31 d32 d33 d34 d35 d36 d37 d38 : Tmp}
    (h : ∀ (u0 u1 u2 u3 u4 u5 u6 u7 u8 u9 u10 u11 u12 u13 u14 u15 u16 u17 u18 u19 u20 u21 u22 u23 u24 u25 u26 u27 u28 u29 u30 u31 u32 u33 u34 u35 u36 u37 u38 : Value) (w : World), Ext w0 w → (φ 0).R u0 w → (φ 1).R u1 w → (φ 2).R u2 w → (φ 3).R u3 w → (φ 4).R u4 w → (φ 5).R u5 w → (φ 6).R u6 w → (φ 7).R u7 w → (φ 8).R u8 w → (φ 9).R u9 w → (φ 10).R u10 w → (φ 11).R u11 w → (φ 12).R u12 w → (φ 13).R u13 w → (φ 14).R u14 w → (φ 15).R u15 w → (φ 16).R u16 w → (φ 17).R u17 w → (φ 18).R u18 w → (φ 19).R u19 w → (φ 20).R u20 w → (φ 21).R u21 w → (φ 22).R u22 w → (φ 23).R u23 w → (φ 24).R u24 w → (φ 25).R u25 w → (φ 26).R u26 w → (φ 27).R u27 w → (φ 28).R u28 w → (φ 29).R u29 w → (φ 30).R u30 w → (φ 31).R u31 w → (φ 32).R u32 w → (φ 33).R u33 w → (φ 34).R u34 w → (φ 35).R u35 w → (φ 36).R u36 w → (φ 37).R u37 w → (φ 38).R u38 w → wpList P ops Q (ops.toList.drop 39) (((((((((((((((((((((((((((((((((((((((a0.put (some d0) u0).put (some d1) u1).put (some d2) u2).put (some d3) u3).put (some d4) u4).put (some d5) u5).put (some d6) u6).put (some d7) u7).put (some d8) u8).put (some d9) u9).put (some d10) u10).put (some d11) u11).put (some d12) u12).put (some d13) u13).put (some d14) u14).put (some d15) u15).put (some d16) u16).put (some d17) u17).put (some d18) u18).put (some d19) u19).put (some d20) u20).put (some d21) u21).put (some d22) u22).put (some d23) u23).put (some d24) u24).put (some d25) u25).put (some d26) u26).put (some d27) u27).put (some d28) u28).put (some d29) u29).put (some d30) u30).put (some d31) u31).put (some d32) u32).put (some d33) u33).put (some d34) u34).put (some d35) u35).put (some d36) u36).put (some d37) u37).put (some d38) u38) w) :
    ∀ (vals : Nat → Value) (w : World), Ext w0 w → (∀ i, i < 39 → (φ i).R (vals i) w) → wpList P ops Q (ops.toList.drop 39) (putAll a0 ((List.range 39).map fun j => (([d0, d1, d2, d3, d4, d5, d6, d7, d8, d9, d10, d11, d12, d13, d14, d15, d16, d17, d18, d19, d20, d21, d22, d23, d24, d25, d26, d27, d28, d29, d30, d31, d32, d33, d34, d35, d36, d37, d38] : List Tmp).getD j 0, vals j))) w := fun vals w he hf => by
  have := h (vals 0) (vals 1) (vals 2) (vals 3) (vals 4) (vals 5) (vals 6) (vals 7) (vals 8) (vals 9) (vals 10) (vals 11) (vals 12) (vals 13) (vals 14) (vals 15) (vals 16) (vals 17) (vals 18) (vals 19) (vals 20) (vals 21) (vals 22) (vals 23) (vals 24) (vals 25) (vals 26) (vals 27) (vals 28) (vals 29) (vals 30) (vals 31) (vals 32) (vals 33) (vals 34) (vals 35) (vals 36) (vals 37) (vals 38) w he (hf 0 (by omega)) (hf 1 (by omega)) (hf 2 (by omega)) (hf 3 (by omega)) (hf 4 (by omega)) (hf 5 (by omega)) (hf 6 (by omega)) (hf 7 (by omega)) (hf 8 (by omega)) (hf 9 (by omega)) (hf 10 (by omega)) (hf 11 (by omega)) (hf 12 (by omega)) (hf 13 (by omega)) (hf 14 (by omega)) (hf 15 (by omega)) (hf 16 (by omega)) (hf 17 (by omega)) (hf 18 (by omega)) (hf 19 (by omega)) (hf 20 (by omega)) (hf 21 (by omega)) (hf 22 (by omega)) (hf 23 (by omega)) (hf 24 (by omega)) (hf 25 (by omega)) (hf 26 (by omega)) (hf 27 (by omega)) (hf 28 (by omega)) (hf 29 (by omega)) (hf 30 (by omega)) (hf 31 (by omega)) (hf 32 (by omega)) (hf 33 (by omega)) (hf 34 (by omega)) (hf 35 (by omega)) (hf 36 (by omega)) (hf 37 (by omega)) (hf 38 (by omega))
  simpa [putAll, List.getD_eq_getElem?_getD, List.range_succ] using this

end Go.Proofs.Ytdhidmigngmgjaa
