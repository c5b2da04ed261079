/-
  Contracts: one bits, the number of a set. No conditions.
-/
import Derived.Test.YtdhidmigngmgjaaTy
import Derived.Test.YtdhidmigngmgjaaSl
import Derived.Test.YtdhidmigngmgjaaMth
import Derived.Test.YtdhidmigngmgjaaFn4
import Derived.Test.YtdhidmigngmgjaaPop
namespace Go.Proofs.Ytdhidmigngmgjaa
open Go.RowKit
set_option linter.unusedSimpArgs false
set_option linter.unusedVariables false
set_option maxHeartbeats 4000000
set_option maxRecDepth 100000
attribute [local irreducible] wpList Code.wp
--# ones_nat
section
variable {P : Program} {ops : Array Oper} {Q : Exit → Act → World → Prop} {rest : List Oper} {o : Oper} {a : Act} {w : World} {x y : Operand} {t ty2 : TypeId}
theorem wshN (A k : Nat) (hk : k < 64) (kk : wpList P ops Q rest (putL a o.dst (.int .u64 ((A / 2 ^ k : Nat) : Int))) w)
    (hw : Region.wanted o (yielded ops a.tmps) = true := by kernel_rfl) (ho : o.op = .binOp .shr t x y ty2 := by exact rfl) (hx : evalL a x = .int .u64 (A : Int) := by kernel_rfl) (hy : evalL a y = .int .u64 ((k : Nat) : Int) := by kernel_rfl) : wpList P ops Q (o :: rest) a w := by
  refine wshr .u64 .u64 (A : Int) (k : Int) ?_ (by omega) (by simp only [IntKind.bits]; omega) hw ho hx hy
  rw [show ((A : Int) / 2 ^ (k : Int).toNat) = ((A / 2 ^ k : Nat) : Int) by simp]
  exact kk
theorem wadN {A B C : Nat} (h : C = A + B) (hC : C < 18446744073709551616) (k : wpList P ops Q rest (putL a o.dst (.int .u64 (C : Int))) w)
    (hw : Region.wanted o (yielded ops a.tmps) = true := by kernel_rfl) (hv : (execOp (evalL a) o).run P w = .ok (.value (.int .u64 (IntKind.u64.wrap ((A : Int) + (B : Int))))) w := by kernel_rfl) : wpList P ops Q (o :: rest) a w := by
  subst h
  refine wu64 ((A : Int) + (B : Int)) ?_ (by omega) hw hv
  rw [show (A : Int) + (B : Int) = ((A + B : Nat) : Int) by simp]
  exact k
theorem wndN {A M C : Nat} (h : C = A &&& M) (hA : A < 18446744073709551616) (hM : M < 18446744073709551616) (k : wpList P ops Q rest (putL a o.dst (.int .u64 (C : Int))) w)
    (hw : Region.wanted o (yielded ops a.tmps) = true := by kernel_rfl) (hv : (execOp (evalL a) o).run P w = .ok (.value (.int .u64 (bits .and .u64 (A : Int) (M : Int)))) w := by kernel_rfl) : wpList P ops Q (o :: rest) a w := by
  subst h
  exact wvv _ (.int .u64 ((A &&& M : Nat) : Int)) (congrArg _ (u64_and_nat A M hA hM)) k hw hv
end

theorem ones_nat (X : Nat) (hX : X < 18446744073709551616) (w : World) :
 Calls Try.prog 38 #[.int .u64 (X : Int)] w fun e w' => e = .returned (.int .i64 ((pop64 X : Nat) : Int)) ∧ Ext w w' := by
 refine calls_of_wp Try.func38 rfl ?_
 refine wp_frame (a' := ⟨#[.int .u64 (X : Int), undef, undef, undef, undef, undef, undef, undef, undef, undef, undef, undef, undef, undef, undef, undef, undef, undef, undef, undef, undef, undef, undef, undef, undef, undef, undef, undef, undef, undef, undef, undef, undef, undef, undef], []⟩) (by kernel_rfl) ?_
 refine wsr ?_
 refine wv (.int .i64 0) ?_
 refine wpList_nil (then_normal ?_)
 refine wsr ?_
 refine wv (.int .u64 (X : Int)) ?_
 refine wshN X 1 (by omega) ?_
 obtain ⟨A1, hA1⟩ : ∃ c, c = X / 2 ^ 1 &&& 6148914691236517205 := ⟨_, rfl⟩
 have bA1 : A1 ≤ 6148914691236517205 := by rw [hA1]; exact Nat.and_le_right
 refine wndN (M := 6148914691236517205) hA1 (Nat.lt_of_le_of_lt (Nat.div_le_self _ _) (by omega)) (by omega) ?_
 refine wv (.int .u64 (X : Int)) ?_
 obtain ⟨A2, hA2⟩ : ∃ c, c = X &&& 6148914691236517205 := ⟨_, rfl⟩
 have bA2 : A2 ≤ 6148914691236517205 := by rw [hA2]; exact Nat.and_le_right
 refine wndN (M := 6148914691236517205) hA2 (by omega) (by omega) ?_
 obtain ⟨A, hA⟩ : ∃ c, c = A1 + A2 := ⟨_, rfl⟩
 have bA : A ≤ 12297829382473034410 := by omega
 refine wadN hA (by omega) ?_
 refine wv (.int .u64 (A : Int)) ?_
 refine wpList_nil (then_normal ?_)
 refine wsr ?_
 refine wv (.int .u64 (A : Int)) ?_
 refine wshN A 2 (by omega) ?_
 obtain ⟨B1, hB1⟩ : ∃ c, c = A / 2 ^ 2 &&& 3689348814741910323 := ⟨_, rfl⟩
 have bB1 : B1 ≤ 3689348814741910323 := by rw [hB1]; exact Nat.and_le_right
 refine wndN (M := 3689348814741910323) hB1 (Nat.lt_of_le_of_lt (Nat.div_le_self _ _) (by omega)) (by omega) ?_
 refine wv (.int .u64 (A : Int)) ?_
 obtain ⟨B2, hB2⟩ : ∃ c, c = A &&& 3689348814741910323 := ⟨_, rfl⟩
 have bB2 : B2 ≤ 3689348814741910323 := by rw [hB2]; exact Nat.and_le_right
 refine wndN (M := 3689348814741910323) hB2 (by omega) (by omega) ?_
 obtain ⟨B, hB⟩ : ∃ c, c = B1 + B2 := ⟨_, rfl⟩
 have bB : B ≤ 7378697629483820646 := by omega
 refine wadN hB (by omega) ?_
 refine wv (.int .u64 (B : Int)) ?_
 refine wpList_nil (then_normal ?_)
 refine wsr ?_
 refine wv (.int .u64 (B : Int)) ?_
 refine wshN B 4 (by omega) ?_
 refine wv (.int .u64 (B : Int)) ?_
 have q4 : B / 2 ^ 4 ≤ B := Nat.div_le_self _ _
 obtain ⟨C1, hC1⟩ : ∃ c, c = B / 2 ^ 4 + B := ⟨_, rfl⟩
 have bC1 : C1 ≤ 14757395258967641292 := by omega
 refine wadN hC1 (by omega) ?_
 obtain ⟨C, hC⟩ : ∃ c, c = C1 &&& 1085102592571150095 := ⟨_, rfl⟩
 have bC : C ≤ 1085102592571150095 := by rw [hC]; exact Nat.and_le_right
 refine wndN (M := 1085102592571150095) hC (by omega) (by omega) ?_
 refine wv (.int .u64 (C : Int)) ?_
 refine wpList_nil (then_normal ?_)
 refine wsr ?_
 refine wv (.int .u64 (C : Int)) ?_
 refine wv (.int .u64 (C : Int)) ?_
 refine wshN C 8 (by omega) ?_
 have q8 : C / 2 ^ 8 ≤ 4238682002231056 := Nat.div_le_of_le_mul (by omega)
 obtain ⟨D, hD⟩ : ∃ c, c = C + C / 2 ^ 8 := ⟨_, rfl⟩
 have bD : D ≤ 1089341274573381151 := by omega
 refine wadN hD (by omega) ?_
 refine wv (.int .u64 (D : Int)) ?_
 refine wpList_nil (then_normal ?_)
 refine wsr ?_
 refine wv (.int .u64 (D : Int)) ?_
 refine wv (.int .u64 (D : Int)) ?_
 refine wshN D 16 (by omega) ?_
 have q16 : D / 2 ^ 16 ≤ 16622028725791 := Nat.div_le_of_le_mul (by omega)
 obtain ⟨E, hE⟩ : ∃ c, c = D + D / 2 ^ 16 := ⟨_, rfl⟩
 have bE : E ≤ 1089357896602106942 := by omega
 refine wadN hE (by omega) ?_
 refine wv (.int .u64 (E : Int)) ?_
 refine wpList_nil (then_normal ?_)
 refine wsr ?_
 refine wv (.int .u64 (E : Int)) ?_
 refine wv (.int .u64 (E : Int)) ?_
 refine wshN E 32 (by omega) ?_
 have q32 : E / 2 ^ 32 ≤ 253635901 := Nat.div_le_of_le_mul (by omega)
 obtain ⟨F, hF⟩ : ∃ c, c = E + E / 2 ^ 32 := ⟨_, rfl⟩
 have bF : F ≤ 1089357896855742843 := by omega
 refine wadN hF (by omega) ?_
 refine wv (.int .u64 (F : Int)) ?_
 refine wpList_nil (then_normal ?_)
 refine wsr ?_
 refine wv (.int .u64 (F : Int)) ?_
 refine wvv (.int .i64 (IntKind.i64.wrap (F : Int))) (.int .i64 (F : Int)) (congrArg _ (IntWalk.i64_in _ (by omega))) ?_
 refine wvv (.int .i64 (bits .and .i64 (F : Int) 127)) (.int .i64 ((F % 128 : Nat) : Int)) (congrArg _ (by rw [i64_and127]; simp)) ?_
 refine wv (.int .i64 ((F % 128 : Nat) : Int)) ?_
 refine wpList_nil (then_normal ?_)
 have e_ : F % 128 = pop64 X := by rw [hF]; exact pop64_eq (A := A) (B := B) (C := C) (D := D) (E := E) hX (by simp only [hA, hA1, hA2, Nat.reducePow]) (by simp only [hB, hB1, hB2, Nat.reducePow]) (by simp only [hC, hC1, Nat.reducePow]) (by simp only [hD, Nat.reducePow]) (by simp only [hE, Nat.reducePow])
 refine wp_ret ?_
 refine ret1 (.int .i64 ((pop64 X : Nat) : Int)) rfl ?_ rfl ?_
 · rw [← e_]; exact resT (by kernel_rfl)
 exact ⟨rfl, Ext.refl w⟩
theorem ones_any (x : Int) (hx : 0 ≤ x ∧ x ≤ 18446744073709551615) (w : World) :
 Calls Try.prog 38 #[.int .u64 x] w fun e w' => e = .returned (.int .i64 (popI x)) ∧ Ext w w' := by
  obtain ⟨X, rfl⟩ := Int.eq_ofNat_of_zero_le hx.1
  have h := ones_nat X (by omega) w
  unfold popI
  rw [Int.toNat_natCast]
  exact h

--# cut_any
theorem cut_any (x y : Int) (hy : 0 ≤ y ∧ y ≤ 18446744073709551615) (w : World) :
 Calls Try.prog 36 #[.agg #[.int .u64 x, .int .u64 y]] w fun e w' => e = .returned (.agg #[.int .u64 x, .int .u64 (y % 68719476736)]) ∧ Ext w w' := by
 refine calls_of_wp Try.func36 rfl ?_
 refine wp_frame (a' := ⟨#[.agg #[.int .u64 x, .int .u64 y], undef, undef, undef, undef, undef, undef, undef, undef], []⟩) (by kernel_rfl) ?_
 refine wsr ?_
 refine wbox #[.int .u64 x, .int .u64 y] ?_
 intro g1 w1 B1 E1 hg_
 have lo_g1 := Nat.le_trans ((Ext.refl w)).size hg_
 have H1 := (Ext.refl w).trans E1
 refine wnew #[.int .u64 0, .int .u64 0] Try.zeroValue33 rfl ?_
 intro g2 w2 B2 E2 hg_
 have q_g1_g2 := Nat.ne_of_lt (Nat.lt_of_lt_of_le B1.lt hg_)
 have lo_g2 := Nat.le_trans (H1).size hg_
 refine wpList_nil (then_normal ?_)
 refine wsr ?_
 refine wixn g1 0 0 .i64 arrt_impl_Cells ?_
 replace B1 := B1.ext E2
 refine wld (v := .int .u64 x) g1 (0 + 0) scal_uint64 (B1.get (rfl)) ?_
 refine wixn g1 0 1 .i64 arrt_impl_Cells ?_
 refine wld (v := .int .u64 y) g1 (0 + 1) scal_uint64 (B1.get (rfl)) ?_
 refine wv (.int .u64 (bits BinOp.and IntKind.u64 y 68719476735)) ?_
 refine wv (.agg #[.int .u64 x, .int .u64 (bits BinOp.and IntKind.u64 y 68719476735)]) ?_
 refine wput #[.int .u64 x, .int .u64 (bits BinOp.and IntKind.u64 y 68719476735)] row_impl_Cells B2 (by rfl) (by rfl) (by kernel_rfl) ?_
 intro w3 B2_ X1
 clear B2; have B2 := B2_; clear B2_
 refine wpList_nil (then_normal ?_)
 refine wp_ret ?_
 have H2 := X1.ext w lo_g2 (H1.trans E2)
 refine ret1 (.agg #[.int .u64 x, .int .u64 (y % 68719476736)]) rfl ?_ rfl ?_
 · refine ⟨g2, 33, #[.int .u64 x, .int .u64 (bits BinOp.and IntKind.u64 y 68719476735)], _, by kernel_rfl, B2, row_impl_Cells, ?_, ?_⟩
   · rfl
   · show (.agg #[.int .u64 x, .int .u64 (y % 68719476736)] : Value) = (.agg #[.int .u64 x, .int .u64 (bits BinOp.and IntKind.u64 y 68719476735)])
     refine congrArg Value.agg ?_
     exact cut_eq hy
 exact ⟨rfl, H2⟩


--# iCountCells_any
theorem iCountCells_any (x y : Int) (hx : 0 ≤ x ∧ x ≤ 18446744073709551615) (hy : 0 ≤ y ∧ y ≤ 18446744073709551615) (w : World) :
 Calls Try.prog 13 #[.agg #[.int .u64 x, .int .u64 y]] w fun e w' => e = .returned (.int .i64 ((listL x y).length : Int)) ∧ Ext w w' := by
 have ce_ := count_eq x y hx hy
 refine calls_of_wp Try.func13 rfl ?_
 refine wp_frame (a' := ⟨#[.agg #[.int .u64 x, .int .u64 y], undef, undef, undef, undef, undef, undef, undef, undef, undef, undef, undef], []⟩) (by kernel_rfl) ?_
 refine wsr ?_
 refine wbox #[.int .u64 x, .int .u64 y] ?_
 intro g1 w1 B1 E1 hg_
 have lo_g1 := Nat.le_trans ((Ext.refl w)).size hg_
 refine wv (.int .i64 0) ?_
 refine wpList_nil (then_normal ?_)
 refine wsr ?_
 refine wrow row_impl_Cells B1 (by rfl) ?_
 refine wcl (cut_any x y (by omega) _) ?_
 intro w2 E2
 replace B1 := B1.ext E2
 refine wput #[.int .u64 x, .int .u64 (y % 68719476736)] row_impl_Cells B1 (by rfl) (by rfl) (by kernel_rfl) ?_
 intro w3 B1_ X1
 clear B1; have B1 := B1_; clear B1_
 refine wpList_nil (then_normal ?_)
 refine wp_seq ?_
 refine wp_frame (a' := ⟨#[.agg #[.int .u64 x, .int .u64 y], .pointer (some ⟨g1, 0, none⟩), .int .i64 0, .agg #[.int .u64 x, .int .u64 y], .agg #[.int .u64 x, .int .u64 (y % 68719476736)], undef, undef, undef, undef, undef, undef, undef], []⟩) (by kernel_rfl) ?_
 have pb1 := popI_b x
 have pb2 := popI_b (y % 68719476736)
 refine region_go 8 [5, 6, 7, 8, 9, 10, 11, 2] [[], [0], [1], [], [3], [4], [2, 5], [6]]
  (fun i_ => ([.val (.pointer (some ⟨g1, 0 + 0, none⟩)), .val (.int .u64 x), .val (.int .i64 (popI x)), .val (.pointer (some ⟨g1, 0 + 1, none⟩)), .val (.int .u64 (y % 68719476736)), .val (.int .i64 (popI (y % 68719476736))), .val (.int .i64 ((popI x) + (popI (y % 68719476736)))), .val (.int .i64 ((popI x) + (popI (y % 68719476736))))] : List Fct).getD i_ .any)
  (by kernel_rfl) (by kernel_rfl) (by decide) (by simp) rfl (all_succ (all_succ (all_succ (all_succ (all_succ (all_succ (all_succ (all_succ all_zero ?_) ?_) ?_) ?_) ?_) ?_) ?_) ?_) ?_
 · refine step0 rfl rfl rfl (fun wr hw => ?_)
   exact OpRun.ixan (i := 0) (k := .i64) (g := g1) (off := 0) arrt_impl_Cells rfl (by kernel_rfl) (by kernel_rfl) (by omega) ⟨Ext.refl _, rfl⟩
 · refine step1 rfl rfl rfl rfl (fun u0 wr hw h0 => ?_)
   cases h0
   exact OpRun.cell (g := g1) (off := 0 + 0) (v := .int .u64 x) scal_uint64 rfl (by kernel_rfl) ((B1.ext hw).get (rfl)) ⟨Ext.refl _, rfl⟩
 · refine step1 rfl rfl rfl rfl (fun u0 wr hw h0 => ?_)
   cases h0
   exact OpRun.call 38 #[.int .u64 x] (by kernel_rfl) ((ones_any x (by omega) _).mono fun e w1 ⟨he, hb⟩ => ⟨_, he, hb, rfl⟩)
 · refine step0 rfl rfl rfl (fun wr hw => ?_)
   exact OpRun.ixan (i := 1) (k := .i64) (g := g1) (off := 0) arrt_impl_Cells rfl (by kernel_rfl) (by kernel_rfl) (by omega) ⟨Ext.refl _, rfl⟩
 · refine step1 rfl rfl rfl rfl (fun u0 wr hw h0 => ?_)
   cases h0
   exact OpRun.cell (g := g1) (off := 0 + 1) (v := .int .u64 (y % 68719476736)) scal_uint64 rfl (by kernel_rfl) ((B1.ext hw).get (rfl)) ⟨Ext.refl _, rfl⟩
 · refine step1 rfl rfl rfl rfl (fun u0 wr hw h0 => ?_)
   cases h0
   exact OpRun.call 38 #[.int .u64 (y % 68719476736)] (by kernel_rfl) ((ones_any (y % 68719476736) (by omega) _).mono fun e w1 ⟨he, hb⟩ => ⟨_, he, hb, rfl⟩)
 · refine step2 rfl rfl rfl rfl rfl (fun u0 u1 wr hw h0 h1 => ?_)
   cases h0
   cases h1
   exact OpRun.val (.int .i64 (IntKind.i64.wrap ((popI x) + (popI (y % 68719476736))))) (.int .i64 ((popI x) + (popI (y % 68719476736)))) (by kernel_rfl) (by exact congrArg _ (IntWalk.i64_in _ (by omega))) ⟨Ext.refl _, rfl⟩
 · refine step1 rfl rfl rfl rfl (fun u0 wr hw h0 => ?_)
   cases h0
   exact OpRun.val (.int .i64 ((popI x) + (popI (y % 68719476736)))) (.int .i64 ((popI x) + (popI (y % 68719476736)))) (by kernel_rfl) rfl ⟨Ext.refl _, rfl⟩
 refine end8 (fun u0 u1 u2 u3 u4 u5 u6 u7 w4 E3 f0 f1 f2 f3 f4 f5 f6 f7 => ?_)
 cases f0
 cases f1
 cases f2
 cases f3
 cases f4
 cases f5
 cases f6
 cases f7
 refine wpList_nil (then_normal ?_)
 refine wp_ret ?_
 have H1 := (X1.ext w lo_g1 (((Ext.refl w).trans E1).trans E2)).trans E3
 refine ret1 (.int .i64 ((listL x y).length : Int)) rfl ?_ rfl ?_
 · refine (resT (v := .int .i64 ((popI x) + (popI (y % 68719476736)))) (by kernel_rfl)).trans ?_
   refine congrArg (Value.int _) ?_
   omega
 exact ⟨rfl, H1⟩


--# sCountCells_any
theorem sCountCells_any (x y : Int) (w : World) :
 Calls Try.prog 16 #[.agg #[.int .u64 x, .int .u64 y]] w fun e w' => e = .returned (.int .i64 ((listL x y).length : Int)) ∧ Ext w w' := by
 refine calls_of_wp Try.func16 rfl ?_
 refine wp_frame (a' := ⟨#[.agg #[.int .u64 x, .int .u64 y], undef, undef, undef, undef], []⟩) (by kernel_rfl) ?_
 refine wsr ?_
 refine wbox #[.int .u64 x, .int .u64 y] ?_
 intro g1 w1 B1 E1 _
 refine wv (.int .i64 0) ?_
 refine wpList_nil (then_normal ?_)
 refine wsr ?_
 have H1 := (Ext.refl w).trans E1
 refine wcli (l01List_any x y g1 _ _ B1) ?_
 intro g2 cap1 cs1 w2 B2 S1 E2 hg_
 have lo_g2 := Nat.le_trans (H1).size hg_
 have ll1 := listL_length x y
 refine wv (.int .i64 ((listL x y).length : Int)) ?_
 refine wv (.int .i64 ((listL x y).length : Int)) ?_
 refine wpList_nil (then_normal ?_)
 refine wp_ret ?_
 have H2 := H1.trans E2
 refine ret1 (.int .i64 ((listL x y).length : Int)) rfl ?_ rfl ?_
 · exact resT (by kernel_rfl)
 exact ⟨rfl, H2⟩

end Go.Proofs.Ytdhidmigngmgjaa
