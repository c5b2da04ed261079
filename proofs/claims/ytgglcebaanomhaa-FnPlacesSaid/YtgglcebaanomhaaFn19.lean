/-
 Contracts: the greedy places. No conditions.
-/
import Derived.Test.YtgglcebaanomhaaTy
import Derived.Test.YtgglcebaanomhaaSl
import Derived.Test.YtgglcebaanomhaaMth
import Derived.Test.YtgglcebaanomhaaFn16
import Derived.Test.YtgglcebaanomhaaDr
import Derived.Test.YtgglcebaanomhaaGr
import Derived.Test.YtgglcebaanomhaaMp
namespace Go.Proofs.Ytgglcebaanomhaa
open Go.RowKit
set_option linter.unusedSimpArgs false
set_option linter.unusedVariables false
set_option maxHeartbeats 4000000
set_option maxRecDepth 100000
attribute [local irreducible] wpList Code.wp
section
variable {P : Program} {ops : Array Oper} {Q : Exit → Act → World → Prop} {rest : List Oper} {o : Oper} {a : Act} {w : World} {x y : Operand} {t ty2 : TypeId}
theorem wshN (A k : Nat) (hk : k < 64) (kk : wpList P ops Q rest (putL a o.dst (.int .u64 ((A / 2 ^ k : Nat) : Int))) w)
 (hw : Region.wanted o (yielded ops a.tmps) = true := by kernel_rfl) (ho : o.op = .binOp .shr t x y ty2 := by exact rfl) (hx : evalL a x = .int .u64 (A : Int) := by kernel_rfl) (hy : evalL a y = .int .u64 ((k : Nat) : Int) := by kernel_rfl) : wpList P ops Q (o :: rest) a w := by
 refine wshr .u64 .u64 (A : Int) (k : Int) ?_ (by omega) (by simp only [IntKind.bits]; omega) hw ho hx hy
 rw [show ((A : Int) / 2 ^ (k : Int).toNat) = ((A / 2 ^ k : Nat) : Int) by simp]
 exact kk
theorem wadN {A B C : Nat} (h : C = A + B) (hC : C < 18446744073709551616) (k : wpList P ops Q rest (putL a o.dst (.int .u64 (C : Int))) w)
 (hw : Region.wanted o (yielded ops a.tmps) = true := by kernel_rfl) (hv : (execOp (evalL a) o).run P w = .ok (.value (.int .u64 (IntKind.u64.wrap ((A : Int) + (B : Int))))) w := by kernel_rfl) : wpList P ops Q (o :: rest) a w := by
 subst h
 refine wu64 ((A : Int) + (B : Int)) ?_ (by omega) hw hv
 rw [show (A : Int) + (B : Int) = ((A + B : Nat) : Int) by simp]
 exact k
theorem wndN {A M C : Nat} (h : C = A &&& M) (hA : A < 18446744073709551616) (hM : M < 18446744073709551616) (k : wpList P ops Q rest (putL a o.dst (.int .u64 (C : Int))) w)
 (hw : Region.wanted o (yielded ops a.tmps) = true := by kernel_rfl) (hv : (execOp (evalL a) o).run P w = .ok (.value (.int .u64 (bits .and .u64 (A : Int) (M : Int)))) w := by kernel_rfl) : wpList P ops Q (o :: rest) a w := by
 subst h
 exact wvv _ (.int .u64 ((A &&& M : Nat) : Int)) (congrArg _ (u64_and_nat A M hA hM)) k hw hv
end
theorem ones_nat (X : Nat) (hX : X < 18446744073709551616) (w : World) :
 Calls Try.prog 77 #[.int .u64 (X : Int)] w fun e w' => e = .returned (.int .i64 ((pop64 X : Nat) : Int)) ∧ Ext w w' := by
 refine calls_of_wp Try.func77 rfl ?_
 refine wp_frame (a' := ⟨#[.int .u64 (X : Int), undef, undef, undef, undef, undef, undef, undef, undef, undef, undef, undef, undef, undef, undef, undef, undef, undef, undef, undef, undef, undef, undef, undef, undef, undef, undef, undef, undef, undef, undef, undef, undef, undef, undef], []⟩) (by kernel_rfl) ?_
 refine wsr ?_
 refine wv (.int .i64 0) ?_
 refine wpList_nil (then_normal ?_)
 refine wsr ?_
 refine wv (.int .u64 (X : Int)) ?_
 refine wshN X 1 (by omega) ?_
 obtain ⟨A1, hA1⟩ : ∃ c, c = X / 2 ^ 1 &&& 6148914691236517205 := ⟨_, rfl⟩
 have bA1 : A1 ≤ 6148914691236517205 := by rw [hA1]; exact Nat.and_le_right
 refine wndN (M := 6148914691236517205) hA1 (Nat.lt_of_le_of_lt (Nat.div_le_self _ _) (by omega)) (by omega) ?_
 refine wv (.int .u64 (X : Int)) ?_
 obtain ⟨A2, hA2⟩ : ∃ c, c = X &&& 6148914691236517205 := ⟨_, rfl⟩
 have bA2 : A2 ≤ 6148914691236517205 := by rw [hA2]; exact Nat.and_le_right
 refine wndN (M := 6148914691236517205) hA2 (by omega) (by omega) ?_
 obtain ⟨A, hA⟩ : ∃ c, c = A1 + A2 := ⟨_, rfl⟩
 have bA : A ≤ 12297829382473034410 := by omega
 refine wadN hA (by omega) ?_
 refine wv (.int .u64 (A : Int)) ?_
 refine wpList_nil (then_normal ?_)
 refine wsr ?_
 refine wv (.int .u64 (A : Int)) ?_
 refine wshN A 2 (by omega) ?_
 obtain ⟨B1, hB1⟩ : ∃ c, c = A / 2 ^ 2 &&& 3689348814741910323 := ⟨_, rfl⟩
 have bB1 : B1 ≤ 3689348814741910323 := by rw [hB1]; exact Nat.and_le_right
 refine wndN (M := 3689348814741910323) hB1 (Nat.lt_of_le_of_lt (Nat.div_le_self _ _) (by omega)) (by omega) ?_
 refine wv (.int .u64 (A : Int)) ?_
 obtain ⟨B2, hB2⟩ : ∃ c, c = A &&& 3689348814741910323 := ⟨_, rfl⟩
 have bB2 : B2 ≤ 3689348814741910323 := by rw [hB2]; exact Nat.and_le_right
 refine wndN (M := 3689348814741910323) hB2 (by omega) (by omega) ?_
 obtain ⟨B, hB⟩ : ∃ c, c = B1 + B2 := ⟨_, rfl⟩
 have bB : B ≤ 7378697629483820646 := by omega
 refine wadN hB (by omega) ?_
 refine wv (.int .u64 (B : Int)) ?_
 refine wpList_nil (then_normal ?_)
 refine wsr ?_
 refine wv (.int .u64 (B : Int)) ?_
 refine wshN B 4 (by omega) ?_
 refine wv (.int .u64 (B : Int)) ?_
 have q4 : B / 2 ^ 4 ≤ B := Nat.div_le_self _ _
 obtain ⟨C1, hC1⟩ : ∃ c, c = B / 2 ^ 4 + B := ⟨_, rfl⟩
 have bC1 : C1 ≤ 14757395258967641292 := by omega
 refine wadN hC1 (by omega) ?_
 obtain ⟨C, hC⟩ : ∃ c, c = C1 &&& 1085102592571150095 := ⟨_, rfl⟩
 have bC : C ≤ 1085102592571150095 := by rw [hC]; exact Nat.and_le_right
 refine wndN (M := 1085102592571150095) hC (by omega) (by omega) ?_
 refine wv (.int .u64 (C : Int)) ?_
 refine wpList_nil (then_normal ?_)
 refine wsr ?_
 refine wv (.int .u64 (C : Int)) ?_
 refine wv (.int .u64 (C : Int)) ?_
 refine wshN C 8 (by omega) ?_
 have q8 : C / 2 ^ 8 ≤ 4238682002231056 := Nat.div_le_of_le_mul (by omega)
 obtain ⟨D, hD⟩ : ∃ c, c = C + C / 2 ^ 8 := ⟨_, rfl⟩
 have bD : D ≤ 1089341274573381151 := by omega
 refine wadN hD (by omega) ?_
 refine wv (.int .u64 (D : Int)) ?_
 refine wpList_nil (then_normal ?_)
 refine wsr ?_
 refine wv (.int .u64 (D : Int)) ?_
 refine wv (.int .u64 (D : Int)) ?_
 refine wshN D 16 (by omega) ?_
 have q16 : D / 2 ^ 16 ≤ 16622028725791 := Nat.div_le_of_le_mul (by omega)
 obtain ⟨E, hE⟩ : ∃ c, c = D + D / 2 ^ 16 := ⟨_, rfl⟩
 have bE : E ≤ 1089357896602106942 := by omega
 refine wadN hE (by omega) ?_
 refine wv (.int .u64 (E : Int)) ?_
 refine wpList_nil (then_normal ?_)
 refine wsr ?_
 refine wv (.int .u64 (E : Int)) ?_
 refine wv (.int .u64 (E : Int)) ?_
 refine wshN E 32 (by omega) ?_
 have q32 : E / 2 ^ 32 ≤ 253635901 := Nat.div_le_of_le_mul (by omega)
 obtain ⟨F, hF⟩ : ∃ c, c = E + E / 2 ^ 32 := ⟨_, rfl⟩
 have bF : F ≤ 1089357896855742843 := by omega
 refine wadN hF (by omega) ?_
 refine wv (.int .u64 (F : Int)) ?_
 refine wpList_nil (then_normal ?_)
 refine wsr ?_
 refine wv (.int .u64 (F : Int)) ?_
 refine wvv (.int .i64 (IntKind.i64.wrap (F : Int))) (.int .i64 (F : Int)) (congrArg _ (IntWalk.i64_in _ (by omega))) ?_
 refine wvv (.int .i64 (bits .and .i64 (F : Int) 127)) (.int .i64 ((F % 128 : Nat) : Int)) (congrArg _ (by rw [i64_and127]; simp)) ?_
 refine wv (.int .i64 ((F % 128 : Nat) : Int)) ?_
 refine wpList_nil (then_normal ?_)
 have e_ : F % 128 = pop64 X := by rw [hF]; exact pop64_eq (A := A) (B := B) (C := C) (D := D) (E := E) hX (by simp only [hA, hA1, hA2, Nat.reducePow]) (by simp only [hB, hB1, hB2, Nat.reducePow]) (by simp only [hC, hC1, Nat.reducePow]) (by simp only [hD, Nat.reducePow]) (by simp only [hE, Nat.reducePow])
 refine wp_ret ?_
 refine ret1 (.int .i64 ((pop64 X : Nat) : Int)) rfl ?_ rfl ?_
 ·rw [← e_]; exact resT (by kernel_rfl)
 exact ⟨rfl, Ext.refl w⟩
theorem ones_any (x : Int) (hx : 0 ≤ x ∧ x ≤ 18446744073709551615) (w : World) :
 Calls Try.prog 77 #[.int .u64 x] w fun e w' => e = .returned (.int .i64 (popI x)) ∧ Ext w w' := by
  obtain ⟨X, rfl⟩ := Int.eq_ofNat_of_zero_le hx.1
  have h := ones_nat X (by omega) w
  unfold popI
  rw [Int.toNat_natCast]
  exact h
theorem iCountCells_any (x y : Int) (hx : 0 ≤ x ∧ x ≤ 18446744073709551615) (hy : 0 ≤ y ∧ y ≤ 18446744073709551615) (w : World) :
 Calls Try.prog 35 #[.agg #[.int .u64 x, .int .u64 y]] w fun e w' => e = .returned (.int .i64 ((listL x y).length : Int)) ∧ Ext w w' := by
 have ce_ := count_eq x y hx hy
 refine calls_of_wp Try.func35 rfl ?_
 refine wp_frame (a' := ⟨#[.agg #[.int .u64 x, .int .u64 y], undef, undef, undef, undef, undef, undef, undef, undef, undef, undef, undef], []⟩) (by kernel_rfl) ?_
 refine wsr ?_
 refine wbox #[.int .u64 x, .int .u64 y] ?_
 intro g1 w1 B1 E1 hg_
 have lo_g1 := Nat.le_trans ((Ext.refl w)).size hg_
 refine wv (.int .i64 0) ?_
 refine wpList_nil (then_normal ?_)
 refine wsr ?_
 refine wrow row_impl_Cells B1 (by rfl) ?_
 refine wcl (cut_any x y (by omega) _) ?_
 intro w2 E2
 replace B1 := B1.ext E2
 refine wput #[.int .u64 x, .int .u64 (y % 68719476736)] row_impl_Cells B1 (by rfl) (by rfl) (by kernel_rfl) ?_
 intro w3 B1_ X1
 clear B1; have B1 := B1_; clear B1_
 refine wpList_nil (then_normal ?_)
 refine wp_seq ?_
 refine wp_frame (a' := ⟨#[.agg #[.int .u64 x, .int .u64 y], .pointer (some ⟨g1, 0, none⟩), .int .i64 0, .agg #[.int .u64 x, .int .u64 y], .agg #[.int .u64 x, .int .u64 (y % 68719476736)], undef, undef, undef, undef, undef, undef, undef], []⟩) (by kernel_rfl) ?_
 have pb1 := popI_b x
 have pb2 := popI_b (y % 68719476736)
 refine region_go 8 [5, 6, 7, 8, 9, 10, 11, 2] [[], [0], [1], [], [3], [4], [2, 5], [6]]
  (fun i_ => ([.val (.pointer (some ⟨g1, 0 + 0, none⟩)), .val (.int .u64 x), .val (.int .i64 (popI x)), .val (.pointer (some ⟨g1, 0 + 1, none⟩)), .val (.int .u64 (y % 68719476736)), .val (.int .i64 (popI (y % 68719476736))), .val (.int .i64 ((popI x) + (popI (y % 68719476736)))), .val (.int .i64 ((popI x) + (popI (y % 68719476736))))] : List Fct).getD i_ .any)
  (by kernel_rfl) (by kernel_rfl) (by decide) (by simp) rfl (all_succ (all_succ (all_succ (all_succ (all_succ (all_succ (all_succ (all_succ all_zero ?_) ?_) ?_) ?_) ?_) ?_) ?_) ?_) ?_
 ·refine step0 rfl rfl rfl (fun wr hw => ?_)
  exact OpRun.ixan (i := 0) (k := .i64) (g := g1) (off := 0) arrt_impl_Cells rfl (by kernel_rfl) (by kernel_rfl) (by omega) ⟨Ext.refl _, rfl⟩
 ·refine step1 rfl rfl rfl rfl (fun u0 wr hw h0 => ?_)
  cases h0
  exact OpRun.cell (g := g1) (off := 0 + 0) (v := .int .u64 x) scal_uint64 rfl (by kernel_rfl) ((B1.ext hw).get (rfl)) ⟨Ext.refl _, rfl⟩
 ·refine step1 rfl rfl rfl rfl (fun u0 wr hw h0 => ?_)
  cases h0
  exact OpRun.call 77 #[.int .u64 x] (by kernel_rfl) ((ones_any x (by omega) _).mono fun e w1 ⟨he, hb⟩ => ⟨_, he, hb, rfl⟩)
 ·refine step0 rfl rfl rfl (fun wr hw => ?_)
  exact OpRun.ixan (i := 1) (k := .i64) (g := g1) (off := 0) arrt_impl_Cells rfl (by kernel_rfl) (by kernel_rfl) (by omega) ⟨Ext.refl _, rfl⟩
 ·refine step1 rfl rfl rfl rfl (fun u0 wr hw h0 => ?_)
  cases h0
  exact OpRun.cell (g := g1) (off := 0 + 1) (v := .int .u64 (y % 68719476736)) scal_uint64 rfl (by kernel_rfl) ((B1.ext hw).get (rfl)) ⟨Ext.refl _, rfl⟩
 ·refine step1 rfl rfl rfl rfl (fun u0 wr hw h0 => ?_)
  cases h0
  exact OpRun.call 77 #[.int .u64 (y % 68719476736)] (by kernel_rfl) ((ones_any (y % 68719476736) (by omega) _).mono fun e w1 ⟨he, hb⟩ => ⟨_, he, hb, rfl⟩)
 ·refine step2 rfl rfl rfl rfl rfl (fun u0 u1 wr hw h0 h1 => ?_)
  cases h0
  cases h1
  exact OpRun.val (.int .i64 (IntKind.i64.wrap ((popI x) + (popI (y % 68719476736))))) (.int .i64 ((popI x) + (popI (y % 68719476736)))) (by kernel_rfl) (by exact congrArg _ (IntWalk.i64_in _ (by omega))) ⟨Ext.refl _, rfl⟩
 ·refine step1 rfl rfl rfl rfl (fun u0 wr hw h0 => ?_)
  cases h0
  exact OpRun.val (.int .i64 ((popI x) + (popI (y % 68719476736)))) (.int .i64 ((popI x) + (popI (y % 68719476736)))) (by kernel_rfl) rfl ⟨Ext.refl _, rfl⟩
 refine end8 (fun u0 u1 u2 u3 u4 u5 u6 u7 w4 E3 f0 f1 f2 f3 f4 f5 f6 f7 => ?_)
 cases f0
 cases f1
 cases f2
 cases f3
 cases f4
 cases f5
 cases f6
 cases f7
 refine wpList_nil (then_normal ?_)
 refine wp_ret ?_
 have H1 := (X1.ext w lo_g1 (((Ext.refl w).trans E1).trans E2)).trans E3
 refine ret1 (.int .i64 ((listL x y).length : Int)) rfl ?_ rfl ?_
 ·refine (resT (v := .int .i64 ((popI x) + (popI (y % 68719476736)))) (by kernel_rfl)).trans ?_
  refine congrArg (Value.int _) ?_
  omega
 exact ⟨rfl, H1⟩
theorem sCountCells_any (x y : Int) (w : World) :
 Calls Try.prog 41 #[.agg #[.int .u64 x, .int .u64 y]] w fun e w' => e = .returned (.int .i64 ((listL x y).length : Int)) ∧ Ext w w' := by
 refine calls_of_wp Try.func41 rfl ?_
 refine wp_frame (a' := ⟨#[.agg #[.int .u64 x, .int .u64 y], undef, undef, undef, undef], []⟩) (by kernel_rfl) ?_
 refine wsr ?_
 refine wbox #[.int .u64 x, .int .u64 y] ?_
 intro g1 w1 B1 E1 _
 refine wv (.int .i64 0) ?_
 refine wpList_nil (then_normal ?_)
 refine wsr ?_
 have H1 := (Ext.refl w).trans E1
 refine wcli (l01List_any x y g1 _ _ B1) ?_
 intro g2 cap1 cs1 w2 B2 S1 E2 hg_
 have lo_g2 := Nat.le_trans (H1).size hg_
 have ll1 := listL_length x y
 refine wv (.int .i64 ((listL x y).length : Int)) ?_
 refine wv (.int .i64 ((listL x y).length : Int)) ?_
 refine wpList_nil (then_normal ?_)
 refine wp_ret ?_
 have H2 := H1.trans E2
 refine ret1 (.int .i64 ((listL x y).length : Int)) rfl ?_ rfl ?_
 ·exact resT (by kernel_rfl)
 exact ⟨rfl, H2⟩
-- 33
theorem mapt_map_int64_impl_Cells : MapT Try.prog 62 2 33 (.agg #[.int .u64 0, .int .u64 0]) := ⟨Try.underlying62, by kernel_rfl, fun w => by kernel_rfl⟩
theorem covers_any (F : Fld) (hF : F.wf) (b : Nat) (t : TypeId) (w0 : Int) (l : Int) (hw0 : 0 ≤ w0 ∧ w0 ≤ 1000) (w : World) (hb : Blk w b t F.cells) :
 Calls Try.prog 33 #[.pointer (some ⟨b, 0, none⟩), .int .i64 w0, .int .i64 l] w fun e w' => RetM w (.agg #[.int .u64 0, .int .u64 0]) (cvV F w0 l) e w' := by
 refine calls_of_wp Try.func33 rfl ?_
 refine wp_frame (a' := ⟨#[.pointer (some ⟨b, 0, none⟩), .int .i64 w0, .int .i64 l, undef, undef, undef, undef, undef, undef, undef, undef, undef, undef, undef, undef, undef, undef, undef, undef, undef, undef, undef, undef, undef, undef, undef, undef, undef, undef, undef], []⟩) (by kernel_rfl) ?_
 refine wsr ?_
 refine wv (.map none) ?_
 refine wpList_nil (then_normal ?_)
 refine wsr ?_
 refine wmmk (cvF F w0 l) ?_
 intro g1 w1 B1 E1 hg_
 have q_b_g1 := Nat.ne_of_lt (Nat.lt_of_lt_of_le hb.lt hg_)
 have lo_g1 := Nat.le_trans ((Ext.refl w)).size hg_
 refine wv (.map (some g1)) ?_
 refine wpList_nil (then_normal ?_)
 refine wp_seq ?_
 refine wsr ?_
 refine wv (.pointer (some ⟨b, 0, none⟩)) ?_
 replace hb := hb.ext E1
 have H1 := (Ext.refl w).trans E1
 refine wcli (cells_any F hF b _ _ hb) ?_
 intro g2 cap1 cs1 w2 B2 S1 E2 hg_
 have q_b_g2 := Nat.ne_of_lt (Nat.lt_of_lt_of_le hb.lt hg_)
 have q_g1_g2 := Nat.ne_of_lt (Nat.lt_of_lt_of_le B1.lt hg_)
 have lo_g2 := Nat.le_trans (H1).size hg_
 have cl1 := cellsL_length F
 refine wv (.int .i64 ((cellsL F).length : Int)) ?_
 refine wv (.int .i64 0) ?_
 refine wpList_nil (then_normal ?_)
 refine wp_block ?_
 replace hb := hb.ext E2
 replace B1 := B1.ext E2
 have H2 := H1.trans E2
 refine wp_loop_k (fun m1 a wl1 => ∃ (i : Nat), m1 = (cellsL F).length - i ∧ i ≤ (cellsL F).length ∧ Ext w wl1 ∧ Blk wl1 b t F.cells ∧ MB wl1 g1 (plN F i) (cvF F w0 l) ∧ Blk wl1 g2 2 cs1 ∧ (∃ J1 : Nat → Value, a = ⟨#[.pointer (some ⟨b, 0, none⟩), .int .i64 w0, .int .i64 l, undef, undef, undef, .map none, .map (some g1), undef, J1 9, .map (some g1), .pointer (some ⟨b, 0, none⟩), .slice (some ⟨g2, 0, none⟩) ((cellsL F).length) cap1, .int .i64 ((cellsL F).length : Int), .int .i64 (i : Int), J1 15, J1 16, J1 17, J1 18, J1 19, J1 20, J1 21, J1 22, J1 23, J1 24, J1 25, J1 26, J1 27, J1 28, undef], []⟩)) ((cellsL F).length) ?_ ?_
 ·refine ⟨0, rfl, ?_, H2, hb, B1, B2, exJ (by kernel_rfl)⟩
  ·omega
 intro m1 a wl1 hI
 obtain ⟨i, rfl, hi_, HL1, hb, B1, B2, J1, rfl⟩ := hI
 refine wsr ?_
 refine wv (.bool (decide ((i : Int) < ((cellsL F).length : Int)))) ?_
 refine wpList_nil (then_normal ?_)
 refine wp_seq ?_
 refine wsplit (decide ((i : Int) < ((cellsL F).length : Int))) (fun h1 => ?_) (fun h1 => ?_)
 ·skip
  have h1d := dT h1
  refine wp_skip ?_
  refine then_normal ?_
  refine wp_seq ?_
  refine wp_block ?_
  refine wsr ?_
  refine wsix1 g2 0 ((cellsL F).length) cap1 i .i64 slit__int64 ?_
  have ce1 := cellsL_in (F := F) (j := i) (by omega)
  have ci1 := cellsL_is (F := F) (j := i) (by omega)
  refine wld g2 (0 + i) scal_int64 (B2.get (SlI.get S1 (by omega))) ?_
  refine wv (.int .i64 (atI (cellsL F) i)) ?_
  refine wpList_nil (then_normal ?_)
  refine wsr ?_
  refine wv (.pointer (some ⟨b, 0, none⟩)) ?_
  refine wv (.int .i64 (atI (cellsL F) i)) ?_
  refine wcl (isPlace_any F hF b _ (atI (cellsL F) i) _ hb) ?_
  intro w3 E3
  refine wpList_nil (then_normal ?_)
  have H3 := HL1.trans E3
  refine wsplit (isB F (atI (cellsL F) i) && (F.k (atI (cellsL F) i).toNat != 3)) (fun h2 => ?_) (fun h2 => ?_)
  ·skip
   obtain ⟨h2a, h2b⟩ := andT h2
   have h2ad := isB_true.1 h2a
   have h2bd := nT h2b
   refine wp_region_lit ?_
   refine wv (.map (some g1)) ?_
   refine wv (.int .i64 (atI (cellsL F) i)) ?_
   refine wv (.pointer (some ⟨b, 0, none⟩)) ?_
   refine wv (.int .i64 (atI (cellsL F) i)) ?_
   refine wv (.int .i64 w0) ?_
   refine wv (.int .i64 l) ?_
   replace hb := hb.ext E3
   refine wcl (cover_any F hF b _ (atI (cellsL F) i) w0 l (by omega) (by omega) _ hb) ?_
   intro w4 E4
   replace B1 := (B1.ext E3).ext E4
   replace hb := hb.ext E4
   replace B2 := (B2.ext E3).ext E4
   have H4 := H3.trans E4
   refine wmup g1 (atI (cellsL F) i) (.agg #[.int .u64 ((setC F (fun c_ => cvU F (atI (cellsL F) i) c_ w0 l) 100).1), .int .u64 ((setC F (fun c_ => cvU F (atI (cellsL F) i) c_ w0 l) 100).2)]) mapt_map_int64_impl_Cells B1 (by omega) (plN_new (by omega)) rfl ?_
   intro w5 B1_ X1
   clear B1; have B1 := B1_; clear B1_
   refine wpList_nil (block_normal (then_normal ?_))
   refine wp_region_lit ?_
   refine wi64 ((i : Int) + 1) ?_
   refine wv (.int .i64 ((i : Int) + 1)) ?_
   refine wpList_nil (then_normal ?_)
   replace hb := X1.blk hb q_b_g1
   replace B2 := X1.blk B2 (Ne.symm q_g1_g2)
   have H5 := X1.ext w lo_g1 H4
   refine ⟨_, ?_, i + 1, rfl, ?_, H5, hb, ?_, B2, exJ (by kernel_rfl)⟩
   ·omega
   ·omega
   ·first | (rw [plN_1' (by assumption)]; exact B1) | (rw [plN_2' (by assumption)]; exact B1)
  ·skip
   refine wp_skip ?_
   refine block_normal (then_normal ?_)
   refine wp_region_lit ?_
   refine wi64 ((i : Int) + 1) ?_
   refine wv (.int .i64 ((i : Int) + 1)) ?_
   refine wpList_nil (then_normal ?_)
   replace hb := hb.ext E3
   replace B1 := B1.ext E3
   replace B2 := B2.ext E3
   refine ⟨_, ?_, i + 1, rfl, ?_, H3, hb, ?_, B2, exJ (by kernel_rfl)⟩
   ·omega
   ·omega
   ·first | (rw [plN_1' (by assumption)]; exact B1) | (rw [plN_2' (by assumption)]; exact B1)
 ·skip
  have h1d := dF h1
  refine wp_exit ?_
  refine then_exit ?_
  refine then_exit ?_
  refine block_exit ?_
  refine then_normal ?_
  refine wsr ?_
  refine wv (.map (some g1)) ?_
  refine wv (.map (some g1)) ?_
  refine wpList_nil (then_normal ?_)
  refine wp_ret ?_
  refine ret1 (.map (some g1)) rfl ?_ rfl ?_
  ·exact resT (by kernel_rfl)
  exact ⟨g1, rfl, ⟨_, _, B1, plN_v (by omega)⟩, HL1, lo_g1⟩
theorem sWithout_any (x y : Int) (x2 y2 : Int) (hy : wrd y) (hy2 : wrd y2) (w : World) :
 Calls Try.prog 44 #[.agg #[.int .u64 x, .int .u64 y], .agg #[.int .u64 x2, .int .u64 y2]] w fun e w' => e = .returned (.agg #[.int .u64 (wo0 x x2), .int .u64 (wo1 y y2)]) ∧ Ext w w' := by
 have wb_ := wo_b hy hy2
 refine calls_of_wp Try.func44 rfl ?_
 refine wp_frame (a' := ⟨#[.agg #[.int .u64 x, .int .u64 y], .agg #[.int .u64 x2, .int .u64 y2], undef, undef, undef, undef, undef, undef, undef, undef, undef, undef, undef, undef, undef, undef, undef], []⟩) (by kernel_rfl) ?_
 refine wsr ?_
 refine wbox #[.int .u64 x, .int .u64 y] ?_
 intro g1 w1 B1 E1 hg_
 have lo_g1 := Nat.le_trans ((Ext.refl w)).size hg_
 have H1 := (Ext.refl w).trans E1
 refine wbox #[.int .u64 x2, .int .u64 y2] ?_
 intro g2 w2 B2 E2 hg_
 have q_g1_g2 := Nat.ne_of_lt (Nat.lt_of_lt_of_le B1.lt hg_)
 have lo_g2 := Nat.le_trans (H1).size hg_
 have H2 := H1.trans E2
 replace B1 := B1.ext E2
 refine wnew #[.int .u64 0, .int .u64 0] Try.zeroValue33 rfl ?_
 intro g3 w3 B3 E3 hg_
 have q_g1_g3 := Nat.ne_of_lt (Nat.lt_of_lt_of_le B1.lt hg_)
 have q_g2_g3 := Nat.ne_of_lt (Nat.lt_of_lt_of_le B2.lt hg_)
 have lo_g3 := Nat.le_trans (H2).size hg_
 refine wpList_nil (then_normal ?_)
 refine wsr ?_
 refine wixn g1 0 0 .i64 arrt_impl_Cells ?_
 replace B1 := B1.ext E3
 refine wld (v := .int .u64 x) g1 (0 + 0) scal_uint64 (B1.get (rfl)) ?_
 refine wixn g2 0 0 .i64 arrt_impl_Cells ?_
 replace B2 := B2.ext E3
 refine wld (v := .int .u64 x2) g2 (0 + 0) scal_uint64 (B2.get (rfl)) ?_
 refine wv (.int .u64 (bits BinOp.andNot IntKind.u64 x x2)) ?_
 refine wixn g1 0 1 .i64 arrt_impl_Cells ?_
 refine wld (v := .int .u64 y) g1 (0 + 1) scal_uint64 (B1.get (rfl)) ?_
 refine wixn g2 0 1 .i64 arrt_impl_Cells ?_
 refine wld (v := .int .u64 y2) g2 (0 + 1) scal_uint64 (B2.get (rfl)) ?_
 refine wv (.int .u64 (bits BinOp.andNot IntKind.u64 y y2)) ?_
 refine wv (.agg #[.int .u64 (bits BinOp.andNot IntKind.u64 x x2), .int .u64 (bits BinOp.andNot IntKind.u64 y y2)]) ?_
 refine wcl (l01Mask_any (bits BinOp.andNot IntKind.u64 x x2) (bits BinOp.andNot IntKind.u64 y y2) (by omega) _) ?_
 intro w4 E4
 replace B3 := B3.ext E4
 refine wput #[.int .u64 (bits BinOp.andNot IntKind.u64 x x2), .int .u64 ((bits BinOp.andNot IntKind.u64 y y2) % 68719476736)] row_impl_Cells B3 (by rfl) (by rfl) (by kernel_rfl) ?_
 intro w5 B3_ X1
 clear B3; have B3 := B3_; clear B3_
 refine wpList_nil (then_normal ?_)
 refine wp_ret ?_
 have H3 := X1.ext w lo_g3 ((H2.trans E3).trans E4)
 refine ret1 (.agg #[.int .u64 (wo0 x x2), .int .u64 (wo1 y y2)]) rfl ?_ rfl ?_
 ·refine ⟨g3, 33, #[.int .u64 (bits BinOp.andNot IntKind.u64 x x2), .int .u64 ((bits BinOp.andNot IntKind.u64 y y2) % 68719476736)], _, by kernel_rfl, B3, row_impl_Cells, ?_, ?_⟩
  ·rfl
  ·show (.agg #[.int .u64 (wo0 x x2), .int .u64 (wo1 y y2)] : Value) = (.agg #[.int .u64 (bits BinOp.andNot IntKind.u64 x x2), .int .u64 ((bits BinOp.andNot IntKind.u64 y y2) % 68719476736)])
   refine congrArg Value.agg ?_
   exact wo_eq
 exact ⟨rfl, H3⟩
theorem l03Cover_out (F : Fld) (hF : F.wf) (b : Nat) (t : TypeId) (p : Int) (w0 : Int) (l : Int) (hw0 : 0 ≤ w0 ∧ w0 ≤ 1000) (hp : 0 ≤ p ∧ p ≤ 99) (hpl : plB F p = false) (w : World) (hb : Blk w b t F.cells) :
 Calls Try.prog 43 #[.pointer (some ⟨b, 0, none⟩), .int .i64 p, .int .i64 w0, .int .i64 l] w fun e w' => e = .returned (.agg #[.int .u64 0, .int .u64 0]) ∧ Ext w w' := by
 refine calls_of_wp Try.func43 rfl ?_
 refine wp_frame (a' := ⟨#[.pointer (some ⟨b, 0, none⟩), .int .i64 p, .int .i64 w0, .int .i64 l, undef, undef, undef, undef, undef, undef, undef, undef, undef, undef, undef, undef, undef, undef, undef, undef, undef, undef, undef, undef, undef], []⟩) (by kernel_rfl) ?_
 refine wsr ?_
 refine wnew #[.int .u64 0, .int .u64 0] Try.zeroValue33 rfl ?_
 intro g1 w1 B1 E1 hg_
 have q_b_g1 := Nat.ne_of_lt (Nat.lt_of_lt_of_le hb.lt hg_)
 have lo_g1 := Nat.le_trans ((Ext.refl w)).size hg_
 refine wpList_nil (then_normal ?_)
 refine wsr ?_
 refine wv (.agg #[.int .u64 0, .int .u64 0]) ?_
 have H1 := (Ext.refl w).trans E1
 replace hb := hb.ext E1
 refine wnew #[.int .u64 0, .int .u64 0] Try.zeroValue33 rfl ?_
 intro g2 w2 B2 E2 hg_
 have q_b_g2 := Nat.ne_of_lt (Nat.lt_of_lt_of_le hb.lt hg_)
 have q_g1_g2 := Nat.ne_of_lt (Nat.lt_of_lt_of_le B1.lt hg_)
 have lo_g2 := Nat.le_trans (H1).size hg_
 refine wput #[.int .u64 0, .int .u64 0] row_impl_Cells B2 (by rfl) (by rfl) (by kernel_rfl) ?_
 intro w3 B2_ X1
 clear B2; have B2 := B2_; clear B2_
 refine wpList_nil (then_normal ?_)
 refine wp_seq ?_
 refine wsr ?_
 refine wv (.int .i64 0) ?_
 refine wpList_nil (then_normal ?_)
 refine wp_block ?_
 replace hb := X1.blk (hb.ext E2) q_b_g2
 replace B1 := X1.blk (B1.ext E2) q_g1_g2
 have H2 := X1.ext w lo_g2 (H1.trans E2)
 refine wp_loop_k (fun m1 a wl1 => ∃ (i : Nat), m1 = 100 - i ∧ i ≤ 100 ∧ Ext w wl1 ∧ Blk wl1 b t F.cells ∧ Blk wl1 g1 33 #[.int .u64 0, .int .u64 0] ∧ Blk wl1 g2 33 #[.int .u64 0, .int .u64 0] ∧ (∃ J1 : Nat → Value, a = ⟨#[.pointer (some ⟨b, 0, none⟩), .int .i64 p, .int .i64 w0, .int .i64 l, undef, undef, undef, undef, .pointer (some ⟨g1, 0, none⟩), .pointer (some ⟨g2, 0, none⟩), .int .i64 (i : Int), .agg #[.int .u64 0, .int .u64 0], J1 12, J1 13, J1 14, J1 15, J1 16, J1 17, J1 18, J1 19, J1 20, J1 21, J1 22, J1 23, undef], []⟩)) (100) ?_ ?_
 ·refine ⟨0, rfl, ?_, H2, hb, B1, B2, exJ (by kernel_rfl)⟩
  ·omega
 intro m1 a wl1 hI
 obtain ⟨i, rfl, hi_, HL1, hb, B1, B2, J1, rfl⟩ := hI
 refine wp_seq ?_
 refine wsr ?_
 refine wv (.int .i64 (i : Int)) ?_
 refine wv (.bool (decide ((i : Int) < 100))) ?_
 refine wpList_nil (then_normal ?_)
 refine wsplit (decide ((i : Int) < 100)) (fun h1 => ?_) (fun h1 => ?_)
 ·skip
  have h1d := dT h1
  refine wp_skip ?_
  refine then_normal ?_
  refine wp_seq ?_
  refine wp_block ?_
  refine wsr ?_
  refine wv (.pointer (some ⟨b, 0, none⟩)) ?_
  refine wv (.int .i64 p) ?_
  refine wv (.int .i64 (i : Int)) ?_
  refine wv (.int .i64 w0) ?_
  refine wv (.int .i64 l) ?_
  refine wcl (l03Covers_any F hF b _ p (i : Int) w0 l (by omega) (by omega) _ hb) ?_
  intro w4 E3
  refine wpList_nil (then_normal ?_)
  have H3 := HL1.trans E3
  refine wsplit (isB F p && cvR F p (i : Int) w0 l) (fun h2 => ?_) (fun h2 => ?_)
  ·skip
   obtain ⟨h2a, h2b⟩ := andT h2
   have h2ad := isB_true.1 h2a
   refine wp_region_lit ?_
   refine wv (.int .i64 (i : Int)) ?_
   replace B2 := B2.ext E3
   refine wcl (l01Put_any 0 0 g2 _ (i : Int) (by omega) _ B2) ?_
   rintro w5 ⟨B2_, X2⟩
   clear B2; have B2 := B2_; clear B2_
   refine wpList_nil (block_normal (then_normal ?_))
   refine wp_region_lit ?_
   refine wv (.int .i64 (i : Int)) ?_
   refine wi64 ((i : Int) + 1) ?_
   refine wv (.int .i64 ((i : Int) + 1)) ?_
   refine wpList_nil (then_normal ?_)
   replace hb := X2.blk (hb.ext E3) q_b_g2
   replace B1 := X2.blk (B1.ext E3) q_g1_g2
   have H4 := X2.ext w lo_g2 H3
   refine ⟨_, ?_, i + 1, rfl, ?_, H4, hb, B1, ?_, exJ (by kernel_rfl)⟩
   ·omega
   ·omega
   ·first | exact B2 | exact absurd (show (isB F p && cvR F p (i : Int) w0 l) = true by assumption) (by rw [cv_out hpl]; decide)
  ·skip
   refine wp_skip ?_
   refine block_normal (then_normal ?_)
   refine wp_region_lit ?_
   refine wv (.int .i64 (i : Int)) ?_
   refine wi64 ((i : Int) + 1) ?_
   refine wv (.int .i64 ((i : Int) + 1)) ?_
   refine wpList_nil (then_normal ?_)
   replace hb := hb.ext E3
   replace B1 := B1.ext E3
   replace B2 := B2.ext E3
   refine ⟨_, ?_, i + 1, rfl, ?_, H3, hb, B1, ?_, exJ (by kernel_rfl)⟩
   ·omega
   ·omega
   ·first | exact B2 | exact absurd (show (isB F p && cvR F p (i : Int) w0 l) = true by assumption) (by rw [cv_out hpl]; decide)
 ·skip
  have h1d := dF h1
  refine wp_exit ?_
  refine then_exit ?_
  refine then_exit ?_
  refine block_exit ?_
  refine then_normal ?_
  refine wsr ?_
  refine wrow row_impl_Cells B2 (by rfl) ?_
  refine wput #[.int .u64 0, .int .u64 0] row_impl_Cells B1 (by rfl) (by rfl) (by kernel_rfl) ?_
  intro w6 B1_ X3
  clear B1; have B1 := B1_; clear B1_
  refine wpList_nil (then_normal ?_)
  refine wp_ret ?_
  have H5 := X3.ext w lo_g1 HL1
  refine ret1 (.agg #[.int .u64 0, .int .u64 0]) rfl ?_ rfl ?_
  ·refine ⟨g1, 33, #[.int .u64 0, .int .u64 0], _, by kernel_rfl, B1, row_impl_Cells, ?_, ?_⟩
   ·rfl
   ·rfl
  exact ⟨rfl, H5⟩
-- 43
theorem l03Cover_all (F : Fld) (hF : F.wf) (b : Nat) (t : TypeId) (p w0 l : Int) (hw0 : 0 ≤ w0 ∧ w0 ≤ 1000) (hp : 0 ≤ p ∧ p ≤ 99) (w : World) (hb : Blk w b t F.cells) :
 Calls Try.prog 43 #[.pointer (some ⟨b, 0, none⟩), .int .i64 p, .int .i64 w0, .int .i64 l] w fun e w' => e = .returned (.agg #[.int .u64 ((cvP F w0 l p).1), .int .u64 ((cvP F w0 l p).2)]) ∧ Ext w w' := by
 cases h : plB F p with
 | true => rw [cvP_t h]; exact l03Cover_any F hF b t p w0 l hw0 (plB_a h) (plB_b h) w hb
 | false => rw [cvP_f h]; exact l03Cover_out F hF b t p w0 l hw0 hp h w hb
theorem GreedyPlaces1_any (w0 : Int) (b0 : Nat) (t0 : TypeId) (l : Int) (b1 : Nat) (t1 : TypeId) (w : World) (hb0 : Blk w b0 t0 #[.int .i64 w0]) (hb1 : Blk w b1 t1 #[.int .i64 l]) :
 Calls Try.prog 30 #[.pointer (some ⟨b0, 0, none⟩), .pointer (some ⟨b1, 0, none⟩)] w fun e w' => e = .returned (.bool (inB w0 1 1000 && inB l 1 1000)) ∧ Ext w w' := by
 refine calls_of_wp Try.func30 rfl ?_
 refine wp_frame (a' := ⟨#[.pointer (some ⟨b0, 0, none⟩), .pointer (some ⟨b1, 0, none⟩), undef, undef, undef, undef], []⟩) (by kernel_rfl) ?_
 refine wsr ?_
 refine wv (.bool false) ?_
 refine wpList_nil (then_normal ?_)
 refine wsr ?_
 refine wld (v := .int .i64 w0) b0 (0) scal_int64 (hb0.get (rfl)) ?_
 refine wld (v := .int .i64 l) b1 (0) scal_int64 (hb1.get (rfl)) ?_
 refine wcl (arePowers_any w0 l _) ?_
 intro w1 E1
 refine wv (.bool (inB w0 1 1000 && inB l 1 1000)) ?_
 refine wpList_nil (then_normal ?_)
 refine wp_ret ?_
 have H1 := (Ext.refl w).trans E1
 refine ret1 (.bool (inB w0 1 1000 && inB l 1 1000)) rfl ?_ rfl ?_
 ·exact resT (by kernel_rfl)
 exact ⟨rfl, H1⟩
theorem iGreedyPlaces_any (F : Fld) (hF : F.wf) (w0 : Int) (l : Int) (x y : Int) (hwx : wrd x) (hwy : wrd y) (w : World) :
 Calls Try.prog 8 #[.agg F.cells, .int .i64 w0, .int .i64 l, .agg #[.int .u64 x, .int .u64 y]] w fun e w' => (grK F w0 l x y = 0 ∧ RetI w 2 .i64 (grX F w0 l x y) (fun v => .tuple #[v, .int .i64 0]) e w') ∨ (grK F w0 l x y ≠ 0 ∧ e = .returned (.tuple #[.slice none 0 0, .int .i64 (grK F w0 l x y)]) ∧ Ext w w') := by
 refine calls_of_wp Try.func8 rfl ?_
 refine wp_frame (a' := ⟨#[.agg F.cells, .int .i64 w0, .int .i64 l, .agg #[.int .u64 x, .int .u64 y], undef, undef, undef, undef, undef, undef, undef, undef, undef, undef, undef, undef, undef, undef, undef, undef, undef, undef, undef, undef, undef, undef, undef, undef, undef, undef, undef, undef, undef, undef, undef, undef, undef, undef, undef, undef, undef, undef, undef, undef, undef, undef, undef, undef, undef, undef, undef, undef, undef, undef, undef, undef, undef, undef, undef, undef, undef, undef, undef, undef, undef, undef, undef, undef], []⟩) (by kernel_rfl) ?_
 refine wsr ?_
 refine wbox F.cells ?_
 intro g1 w1 B1 E1 hg_
 have lo_g1 := Nat.le_trans ((Ext.refl w)).size hg_
 have H1 := (Ext.refl w).trans E1
 refine wboxv (.int .i64 w0) ?_
 intro g2 w2 B2 E2 hg_
 have q_g1_g2 := Nat.ne_of_lt (Nat.lt_of_lt_of_le B1.lt hg_)
 have lo_g2 := Nat.le_trans (H1).size hg_
 have H2 := H1.trans E2
 replace B1 := B1.ext E2
 refine wboxv (.int .i64 l) ?_
 intro g3 w3 B3 E3 hg_
 have q_g1_g3 := Nat.ne_of_lt (Nat.lt_of_lt_of_le B1.lt hg_)
 have q_g2_g3 := Nat.ne_of_lt (Nat.lt_of_lt_of_le B2.lt hg_)
 have lo_g3 := Nat.le_trans (H2).size hg_
 have H3 := H2.trans E3
 replace B1 := B1.ext E3
 replace B2 := B2.ext E3
 refine wbox #[.int .u64 x, .int .u64 y] ?_
 intro g4 w4 B4 E4 hg_
 have q_g1_g4 := Nat.ne_of_lt (Nat.lt_of_lt_of_le B1.lt hg_)
 have q_g2_g4 := Nat.ne_of_lt (Nat.lt_of_lt_of_le B2.lt hg_)
 have q_g3_g4 := Nat.ne_of_lt (Nat.lt_of_lt_of_le B3.lt hg_)
 have lo_g4 := Nat.le_trans (H3).size hg_
 refine wv (.slice none 0 0) ?_
 refine wv (.int .i64 0) ?_
 refine wpList_nil (then_normal ?_)
 refine wp_seq ?_
 refine wsr ?_
 refine wv (.func (.func 30) #[] #[.pointer (some ⟨g2, 0, none⟩), .pointer (some ⟨g3, 0, none⟩)]) ?_
 replace B1 := B1.ext E4
 replace B2 := B2.ext E4
 replace B3 := B3.ext E4
 refine wcl (fieldCode_any F hF g1 _ (.func (.func 30) #[] #[.pointer (some ⟨g2, 0, none⟩), .pointer (some ⟨g3, 0, none⟩)]) 30 #[.pointer (some ⟨g2, 0, none⟩), .pointer (some ⟨g3, 0, none⟩)] (fun _ => by kernel_rfl) (inB w0 1 1000 && inB l 1 1000) _ B1 (fun _ E_ => GreedyPlaces1_any w0 g2 _ l g3 _ _ (B2.ext E_) (B3.ext E_))) ?_
 intro w5 E5
 refine wv (.int .i64 (code F (inB w0 1 1000 && inB l 1 1000))) ?_
 refine wpList_nil (then_normal ?_)
 refine wsr ?_
 refine wv (.int .i64 (code F (inB w0 1 1000 && inB l 1 1000))) ?_
 refine wv (.bool ((code F (inB w0 1 1000 && inB l 1 1000)) != 0)) ?_
 refine wpList_nil (then_normal ?_)
 have H4 := (H3.trans E4).trans E5
 refine wsplit ((code F (inB w0 1 1000 && inB l 1 1000)) != 0) (fun h1 => ?_) (fun h1 => ?_)
 ·skip
  have h1d := nT h1
  refine wsr ?_
  refine wv (.int .i64 (code F (inB w0 1 1000 && inB l 1 1000))) ?_
  refine wv (.slice none 0 0) ?_
  refine wv (.int .i64 (code F (inB w0 1 1000 && inB l 1 1000))) ?_
  refine wpList_nil (then_normal ?_)
  refine wp_ret ?_
  refine then_ret ?_
  refine ret2 (.slice none 0 0) (.int .i64 (code F (inB w0 1 1000 && inB l 1 1000))) rfl ?_ ?_ rfl ?_
  ·exact resT (by kernel_rfl)
  ·exact resT (by kernel_rfl)
  have ec_ : (code F (inB w0 1 1000 && inB l 1 1000) : Int) = grK F w0 l x y := by first | exact (grK_n (by assumption)).symm | exact grK_b (by assumption) hI (by first | assumption | exact cn_t hI.1 (by assumption)) (grT_e (by omega) hbm) (by omega)
  rw [ec_]
  exact .inr ⟨(by first | exact grK_n' (by assumption) | (rw [← ec_]; decide)), rfl, H4⟩
 ·skip
  have h1d := nF h1
  have h1o := (code_zero h1d).1
  have h1z := (code_zero h1d).2
  obtain ⟨h1za, h1zb⟩ := andT h1z
  have h1zad := inT h1za
  have h1zbd := inT h1zb
  refine wp_skip ?_
  refine then_normal ?_
  refine wp_seq ?_
  refine wp_frame (a' := ⟨#[.agg F.cells, .int .i64 w0, .int .i64 l, .agg #[.int .u64 x, .int .u64 y], .pointer (some ⟨g1, 0, none⟩), .pointer (some ⟨g2, 0, none⟩), .pointer (some ⟨g3, 0, none⟩), .pointer (some ⟨g4, 0, none⟩), .slice none 0 0, .int .i64 0, .int .i64 (code F (inB w0 1 1000 && inB l 1 1000)), undef, undef, undef, undef, undef, undef, undef, undef, .func (.func 30) #[] #[.pointer (some ⟨g2, 0, none⟩), .pointer (some ⟨g3, 0, none⟩)], .int .i64 (code F (inB w0 1 1000 && inB l 1 1000)), .int .i64 (code F (inB w0 1 1000 && inB l 1 1000)), .bool ((code F (inB w0 1 1000 && inB l 1 1000)) != 0), undef, undef, undef, undef, undef, undef, undef, undef, undef, undef, undef, undef, undef, undef, undef, undef, undef, undef, undef, undef, undef, undef, undef, undef, undef, undef, undef, undef, undef, undef, undef, undef, undef, undef, undef, undef, undef, undef, undef, undef, undef, undef, undef, undef, undef], []⟩) (by kernel_rfl) ?_
  replace B4 := B4.ext E5
  replace B1 := B1.ext E5
  replace B2 := B2.ext E5
  replace B3 := B3.ext E5
  refine RT.region_go 7 [24, 25, 26, 27, 28, 29, 12] [[], [], [1], [], [], [3, 4, 2], []] Ext
   (fun i_ => Fct.toT (([.lst w5.heap.size 2 .i64 ([] : List Int), .val (.agg #[.int .u64 x, .int .u64 y]), .val (.agg #[.int .u64 (bo0 x (setC F (fun c_ => F.k c_.toNat == 0) 100).1), .int .u64 (bo1 y (setC F (fun c_ => F.k c_.toNat == 0) 100).2)]), .val (.int .i64 w0), .val (.int .i64 l), .mp w5.heap.size (.agg #[.int .u64 0, .int .u64 0]) (cvV F w0 l), .ptr w5.heap.size 33 #[.int .u64 0, .int .u64 0]] : List Fct).getD i_ .any))
   (by kernel_rfl) (by kernel_rfl) (by decide) (by simp) (fun _ _ _ => Ext.trans) (fun w_ => (Ext.refl w_).drew) rfl (all_succ (all_succ (all_succ (all_succ (all_succ (all_succ (all_succ all_zero ?_) ?_) ?_) ?_) ?_) ?_) ?_) ?_
  ·refine RT.step0 rfl rfl rfl (fun wr hw => ?_)
   exact OpRun.bslice #[] slt__int64 rfl (by decide) (by kernel_rfl) ⟨(Ext.refl _).alloc _, _, _, _, rfl, hw.size, Blk.new _ _ _, SlI.nil⟩
  ·refine RT.step0 rfl rfl rfl (fun wr hw => ?_)
   with_reducible refine OpRun.row (x := (.tmp 7)) row_impl_Cells (B4.ext hw) ?_ ?_ ?_ ?_
   ·rfl
   ·rfl
   ·kernel_rfl
   ·exact ⟨Ext.refl _, rfl⟩
  ·refine RT.step1 rfl rfl rfl rfl (fun u0 wr hw h0 => ?_)
   cases h0
   exact OpRun.call 32 #[.pointer (some ⟨g1, 0, none⟩), .agg #[.int .u64 x, .int .u64 y]] (by kernel_rfl) ((soilOf_any F hF g1 _ x y (by first | assumption | exact okP.w2 (setC_ok 100 (Nat.le_refl _)) | exact okP.w2 hI.1 | exact okP.w2 hU.1 | exact okP.w2 (cvP_ok _)) _ (B1.ext hw)).mono fun e w1 ⟨he, hb⟩ => ⟨_, he, hb, rfl⟩)
  ·refine RT.step0 rfl rfl rfl (fun wr hw => ?_)
   exact OpRun.cell (g := g2) (off := 0) (v := .int .i64 w0) scal_int64 rfl (by kernel_rfl) ((B2.ext hw).get (rfl)) ⟨Ext.refl _, rfl⟩
  ·refine RT.step0 rfl rfl rfl (fun wr hw => ?_)
   exact OpRun.cell (g := g3) (off := 0) (v := .int .i64 l) scal_int64 rfl (by kernel_rfl) ((B3.ext hw).get (rfl)) ⟨Ext.refl _, rfl⟩
  ·refine RT.step3 rfl rfl rfl rfl rfl rfl (fun u0 u1 u2 wr hw h0 h1 h2 => ?_)
   cases h0
   cases h1
   cases h2
   exact OpRun.call 33 #[.pointer (some ⟨g1, 0, none⟩), .int .i64 w0, .int .i64 l] (by kernel_rfl) ((covers_any F hF g1 _ w0 l (by omega) _ (B1.ext hw)).mono fun e w1 ⟨_, he, hb, hE, hg⟩ => ⟨_, he, hE, _, rfl, Nat.le_trans hw.size hg, hb⟩)
  ·refine RT.step0 rfl rfl rfl (fun wr hw => ?_)
   refine OpRun.alloc rfl (Try.zeroValue33 _) ?_
   rw [show Value.cells _ = #[.int .u64 0, .int .u64 0] from rfl]
   exact ⟨(Ext.refl _).alloc _, _, rfl, hw.size, Blk.new _ _ _⟩
  refine RT.end7 (fun u0 u1 u2 u3 u4 u5 u6 w6 E6 f0 f1 f2 f3 f4 f5 f6 => ?_)
  obtain ⟨g5, cap1, cs1, rfl, hg_, B5, S1⟩ := f0
  have q_g1_g5 := Nat.ne_of_lt (Nat.lt_of_lt_of_le B1.lt hg_)
  have q_g2_g5 := Nat.ne_of_lt (Nat.lt_of_lt_of_le B2.lt hg_)
  have q_g3_g5 := Nat.ne_of_lt (Nat.lt_of_lt_of_le B3.lt hg_)
  have q_g4_g5 := Nat.ne_of_lt (Nat.lt_of_lt_of_le B4.lt hg_)
  have lo_g5 := Nat.le_trans (H4).size hg_
  clear hg_
  cases f1
  cases f2
  cases f3
  cases f4
  obtain ⟨g6, rfl, hg_, B6⟩ := f5
  have q_g1_g6 := Nat.ne_of_lt (Nat.lt_of_lt_of_le B1.lt hg_)
  have q_g2_g6 := Nat.ne_of_lt (Nat.lt_of_lt_of_le B2.lt hg_)
  have q_g3_g6 := Nat.ne_of_lt (Nat.lt_of_lt_of_le B3.lt hg_)
  have q_g4_g6 := Nat.ne_of_lt (Nat.lt_of_lt_of_le B4.lt hg_)
  have lo_g6 := Nat.le_trans (H4).size hg_
  clear hg_
  obtain ⟨g7, rfl, hg_, B7⟩ := f6
  have q_g1_g7 := Nat.ne_of_lt (Nat.lt_of_lt_of_le B1.lt hg_)
  have q_g2_g7 := Nat.ne_of_lt (Nat.lt_of_lt_of_le B2.lt hg_)
  have q_g3_g7 := Nat.ne_of_lt (Nat.lt_of_lt_of_le B3.lt hg_)
  have q_g4_g7 := Nat.ne_of_lt (Nat.lt_of_lt_of_le B4.lt hg_)
  have lo_g7 := Nat.le_trans (H4).size hg_
  clear hg_
  have q_g5_g6 := (MV.ne B6 B5).symm
  have q_g5_g7 := Blk.neT B5 B7 (by decide)
  have q_g6_g7 := MV.ne B6 B7
  refine wv (.slice (some ⟨g5, 0, none⟩) (([] : List Int).length) cap1) ?_
  refine wput #[.int .u64 (bo0 x (setC F (fun c_ => F.k c_.toNat == 0) 100).1), .int .u64 (bo1 y (setC F (fun c_ => F.k c_.toNat == 0) 100).2)] row_impl_Cells B7 (by rfl) (by rfl) (by kernel_rfl) ?_
  intro w7 B7_ X1
  clear B7; have B7 := B7_; clear B7_
  refine wv (.map (some g6)) ?_
  refine wpList_nil (then_normal ?_)
  refine wp_seq ?_
  refine wp_block ?_
  replace B5 := X1.blk B5 q_g5_g7
  replace B1 := X1.blk (B1.ext E6) q_g1_g7
  replace B2 := X1.blk (B2.ext E6) q_g2_g7
  replace B3 := X1.blk (B3.ext E6) q_g3_g7
  replace B4 := X1.blk (B4.ext E6) q_g4_g7
  replace B6 := X1.mv B6 q_g6_g7
  have H5 := X1.ext w lo_g7 (H4.trans E6)
  refine wp_loop_k (fun m1 a wl1 => ∃ (o_ : List Int) (s_ : Int × Int) (go : Nat) (no : Nat) (capo : Nat) (cso : Array Value), m1 = 21 - o_.length ∧ grI F w0 l x y o_ s_ ∧ SlI cso no capo .i64 o_ ∧ w.heap.size ≤ go ∧ g1 ≠ go ∧ g2 ≠ go ∧ g3 ≠ go ∧ g4 ≠ go ∧ g6 ≠ go ∧ g7 ≠ go ∧ Ext w wl1 ∧ Blk wl1 g1 29 F.cells ∧ Blk wl1 g2 2 #[.int .i64 w0] ∧ Blk wl1 g3 2 #[.int .i64 l] ∧ Blk wl1 g4 33 #[.int .u64 x, .int .u64 y] ∧ MV wl1 g6 (.agg #[.int .u64 0, .int .u64 0]) (cvV F w0 l) ∧ Blk wl1 g7 33 #[.int .u64 s_.1, .int .u64 s_.2] ∧ Blk wl1 go 2 cso ∧ (∃ J1 : Nat → Value, a = ⟨#[.agg F.cells, .int .i64 w0, .int .i64 l, .agg #[.int .u64 x, .int .u64 y], .pointer (some ⟨g1, 0, none⟩), .pointer (some ⟨g2, 0, none⟩), .pointer (some ⟨g3, 0, none⟩), .pointer (some ⟨g4, 0, none⟩), J1 8, J1 9, .int .i64 (code F (inB w0 1 1000 && inB l 1 1000)), .slice (some ⟨go, 0, none⟩) no capo, .pointer (some ⟨g7, 0, none⟩), .map (some g6), J1 14, J1 15, undef, J1 17, J1 18, .func (.func 30) #[] #[.pointer (some ⟨g2, 0, none⟩), .pointer (some ⟨g3, 0, none⟩)], .int .i64 (code F (inB w0 1 1000 && inB l 1 1000)), .int .i64 (code F (inB w0 1 1000 && inB l 1 1000)), .bool ((code F (inB w0 1 1000 && inB l 1 1000)) != 0), undef, .slice (some ⟨g5, 0, none⟩) (([] : List Int).length) cap1, .agg #[.int .u64 x, .int .u64 y], .agg #[.int .u64 (bo0 x (setC F (fun c_ => F.k c_.toNat == 0) 100).1), .int .u64 (bo1 y (setC F (fun c_ => F.k c_.toNat == 0) 100).2)], .int .i64 w0, .int .i64 l, .map (some g6), J1 30, J1 31, J1 32, J1 33, J1 34, J1 35, J1 36, J1 37, J1 38, J1 39, J1 40, J1 41, J1 42, J1 43, J1 44, J1 45, J1 46, J1 47, J1 48, J1 49, J1 50, J1 51, J1 52, J1 53, J1 54, J1 55, J1 56, J1 57, J1 58, J1 59, J1 60, J1 61, J1 62, J1 63, J1 64, J1 65, J1 66, undef], []⟩)) (21) ?_ ?_
  ·refine ⟨([] : List Int), (bo0 x (setC F (fun c_ => F.k c_.toNat == 0) 100).1, bo1 y (setC F (fun c_ => F.k c_.toNat == 0) 100).2), g5, ([] : List Int).length, cap1, cs1, rfl, ?_, ?_, ?_, ?_, ?_, ?_, ?_, ?_, ?_, H5, B1, B2, B3, B4, B6, B7, B5, exJ (by kernel_rfl)⟩
   ·first | exact grI_0 hwx hwy | (rw [ofL_tg hwx hwy]; exact grI_0 hwx hwy)
   ·refine S1.of_eq ?_
    rfl
   ·exact lo_g5
   ·exact q_g1_g5
   ·exact q_g2_g5
   ·exact q_g3_g5
   ·exact q_g4_g5
   ·exact (Ne.symm q_g5_g6)
   ·exact (Ne.symm q_g5_g7)
  intro m1 a wl1 hI
  obtain ⟨o_, s_, go, no, capo, cso, rfl, hI, So, lo_go, n_g1_go, n_g2_go, n_g3_go, n_g4_go, n_g6_go, n_g7_go, HL1, B1, B2, B3, B4, B6, B7, Bo, J1, rfl⟩ := hI
  have hl_ := hI.2.1
  have len_So := So.len
  refine wp_seq ?_
  refine wsr ?_
  refine wrow row_impl_Cells B7 (by rfl) ?_
  refine wv (.agg #[.int .u64 0, .int .u64 0]) ?_
  refine wneA duot_impl_Cells.eg (equalIn_duo duot_impl_Cells 9998 s_.1 s_.2 0 0) ?_
  refine wpList_nil (then_normal ?_)
  refine wsplit (!(eq2 s_.1 s_.2 0 0)) (fun h2 => ?_) (fun h2 => ?_)
  ·skip
   replace h2 := nbT h2
   refine wp_skip ?_
   refine then_normal ?_
   refine wp_block ?_
   refine wsr ?_
   refine wv (.int .i64 (-1)) ?_
   refine wv (.int .i64 0) ?_
   refine wpList_nil (then_normal ?_)
   refine wp_seq ?_
   refine wsr ?_
   refine wcli (cells_any F hF g1 _ _ B1) ?_
   intro g8 cap2 cs2 w8 B8 S2 E7 hg_
   have q_g1_g8 := Nat.ne_of_lt (Nat.lt_of_lt_of_le B1.lt hg_)
   have q_g2_g8 := Nat.ne_of_lt (Nat.lt_of_lt_of_le B2.lt hg_)
   have q_g3_g8 := Nat.ne_of_lt (Nat.lt_of_lt_of_le B3.lt hg_)
   have q_g4_g8 := Nat.ne_of_lt (Nat.lt_of_lt_of_le B4.lt hg_)
   have q_g6_g8 := Nat.ne_of_lt (Nat.lt_of_lt_of_le B6.lt hg_)
   have q_g7_g8 := Nat.ne_of_lt (Nat.lt_of_lt_of_le B7.lt hg_)
   have q_go_g8 := Nat.ne_of_lt (Nat.lt_of_lt_of_le Bo.lt hg_)
   have lo_g8 := Nat.le_trans (HL1).size hg_
   have cl1 := cellsL_length F
   refine wv (.int .i64 ((cellsL F).length : Int)) ?_
   refine wv (.int .i64 0) ?_
   refine wpList_nil (then_normal ?_)
   refine wp_block ?_
   replace B1 := B1.ext E7
   replace B2 := B2.ext E7
   replace B3 := B3.ext E7
   replace B4 := B4.ext E7
   replace B6 := B6.ext E7
   replace B7 := B7.ext E7
   replace Bo := Bo.ext E7
   have H6 := HL1.trans E7
   refine wp_loop_k (fun m2 a wl2 => ∃ (j : Nat) (bm : Int × Int), m2 = (cellsL F).length - j ∧ j ≤ (cellsL F).length ∧ bm = grT F w0 l s_ j ∧ -1 ≤ bm.1 ∧ bm.1 ≤ 99 ∧ Ext w wl2 ∧ Blk wl2 g1 29 F.cells ∧ Blk wl2 g2 2 #[.int .i64 w0] ∧ Blk wl2 g3 2 #[.int .i64 l] ∧ Blk wl2 g4 33 #[.int .u64 x, .int .u64 y] ∧ MV wl2 g6 (.agg #[.int .u64 0, .int .u64 0]) (cvV F w0 l) ∧ Blk wl2 g7 33 #[.int .u64 s_.1, .int .u64 s_.2] ∧ Blk wl2 go 2 cso ∧ Blk wl2 g8 2 cs2 ∧ (∃ J2 : Nat → Value, a = ⟨#[.agg F.cells, .int .i64 w0, .int .i64 l, .agg #[.int .u64 x, .int .u64 y], .pointer (some ⟨g1, 0, none⟩), .pointer (some ⟨g2, 0, none⟩), .pointer (some ⟨g3, 0, none⟩), .pointer (some ⟨g4, 0, none⟩), J1 8, J1 9, .int .i64 (code F (inB w0 1 1000 && inB l 1 1000)), .slice (some ⟨go, 0, none⟩) no capo, .pointer (some ⟨g7, 0, none⟩), .map (some g6), .int .i64 bm.1, .int .i64 bm.2, undef, J2 17, J2 18, .func (.func 30) #[] #[.pointer (some ⟨g2, 0, none⟩), .pointer (some ⟨g3, 0, none⟩)], .int .i64 (code F (inB w0 1 1000 && inB l 1 1000)), .int .i64 (code F (inB w0 1 1000 && inB l 1 1000)), .bool ((code F (inB w0 1 1000 && inB l 1 1000)) != 0), undef, .slice (some ⟨g5, 0, none⟩) (([] : List Int).length) cap1, .agg #[.int .u64 x, .int .u64 y], .agg #[.int .u64 (bo0 x (setC F (fun c_ => F.k c_.toNat == 0) 100).1), .int .u64 (bo1 y (setC F (fun c_ => F.k c_.toNat == 0) 100).2)], .int .i64 w0, .int .i64 l, .map (some g6), .agg #[.int .u64 s_.1, .int .u64 s_.2], .agg #[.int .u64 0, .int .u64 0], .bool (!(eq2 s_.1 s_.2 0 0)), .slice (some ⟨g8, 0, none⟩) ((cellsL F).length) cap2, .int .i64 ((cellsL F).length : Int), .int .i64 (j : Int), J2 36, J2 37, J2 38, J2 39, J2 40, J2 41, J2 42, J2 43, J2 44, J2 45, J2 46, J2 47, J2 48, J2 49, J2 50, J1 51, J1 52, J1 53, J1 54, J1 55, J1 56, J1 57, J1 58, J1 59, J1 60, J1 61, J1 62, J1 63, J1 64, J1 65, J1 66, undef], []⟩)) ((cellsL F).length) ?_ ?_
   ·refine ⟨0, (-1, 0), rfl, ?_, ?_, ?_, ?_, H6, B1, B2, B3, B4, B6, B7, Bo, B8, exJ (by kernel_rfl)⟩
    ·omega
    ·exact grT_0
    ·exact Int.le_refl _
    ·show (-1 : Int) ≤ 99; omega
   intro m2 a wl2 hI
   obtain ⟨j, bm, rfl, hi_, hbm, hbr, hbs, HL2, B1, B2, B3, B4, B6, B7, Bo, B8, J2, rfl⟩ := hI
   refine wsr ?_
   refine wv (.bool (decide ((j : Int) < ((cellsL F).length : Int)))) ?_
   refine wpList_nil (then_normal ?_)
   refine wp_seq ?_
   refine wsplit (decide ((j : Int) < ((cellsL F).length : Int))) (fun h3 => ?_) (fun h3 => ?_)
   ·skip
    have h3d := dT h3
    refine wp_skip ?_
    refine then_normal ?_
    refine wp_seq ?_
    refine wp_block ?_
    refine wsr ?_
    refine wsix1 g8 0 ((cellsL F).length) cap2 j .i64 slit__int64 ?_
    have ce1 := cellsL_in (F := F) (j := j) (by omega)
    have ci1 := cellsL_is (F := F) (j := j) (by omega)
    refine wld g8 (0 + j) scal_int64 (B8.get (SlI.get S2 (by omega))) ?_
    refine wv (.int .i64 (atI (cellsL F) j)) ?_
    refine wpList_nil (then_normal ?_)
    refine wsr ?_
    refine wv (.map (some g6)) ?_
    refine wv (.int .i64 (atI (cellsL F) j)) ?_
    refine wmlk g6 (atI (cellsL F) j) mapt_map_int64_impl_Cells B6 (by omega) ?_
    refine wrow row_impl_Cells B7 (by rfl) ?_
    refine wcl (iBoth_any ((cvP F w0 l (atI (cellsL F) j)).1) ((cvP F w0 l (atI (cellsL F) j)).2) s_.1 s_.2 (by first | assumption | exact okP.w2 (setC_ok 100 (Nat.le_refl _)) | exact okP.w2 hI.1 | exact okP.w2 hU.1 | exact okP.w2 (cvP_ok _)) (by first | assumption | exact okP.w2 (setC_ok 100 (Nat.le_refl _)) | exact okP.w2 hI.1 | exact okP.w2 hU.1 | exact okP.w2 (cvP_ok _)) _) ?_
    intro w9 E8
    refine wcl (iCountCells_any (bo0 ((cvP F w0 l (atI (cellsL F) j)).1) s_.1) (bo1 ((cvP F w0 l (atI (cellsL F) j)).2) s_.2) (by first | exact bo0_w (cvP_ok _).1 hI.1.1 | omega) (by first | exact (bo_ok (cvP_ok _).1 (cvP_ok _).w2 hI.1).w2 | omega) _) ?_
    intro w10 E9
    refine wv (.int .i64 ((listL (bo0 ((cvP F w0 l (atI (cellsL F) j)).1) s_.1) (bo1 ((cvP F w0 l (atI (cellsL F) j)).2) s_.2)).length : Int)) ?_
    refine wpList_nil (then_normal ?_)
    refine wsr ?_
    refine wv (.int .i64 ((listL (bo0 ((cvP F w0 l (atI (cellsL F) j)).1) s_.1) (bo1 ((cvP F w0 l (atI (cellsL F) j)).2) s_.2)).length : Int)) ?_
    refine wv (.int .i64 bm.2) ?_
    refine wv (.bool (decide (bm.2 < ((listL (bo0 ((cvP F w0 l (atI (cellsL F) j)).1) s_.1) (bo1 ((cvP F w0 l (atI (cellsL F) j)).2) s_.2)).length : Int)))) ?_
    refine wpList_nil (then_normal ?_)
    have H7 := (HL2.trans E8).trans E9
    refine wsplit (decide (bm.2 < ((listL (bo0 ((cvP F w0 l (atI (cellsL F) j)).1) s_.1) (bo1 ((cvP F w0 l (atI (cellsL F) j)).2) s_.2)).length : Int))) (fun h4 => ?_) (fun h4 => ?_)
    ·skip
     have h4d := dT h4
     refine wp_region_lit ?_
     refine wv (.int .i64 (atI (cellsL F) j)) ?_
     refine wv (.int .i64 ((listL (bo0 ((cvP F w0 l (atI (cellsL F) j)).1) s_.1) (bo1 ((cvP F w0 l (atI (cellsL F) j)).2) s_.2)).length : Int)) ?_
     refine wv (.int .i64 (atI (cellsL F) j)) ?_
     refine wv (.int .i64 ((listL (bo0 ((cvP F w0 l (atI (cellsL F) j)).1) s_.1) (bo1 ((cvP F w0 l (atI (cellsL F) j)).2) s_.2)).length : Int)) ?_
     refine wpList_nil (block_normal (then_normal ?_))
     refine wp_region_lit ?_
     refine wi64 ((j : Int) + 1) ?_
     refine wv (.int .i64 ((j : Int) + 1)) ?_
     refine wpList_nil (then_normal ?_)
     replace B1 := (B1.ext E8).ext E9
     replace B2 := (B2.ext E8).ext E9
     replace B3 := (B3.ext E8).ext E9
     replace B4 := (B4.ext E8).ext E9
     replace B6 := (B6.ext E8).ext E9
     replace B7 := (B7.ext E8).ext E9
     replace Bo := (Bo.ext E8).ext E9
     replace B8 := (B8.ext E8).ext E9
     refine ⟨_, ?_, j + 1, (atI (cellsL F) j, ((listL (bo0 ((cvP F w0 l (atI (cellsL F) j)).1) s_.1) (bo1 ((cvP F w0 l (atI (cellsL F) j)).2) s_.2)).length : Int)), rfl, ?_, ?_, ?_, ?_, H7, B1, B2, B3, B4, B6, B7, Bo, B8, exJ (by kernel_rfl)⟩
     ·omega
     ·omega
     ·first | exact grT_y' (by omega) hbm (by assumption) | exact grT_n' (by omega) hbm (by assumption)
     ·first | exact hbr | (simp only; omega)
     ·first | exact hbs | (simp only; omega)
    ·skip
     have h4d := dF h4
     refine wp_skip ?_
     refine block_normal (then_normal ?_)
     refine wp_region_lit ?_
     refine wi64 ((j : Int) + 1) ?_
     refine wv (.int .i64 ((j : Int) + 1)) ?_
     refine wpList_nil (then_normal ?_)
     replace B1 := (B1.ext E8).ext E9
     replace B2 := (B2.ext E8).ext E9
     replace B3 := (B3.ext E8).ext E9
     replace B4 := (B4.ext E8).ext E9
     replace B6 := (B6.ext E8).ext E9
     replace B7 := (B7.ext E8).ext E9
     replace Bo := (Bo.ext E8).ext E9
     replace B8 := (B8.ext E8).ext E9
     refine ⟨_, ?_, j + 1, bm, rfl, ?_, ?_, ?_, ?_, H7, B1, B2, B3, B4, B6, B7, Bo, B8, exJ (by kernel_rfl)⟩
     ·omega
     ·omega
     ·first | exact grT_y' (by omega) hbm (by assumption) | exact grT_n' (by omega) hbm (by assumption)
     ·first | exact hbr | (simp only; omega)
     ·first | exact hbs | (simp only; omega)
   ·skip
    have h3d := dF h3
    refine wp_exit ?_
    refine then_exit ?_
    refine then_exit ?_
    refine block_exit ?_
    refine then_normal ?_
    refine wp_seq ?_
    refine wsr ?_
    refine wv (.int .i64 bm.1) ?_
    refine wv (.bool (decide (bm.1 < 0))) ?_
    refine wv (.bool (decide (bm.1 < 0))) ?_
    refine split_bool (decide (bm.1 < 0)) (fun h5 => ?_) (fun h5 => ?_)
    ·skip
     refine wbl 53 true h5 ?_
     have h5d := dT h5
     refine wsk ?_
     refine wsk ?_
     refine wsk ?_
     refine wv (.bool true) ?_
     refine wpList_nil (then_normal ?_)
     refine wct ?_
     refine wsr ?_
     refine wv (.slice none 0 0) ?_
     refine wv (.int .i64 6) ?_
     refine wpList_nil (then_normal ?_)
     refine wp_ret ?_
     refine then_ret (block_ret (then_ret (block_ret (then_ret ?_))))
     refine ret2 (.slice none 0 0) (.int .i64 6) rfl ?_ ?_ rfl ?_
     ·exact resT (by kernel_rfl)
     ·exact resT (by kernel_rfl)
     have ec_ : (6 : Int) = grK F w0 l x y := by first | exact (grK_n (by assumption)).symm | exact grK_b (by assumption) hI (by first | assumption | exact cn_t hI.1 (by assumption)) (grT_e (by omega) hbm) (by omega)
     rw [ec_]
     exact .inr ⟨(by first | exact grK_n' (by assumption) | (rw [← ec_]; decide)), rfl, HL2⟩
    ·skip
     refine wbl 53 false h5 ?_
     have h5d := dF h5
     refine wv (.slice (some ⟨go, 0, none⟩) no capo) ?_
     refine wv (.int .i64 (no : Int)) ?_
     refine wv (.bool ((no : Int) == 20)) ?_
     refine wv (.bool ((no : Int) == 20)) ?_
     refine wpList_nil (then_normal ?_)
     refine wsplit ((no : Int) == 20) (fun h6 => ?_) (fun h6 => ?_)
     ·skip
      have h6d := eT h6
      refine wsr ?_
      refine wv (.slice none 0 0) ?_
      refine wv (.int .i64 6) ?_
      refine wpList_nil (then_normal ?_)
      refine wp_ret ?_
      refine then_ret (block_ret (then_ret (block_ret (then_ret ?_))))
      refine ret2 (.slice none 0 0) (.int .i64 6) rfl ?_ ?_ rfl ?_
      ·exact resT (by kernel_rfl)
      ·exact resT (by kernel_rfl)
      have ec_ : (6 : Int) = grK F w0 l x y := by first | exact (grK_n (by assumption)).symm | exact grK_b (by assumption) hI (by first | assumption | exact cn_t hI.1 (by assumption)) (grT_e (by omega) hbm) (by omega)
      rw [ec_]
      exact .inr ⟨(by first | exact grK_n' (by assumption) | (rw [← ec_]; decide)), rfl, HL2⟩
     ·skip
      have h6d := eF h6
      refine wp_skip ?_
      refine then_normal ?_
      refine wp_frame (a' := ⟨#[.agg F.cells, .int .i64 w0, .int .i64 l, .agg #[.int .u64 x, .int .u64 y], .pointer (some ⟨g1, 0, none⟩), .pointer (some ⟨g2, 0, none⟩), .pointer (some ⟨g3, 0, none⟩), .pointer (some ⟨g4, 0, none⟩), J1 8, J1 9, .int .i64 (code F (inB w0 1 1000 && inB l 1 1000)), .slice (some ⟨go, 0, none⟩) no capo, .pointer (some ⟨g7, 0, none⟩), .map (some g6), .int .i64 bm.1, .int .i64 bm.2, undef, J2 17, J2 18, .func (.func 30) #[] #[.pointer (some ⟨g2, 0, none⟩), .pointer (some ⟨g3, 0, none⟩)], .int .i64 (code F (inB w0 1 1000 && inB l 1 1000)), .int .i64 (code F (inB w0 1 1000 && inB l 1 1000)), .bool ((code F (inB w0 1 1000 && inB l 1 1000)) != 0), undef, .slice (some ⟨g5, 0, none⟩) (([] : List Int).length) cap1, .agg #[.int .u64 x, .int .u64 y], .agg #[.int .u64 (bo0 x (setC F (fun c_ => F.k c_.toNat == 0) 100).1), .int .u64 (bo1 y (setC F (fun c_ => F.k c_.toNat == 0) 100).2)], .int .i64 w0, .int .i64 l, .map (some g6), .agg #[.int .u64 s_.1, .int .u64 s_.2], .agg #[.int .u64 0, .int .u64 0], .bool (!(eq2 s_.1 s_.2 0 0)), .slice (some ⟨g8, 0, none⟩) ((cellsL F).length) cap2, .int .i64 ((cellsL F).length : Int), .int .i64 (j : Int), .bool (decide ((j : Int) < ((cellsL F).length : Int))), J2 37, J2 38, J2 39, J2 40, J2 41, J2 42, J2 43, J2 44, J2 45, J2 46, J2 47, J2 48, J2 49, J2 50, .int .i64 bm.1, .bool (decide (bm.1 < 0)), .bool false, .slice (some ⟨go, 0, none⟩) no capo, .int .i64 (no : Int), .bool ((no : Int) == 20), .bool ((no : Int) == 20), J1 58, J1 59, J1 60, J1 61, J1 62, J1 63, J1 64, J1 65, J1 66, undef], []⟩) (by kernel_rfl) ?_
      have HG1 := Bo.lt
      refine RT.region_go 9 [58, 59, 60, 61, 62, 63, 64, 65, 66] [[], [], [1], [0, 2], [], [], [], [5, 6], [4, 7]] (RlA go 2 no .i64 o_ bm.1)
       (fun i_ => ([.val (.slice (some ⟨go, 0, none⟩) no capo), .val (.int .i64 bm.1), (Fct.one wl2.heap.size HG1 bm.1), (Fct.app wl2.heap.size capo HG1), .val (.agg #[.int .u64 s_.1, .int .u64 s_.2]), .val (.map (some g6)), .val (.int .i64 bm.1), .val (.agg #[.int .u64 ((cvP F w0 l bm.1).1), .int .u64 ((cvP F w0 l bm.1).2)]), .val (.agg #[.int .u64 (wo0 s_.1 ((cvP F w0 l bm.1).1)), .int .u64 (wo1 s_.2 ((cvP F w0 l bm.1).2))])] : List (RT.Fct (RlA go 2 no .i64 o_ bm.1))).getD i_ .any)
       (by kernel_rfl) (by kernel_rfl) (by decide) (by simp) RlA.trans RlA.drew rfl (all_succ (all_succ (all_succ (all_succ (all_succ (all_succ (all_succ (all_succ (all_succ all_zero ?_) ?_) ?_) ?_) ?_) ?_) ?_) ?_) ?_) ?_
      ·refine RT.step0 rfl rfl rfl (fun wr hw => ?_)
       exact OpRun.val (.slice (some ⟨go, 0, none⟩) no capo) (.slice (some ⟨go, 0, none⟩) no capo) (by kernel_rfl) rfl ⟨RlA.refl _, rfl⟩
      ·refine RT.step0 rfl rfl rfl (fun wr hw => ?_)
       exact OpRun.val (.int .i64 bm.1) (.int .i64 bm.1) (by kernel_rfl) rfl ⟨RlA.refl _, rfl⟩
      ·refine RT.step1 rfl rfl rfl rfl (fun u0 wr hw h0 => ?_)
       cases h0
       exact OpRun.bslice #[.int .i64 bm.1] slt__int64 rfl (by decide) (by kernel_rfl) ⟨RlA.of_ext ((Ext.refl _).alloc _), _, rfl, hw.wr.size, Blk.new _ _ _⟩
      ·refine RT.step2 rfl rfl rfl rfl rfl (fun u0 u1 wr hw h0 h1 => ?_)
       cases h0
       obtain ⟨d_, rfl, hgd_, hbd_⟩ := h1
       exact OpRun.appA (cap := capo) slt__int64 Bo So hw rfl HG1 hbd_ rfl (by kernel_rfl) (by kernel_rfl) (by omega)
      ·refine RT.step0 rfl rfl rfl (fun wr hw => ?_)
       with_reducible refine OpRun.row (x := (.tmp 12)) row_impl_Cells (Wr.blk hw.wr B7 n_g7_go) ?_ ?_ ?_ ?_
       ·rfl
       ·rfl
       ·kernel_rfl
       ·exact ⟨RlA.refl _, rfl⟩
      ·refine RT.step0 rfl rfl rfl (fun wr hw => ?_)
       exact OpRun.val (.map (some g6)) (.map (some g6)) (by kernel_rfl) rfl ⟨RlA.refl _, rfl⟩
      ·refine RT.step0 rfl rfl rfl (fun wr hw => ?_)
       exact OpRun.val (.int .i64 bm.1) (.int .i64 bm.1) (by kernel_rfl) rfl ⟨RlA.refl _, rfl⟩
      ·refine RT.step2 rfl rfl rfl rfl rfl (fun u0 u1 wr hw h0 h1 => ?_)
       cases h0
       cases h1
       exact OpRun.mlk bm.1 (Wr.mv hw.wr B6 n_g6_go) mapt_map_int64_impl_Cells (by omega) rfl (by kernel_rfl) (by kernel_rfl) ⟨RlA.refl _, rfl⟩
      ·refine RT.step2 rfl rfl rfl rfl rfl (fun u0 u1 wr hw h0 h1 => ?_)
       cases h0
       cases h1
       exact OpRun.call 37 #[.agg #[.int .u64 s_.1, .int .u64 s_.2], .agg #[.int .u64 ((cvP F w0 l bm.1).1), .int .u64 ((cvP F w0 l bm.1).2)]] (by kernel_rfl) ((iWithout_any s_.1 s_.2 ((cvP F w0 l bm.1).1) ((cvP F w0 l bm.1).2) (by first | assumption | exact okP.w2 (setC_ok 100 (Nat.le_refl _)) | exact okP.w2 hI.1 | exact okP.w2 hU.1 | exact okP.w2 (cvP_ok _)) (by first | assumption | exact okP.w2 (setC_ok 100 (Nat.le_refl _)) | exact okP.w2 hI.1 | exact okP.w2 hU.1 | exact okP.w2 (cvP_ok _)) _).mono fun e w1 ⟨he, hb⟩ => ⟨_, he, RlA.of_ext hb, rfl⟩)
      refine RT.end9 (fun u0 u1 u2 u3 u4 u5 u6 u7 u8 w11 E10 f0 f1 f2 f3 f4 f5 f6 f7 f8 => ?_)
      cases f0
      cases f1
      obtain ⟨d_, rfl, _, _⟩ := f2
      obtain ⟨g9, cap3, cs3, rfl, B9, S3, or1⟩ := f3
      cases f4
      cases f5
      cases f6
      cases f7
      cases f8
      have X2 := E10.wr
      have n_g1_g9 := ne_app B1 n_g1_go or1
      have n_g2_g9 := ne_app B2 n_g2_go or1
      have n_g3_g9 := ne_app B3 n_g3_go or1
      have n_g4_g9 := ne_app B4 n_g4_go or1
      have n_g6_g9 := ne_appL B6.lt n_g6_go or1
      have n_g7_g9 := ne_app B7 n_g7_go or1
      have n_g8_g9 := ne_app B8 (Ne.symm q_go_g8) or1
      have lo_g9 := Wr.lo or1 lo_go (HL2).size
      refine wv (.slice (some ⟨g9, 0, none⟩) (no + 1) cap3) ?_
      replace B7 := X2.blk B7 n_g7_go
      refine wput #[.int .u64 (wo0 s_.1 ((cvP F w0 l bm.1).1)), .int .u64 (wo1 s_.2 ((cvP F w0 l bm.1).2))] row_impl_Cells B7 (by rfl) (by rfl) (by kernel_rfl) ?_
      intro w12 B7_ X3
      clear B7; have B7 := B7_; clear B7_
      refine wpList_nil (block_normal (then_normal ?_))
      replace B1 := X3.blk (X2.blk B1 n_g1_go) q_g1_g7
      replace B2 := X3.blk (X2.blk B2 n_g2_go) q_g2_g7
      replace B3 := X3.blk (X2.blk B3 n_g3_go) q_g3_g7
      replace B4 := X3.blk (X2.blk B4 n_g4_go) q_g4_g7
      replace B6 := X3.mv (X2.mv B6 n_g6_go) q_g6_g7
      replace B9 := X3.blk B9 (Ne.symm n_g7_g9)
      have H8 := X3.ext w lo_g7 (X2.ext w lo_go HL2)
      refine ⟨_, ?_, o_ ++ [bm.1], (wo0 s_.1 ((cvP F w0 l bm.1).1), wo1 s_.2 ((cvP F w0 l bm.1).2)), g9, no + 1, cap3, cs3, rfl, ?_, ?_, ?_, ?_, ?_, ?_, ?_, ?_, ?_, H8, B1, B2, B3, B4, B6, B7, B9, exJ (by kernel_rfl)⟩
      ·simp only [List.length_append, List.length_singleton]; omega
      ·exact grI_s' hI (by first | assumption | exact cn_t hI.1 (by assumption)) (grT_e (by omega) hbm) (by omega) (by omega)
      ·refine S3.of_eq ?_
       rfl
      ·exact lo_g9
      ·exact n_g1_g9
      ·exact n_g2_g9
      ·exact n_g3_g9
      ·exact n_g4_g9
      ·exact n_g6_g9
      ·exact n_g7_g9
  ·skip
   replace h2 := nbF h2
   refine wp_exit ?_
   refine then_exit ?_
   refine then_exit ?_
   refine block_exit ?_
   refine then_normal ?_
   refine wsr ?_
   refine wv (.slice (some ⟨go, 0, none⟩) no capo) ?_
   refine wv (.slice (some ⟨go, 0, none⟩) no capo) ?_
   refine wv (.int .i64 0) ?_
   refine wpList_nil (then_normal ?_)
   refine wp_ret ?_
   refine ret2 (.slice (some ⟨go, 0, none⟩) no capo) (.int .i64 0) rfl ?_ ?_ rfl ?_
   ·exact resT (by kernel_rfl)
   ·exact resT (by kernel_rfl)
   have hq : o_ = grX F w0 l x y := by
    exact grX_a hI (by first | assumption | exact cn_f hI.1 (by assumption))
   exact .inl ⟨(grK_a (by assumption) hI (by first | assumption | exact cn_f hI.1 (by assumption))), go, no, capo, cso, rfl, Bo, So.of_eq hq, HL1, lo_go⟩
theorem sGreedyPlaces_any (F : Fld) (hF : F.wf) (w0 : Int) (l : Int) (x y : Int) (hwx : wrd x) (hwy : wrd y) (w : World) :
 Calls Try.prog 9 #[.agg F.cells, .int .i64 w0, .int .i64 l, .agg #[.int .u64 x, .int .u64 y]] w fun e w' => (grK F w0 l x y = 0 ∧ RetI w 2 .i64 (grX F w0 l x y) (fun v => .tuple #[v, .int .i64 0]) e w') ∨ (grK F w0 l x y ≠ 0 ∧ RetI w 2 .i64 [] (fun v => .tuple #[v, .int .i64 (grK F w0 l x y)]) e w') := by
 refine calls_of_wp Try.func9 rfl ?_
 refine wp_frame (a' := ⟨#[.agg F.cells, .int .i64 w0, .int .i64 l, .agg #[.int .u64 x, .int .u64 y], undef, undef, undef, undef, undef, undef, undef, undef, undef, undef, undef, undef, undef, undef, undef, undef, undef, undef, undef, undef, undef, undef, undef, undef, undef, undef, undef, undef, undef, undef, undef, undef, undef, undef, undef, undef, undef, undef, undef, undef, undef, undef, undef, undef, undef, undef, undef, undef, undef, undef, undef, undef, undef, undef, undef, undef, undef, undef, undef, undef, undef, undef, undef, undef, undef], []⟩) (by kernel_rfl) ?_
 refine wsr ?_
 refine wbox F.cells ?_
 intro g1 w1 B1 E1 hg_
 have lo_g1 := Nat.le_trans ((Ext.refl w)).size hg_
 have H1 := (Ext.refl w).trans E1
 refine wbox #[.int .u64 x, .int .u64 y] ?_
 intro g2 w2 B2 E2 hg_
 have q_g1_g2 := Nat.ne_of_lt (Nat.lt_of_lt_of_le B1.lt hg_)
 have lo_g2 := Nat.le_trans (H1).size hg_
 refine wv (.slice none 0 0) ?_
 refine wv (.int .i64 0) ?_
 refine wpList_nil (then_normal ?_)
 refine wp_seq ?_
 refine wsr ?_
 refine wv (.int .i64 w0) ?_
 refine wv (.int .i64 l) ?_
 replace B1 := B1.ext E2
 refine wcl (l03Game_any F hF g1 _ w0 l _ B1) ?_
 intro w3 E3
 refine wv (.int .i64 (code F (inB w0 1 1000 && inB l 1 1000))) ?_
 refine wpList_nil (then_normal ?_)
 refine wsr ?_
 refine wv (.int .i64 (code F (inB w0 1 1000 && inB l 1 1000))) ?_
 refine wv (.bool ((code F (inB w0 1 1000 && inB l 1 1000)) != 0)) ?_
 refine wpList_nil (then_normal ?_)
 have H2 := (H1.trans E2).trans E3
 refine wsplit ((code F (inB w0 1 1000 && inB l 1 1000)) != 0) (fun h1 => ?_) (fun h1 => ?_)
 ·skip
  have h1d := nT h1
  refine wsr ?_
  replace B1 := B1.ext E3
  replace B2 := B2.ext E3
  refine wbsl 0 #[] slt__int64 ?_
  intro g3 w4 B3 E4 hg_
  have q_g1_g3 := Nat.ne_of_lt (Nat.lt_of_lt_of_le B1.lt hg_)
  have q_g2_g3 := Nat.ne_of_lt (Nat.lt_of_lt_of_le B2.lt hg_)
  have lo_g3 := Nat.le_trans (H2).size hg_
  have S1 : SlI #[] 0 0 .i64 [] := SlI.nil
  refine wv (.int .i64 (code F (inB w0 1 1000 && inB l 1 1000))) ?_
  refine wv (.slice (some ⟨g3, 0, none⟩) 0 0) ?_
  refine wv (.int .i64 (code F (inB w0 1 1000 && inB l 1 1000))) ?_
  refine wpList_nil (then_normal ?_)
  refine wp_ret ?_
  refine then_ret ?_
  refine ret2 (.slice (some ⟨g3, 0, none⟩) 0 0) (.int .i64 (code F (inB w0 1 1000 && inB l 1 1000))) rfl ?_ ?_ rfl ?_
  ·exact resT (by kernel_rfl)
  ·exact resT (by kernel_rfl)
  have H3 := H2.trans E4
  have ec_ : (code F (inB w0 1 1000 && inB l 1 1000) : Int) = grK F w0 l x y := by first | exact (grK_n (by assumption)).symm | exact grK_b (by assumption) hI (by first | assumption | exact cn_t hI.1 (by assumption)) (grC_e (by omega) hbm) (by omega)
  rw [ec_]
  exact .inr ⟨(by first | exact grK_n' (by assumption) | (rw [← ec_]; decide)), g3, 0, 0, #[], rfl, B3, S1, H3, lo_g3⟩
 ·skip
  have h1d := nF h1
  have h1o := (code_zero h1d).1
  have h1z := (code_zero h1d).2
  obtain ⟨h1za, h1zb⟩ := andT h1z
  have h1zad := inT h1za
  have h1zbd := inT h1zb
  refine wp_skip ?_
  refine then_normal ?_
  refine wsr ?_
  replace B1 := B1.ext E3
  replace B2 := B2.ext E3
  refine wcli (l03Targets_any F hF g1 _ x y g2 _ _ B1 B2) ?_
  intro g4 cap1 cs1 w5 B4 S2 E5 hg_
  have q_g1_g4 := Nat.ne_of_lt (Nat.lt_of_lt_of_le B1.lt hg_)
  have q_g2_g4 := Nat.ne_of_lt (Nat.lt_of_lt_of_le B2.lt hg_)
  have lo_g4 := Nat.le_trans (H2).size hg_
  have tl1 := tgL_length F x y 100
  refine wcl (sCellsOf_any (tgL F x y 100) g4 cap1 cs1 S2 (by omega) _ B4) ?_
  intro w6 E6
  refine wv (.tuple #[.agg #[.int .u64 ((ofL (tgL F x y 100)).1), .int .u64 ((ofL (tgL F x y 100)).2)], .int .i64 (ofC (tgL F x y 100))]) ?_
  refine wv (.agg #[.int .u64 ((ofL (tgL F x y 100)).1), .int .u64 ((ofL (tgL F x y 100)).2)]) ?_
  refine wv (.int .i64 (ofC (tgL F x y 100))) ?_
  have H4 := (H2.trans E5).trans E6
  replace B1 := (B1.ext E5).ext E6
  replace B2 := (B2.ext E5).ext E6
  replace B4 := B4.ext E6
  refine wnew #[.int .u64 0, .int .u64 0] Try.zeroValue33 rfl ?_
  intro g5 w7 B5 E7 hg_
  have q_g1_g5 := Nat.ne_of_lt (Nat.lt_of_lt_of_le B1.lt hg_)
  have q_g2_g5 := Nat.ne_of_lt (Nat.lt_of_lt_of_le B2.lt hg_)
  have q_g4_g5 := Nat.ne_of_lt (Nat.lt_of_lt_of_le B4.lt hg_)
  have lo_g5 := Nat.le_trans (H4).size hg_
  refine wput #[.int .u64 ((ofL (tgL F x y 100)).1), .int .u64 ((ofL (tgL F x y 100)).2)] row_impl_Cells B5 (by rfl) (by rfl) (by kernel_rfl) ?_
  intro w8 B5_ X1
  clear B5; have B5 := B5_; clear B5_
  refine wv (.int .i64 (ofC (tgL F x y 100))) ?_
  refine wpList_nil (then_normal ?_)
  refine wsr ?_
  have H5 := X1.ext w lo_g5 (H4.trans E7)
  replace B1 := X1.blk (B1.ext E7) q_g1_g5
  replace B2 := X1.blk (B2.ext E7) q_g2_g5
  replace B4 := X1.blk (B4.ext E7) q_g4_g5
  refine wbsl 0 #[] slt__int64 ?_
  intro g6 w9 B6 E8 hg_
  have q_g1_g6 := Nat.ne_of_lt (Nat.lt_of_lt_of_le B1.lt hg_)
  have q_g2_g6 := Nat.ne_of_lt (Nat.lt_of_lt_of_le B2.lt hg_)
  have q_g4_g6 := Nat.ne_of_lt (Nat.lt_of_lt_of_le B4.lt hg_)
  have q_g5_g6 := Nat.ne_of_lt (Nat.lt_of_lt_of_le B5.lt hg_)
  have lo_g6 := Nat.le_trans (H5).size hg_
  have S3 : SlI #[] 0 0 .i64 [] := SlI.nil
  refine wv (.slice (some ⟨g6, 0, none⟩) 0 0) ?_
  refine wpList_nil (then_normal ?_)
  refine wp_seq ?_
  refine wp_block ?_
  replace B1 := B1.ext E8
  replace B2 := B2.ext E8
  replace B4 := B4.ext E8
  replace B5 := B5.ext E8
  have H6 := H5.trans E8
  refine wp_loop_k (fun m1 a wl1 => ∃ (o_ : List Int) (s_ : Int × Int) (go : Nat) (no : Nat) (capo : Nat) (cso : Array Value), m1 = 21 - o_.length ∧ grI F w0 l x y o_ s_ ∧ SlI cso no capo .i64 o_ ∧ w.heap.size ≤ go ∧ g1 ≠ go ∧ g2 ≠ go ∧ g4 ≠ go ∧ g5 ≠ go ∧ Ext w wl1 ∧ Blk wl1 g1 29 F.cells ∧ Blk wl1 g2 33 #[.int .u64 x, .int .u64 y] ∧ Blk wl1 g4 2 cs1 ∧ Blk wl1 g5 33 #[.int .u64 s_.1, .int .u64 s_.2] ∧ Blk wl1 go 2 cso ∧ (∃ J1 : Nat → Value, a = ⟨#[.agg F.cells, .int .i64 w0, .int .i64 l, .agg #[.int .u64 x, .int .u64 y], .pointer (some ⟨g1, 0, none⟩), undef, undef, .pointer (some ⟨g2, 0, none⟩), J1 8, J1 9, .int .i64 (code F (inB w0 1 1000 && inB l 1 1000)), .pointer (some ⟨g5, 0, none⟩), .int .i64 (ofC (tgL F x y 100)), .slice (some ⟨go, 0, none⟩) no capo, J1 14, J1 15, J1 16, J1 17, .int .i64 w0, .int .i64 l, .int .i64 (code F (inB w0 1 1000 && inB l 1 1000)), .int .i64 (code F (inB w0 1 1000 && inB l 1 1000)), .bool ((code F (inB w0 1 1000 && inB l 1 1000)) != 0), undef, undef, .tuple #[.agg #[.int .u64 ((ofL (tgL F x y 100)).1), .int .u64 ((ofL (tgL F x y 100)).2)], .int .i64 (ofC (tgL F x y 100))], .slice (some ⟨g4, 0, none⟩) ((tgL F x y 100).length) cap1, .tuple #[.agg #[.int .u64 ((ofL (tgL F x y 100)).1), .int .u64 ((ofL (tgL F x y 100)).2)], .int .i64 (ofC (tgL F x y 100))], .agg #[.int .u64 ((ofL (tgL F x y 100)).1), .int .u64 ((ofL (tgL F x y 100)).2)], .int .i64 (ofC (tgL F x y 100)), .slice (some ⟨g6, 0, none⟩) 0 0, J1 31, J1 32, J1 33, J1 34, J1 35, J1 36, J1 37, J1 38, J1 39, J1 40, J1 41, J1 42, J1 43, J1 44, J1 45, J1 46, J1 47, J1 48, J1 49, J1 50, J1 51, J1 52, J1 53, J1 54, J1 55, J1 56, J1 57, J1 58, J1 59, J1 60, J1 61, J1 62, J1 63, J1 64, J1 65, J1 66, J1 67, undef], []⟩)) (21) ?_ ?_
  ·refine ⟨([] : List Int), ((ofL (tgL F x y 100)).1, (ofL (tgL F x y 100)).2), g6, 0, 0, #[], rfl, ?_, ?_, ?_, ?_, ?_, ?_, ?_, H6, B1, B2, B4, B5, B6, exJ (by kernel_rfl)⟩
   ·first | exact grI_0 hwx hwy | (rw [ofL_tg hwx hwy]; exact grI_0 hwx hwy)
   ·refine S3.of_eq ?_
    rfl
   ·exact lo_g6
   ·exact q_g1_g6
   ·exact q_g2_g6
   ·exact q_g4_g6
   ·exact q_g5_g6
  intro m1 a wl1 hI
  obtain ⟨o_, s_, go, no, capo, cso, rfl, hI, So, lo_go, n_g1_go, n_g2_go, n_g4_go, n_g5_go, HL1, B1, B2, B4, B5, Bo, J1, rfl⟩ := hI
  have hl_ := hI.2.1
  have len_So := So.len
  refine wp_seq ?_
  refine wsr ?_
  refine wrow row_impl_Cells B5 (by rfl) ?_
  refine wcl (sCountCells_any s_.1 s_.2 _) ?_
  intro w10 E9
  refine wv (.bool (decide (0 < ((listL s_.1 s_.2).length : Int)))) ?_
  refine wpList_nil (then_normal ?_)
  have H7 := HL1.trans E9
  refine wsplit (decide (0 < ((listL s_.1 s_.2).length : Int))) (fun h2 => ?_) (fun h2 => ?_)
  ·skip
   have h2d := dT h2
   refine wp_skip ?_
   refine then_normal ?_
   refine wp_block ?_
   refine wsr ?_
   refine wv (.int .i64 (-1)) ?_
   refine wpList_nil (then_normal ?_)
   refine wsr ?_
   refine wv (.int .i64 0) ?_
   refine wpList_nil (then_normal ?_)
   refine wp_seq ?_
   refine wsr ?_
   refine wv (.int .i64 0) ?_
   refine wpList_nil (then_normal ?_)
   refine wp_block ?_
   replace B1 := B1.ext E9
   replace B2 := B2.ext E9
   replace B4 := B4.ext E9
   replace B5 := B5.ext E9
   replace Bo := Bo.ext E9
   refine wp_loop_k (fun m2 a wl2 => ∃ (j : Nat) (bm : Int × Int), m2 = 100 - j ∧ j ≤ 100 ∧ bm = grC F w0 l s_ j ∧ -1 ≤ bm.1 ∧ bm.1 ≤ 99 ∧ Ext w wl2 ∧ Blk wl2 g1 29 F.cells ∧ Blk wl2 g2 33 #[.int .u64 x, .int .u64 y] ∧ Blk wl2 g4 2 cs1 ∧ Blk wl2 g5 33 #[.int .u64 s_.1, .int .u64 s_.2] ∧ Blk wl2 go 2 cso ∧ (∃ J2 : Nat → Value, a = ⟨#[.agg F.cells, .int .i64 w0, .int .i64 l, .agg #[.int .u64 x, .int .u64 y], .pointer (some ⟨g1, 0, none⟩), undef, undef, .pointer (some ⟨g2, 0, none⟩), J1 8, J1 9, .int .i64 (code F (inB w0 1 1000 && inB l 1 1000)), .pointer (some ⟨g5, 0, none⟩), .int .i64 (ofC (tgL F x y 100)), .slice (some ⟨go, 0, none⟩) no capo, .int .i64 bm.1, .int .i64 bm.2, .int .i64 (j : Int), J2 17, .int .i64 w0, .int .i64 l, .int .i64 (code F (inB w0 1 1000 && inB l 1 1000)), .int .i64 (code F (inB w0 1 1000 && inB l 1 1000)), .bool ((code F (inB w0 1 1000 && inB l 1 1000)) != 0), undef, undef, .tuple #[.agg #[.int .u64 ((ofL (tgL F x y 100)).1), .int .u64 ((ofL (tgL F x y 100)).2)], .int .i64 (ofC (tgL F x y 100))], .slice (some ⟨g4, 0, none⟩) ((tgL F x y 100).length) cap1, .tuple #[.agg #[.int .u64 ((ofL (tgL F x y 100)).1), .int .u64 ((ofL (tgL F x y 100)).2)], .int .i64 (ofC (tgL F x y 100))], .agg #[.int .u64 ((ofL (tgL F x y 100)).1), .int .u64 ((ofL (tgL F x y 100)).2)], .int .i64 (ofC (tgL F x y 100)), .slice (some ⟨g6, 0, none⟩) 0 0, .agg #[.int .u64 s_.1, .int .u64 s_.2], .int .i64 ((listL s_.1 s_.2).length : Int), .bool (decide (0 < ((listL s_.1 s_.2).length : Int))), J2 34, J2 35, J2 36, J2 37, J2 38, J2 39, J2 40, J2 41, J2 42, J2 43, J2 44, J2 45, J2 46, J2 47, J2 48, J2 49, J1 50, J1 51, J1 52, J1 53, J1 54, J1 55, J1 56, J1 57, J1 58, J1 59, J1 60, J1 61, J1 62, J1 63, J1 64, J1 65, J1 66, J1 67, undef], []⟩)) (100) ?_ ?_
   ·refine ⟨0, (-1, 0), rfl, ?_, ?_, ?_, ?_, H7, B1, B2, B4, B5, Bo, exJ (by kernel_rfl)⟩
    ·omega
    ·exact grC_0
    ·exact Int.le_refl _
    ·show (-1 : Int) ≤ 99; omega
   intro m2 a wl2 hI
   obtain ⟨j, bm, rfl, hi_, hbm, hbr, hbs, HL2, B1, B2, B4, B5, Bo, J2, rfl⟩ := hI
   refine wp_seq ?_
   refine wsr ?_
   refine wv (.int .i64 (j : Int)) ?_
   refine wv (.bool (decide ((j : Int) < 100))) ?_
   refine wpList_nil (then_normal ?_)
   refine wsplit (decide ((j : Int) < 100)) (fun h3 => ?_) (fun h3 => ?_)
   ·skip
    have h3d := dT h3
    refine wp_skip ?_
    refine then_normal ?_
    refine wp_seq ?_
    refine wp_block ?_
    refine wp_seq ?_
    refine wp_frame (a' := ⟨#[.agg F.cells, .int .i64 w0, .int .i64 l, .agg #[.int .u64 x, .int .u64 y], .pointer (some ⟨g1, 0, none⟩), undef, undef, .pointer (some ⟨g2, 0, none⟩), J1 8, J1 9, .int .i64 (code F (inB w0 1 1000 && inB l 1 1000)), .pointer (some ⟨g5, 0, none⟩), .int .i64 (ofC (tgL F x y 100)), .slice (some ⟨go, 0, none⟩) no capo, .int .i64 bm.1, .int .i64 bm.2, .int .i64 (j : Int), J2 17, .int .i64 w0, .int .i64 l, .int .i64 (code F (inB w0 1 1000 && inB l 1 1000)), .int .i64 (code F (inB w0 1 1000 && inB l 1 1000)), .bool ((code F (inB w0 1 1000 && inB l 1 1000)) != 0), undef, undef, .tuple #[.agg #[.int .u64 ((ofL (tgL F x y 100)).1), .int .u64 ((ofL (tgL F x y 100)).2)], .int .i64 (ofC (tgL F x y 100))], .slice (some ⟨g4, 0, none⟩) ((tgL F x y 100).length) cap1, .tuple #[.agg #[.int .u64 ((ofL (tgL F x y 100)).1), .int .u64 ((ofL (tgL F x y 100)).2)], .int .i64 (ofC (tgL F x y 100))], .agg #[.int .u64 ((ofL (tgL F x y 100)).1), .int .u64 ((ofL (tgL F x y 100)).2)], .int .i64 (ofC (tgL F x y 100)), .slice (some ⟨g6, 0, none⟩) 0 0, .agg #[.int .u64 s_.1, .int .u64 s_.2], .int .i64 ((listL s_.1 s_.2).length : Int), .bool (decide (0 < ((listL s_.1 s_.2).length : Int))), .int .i64 (j : Int), .bool (decide ((j : Int) < 100)), J2 36, J2 37, J2 38, J2 39, J2 40, J2 41, J2 42, J2 43, J2 44, J2 45, J2 46, J2 47, J2 48, J2 49, J1 50, J1 51, J1 52, J1 53, J1 54, J1 55, J1 56, J1 57, J1 58, J1 59, J1 60, J1 61, J1 62, J1 63, J1 64, J1 65, J1 66, J1 67, undef], []⟩) (by kernel_rfl) ?_
    refine region_go 8 [38, 39, 40, 41, 42, 43, 44, 17] [[], [], [], [0, 1, 2], [], [3, 4], [5], [6]]
     (fun i_ => ([.val (.int .i64 (j : Int)), .val (.int .i64 w0), .val (.int .i64 l), .val (.agg #[.int .u64 ((cvP F w0 l (j : Int)).1), .int .u64 ((cvP F w0 l (j : Int)).2)]), .val (.agg #[.int .u64 s_.1, .int .u64 s_.2]), .val (.agg #[.int .u64 (bo0 ((cvP F w0 l (j : Int)).1) s_.1), .int .u64 (bo1 ((cvP F w0 l (j : Int)).2) s_.2)]), .val (.int .i64 ((listL (bo0 ((cvP F w0 l (j : Int)).1) s_.1) (bo1 ((cvP F w0 l (j : Int)).2) s_.2)).length : Int)), .val (.int .i64 ((listL (bo0 ((cvP F w0 l (j : Int)).1) s_.1) (bo1 ((cvP F w0 l (j : Int)).2) s_.2)).length : Int))] : List Fct).getD i_ .any)
     (by kernel_rfl) (by kernel_rfl) (by decide) (by simp) rfl (all_succ (all_succ (all_succ (all_succ (all_succ (all_succ (all_succ (all_succ all_zero ?_) ?_) ?_) ?_) ?_) ?_) ?_) ?_) ?_
    ·refine step0 rfl rfl rfl (fun wr hw => ?_)
     exact OpRun.val (.int .i64 (j : Int)) (.int .i64 (j : Int)) (by kernel_rfl) rfl ⟨Ext.refl _, rfl⟩
    ·refine step0 rfl rfl rfl (fun wr hw => ?_)
     exact OpRun.val (.int .i64 w0) (.int .i64 w0) (by kernel_rfl) rfl ⟨Ext.refl _, rfl⟩
    ·refine step0 rfl rfl rfl (fun wr hw => ?_)
     exact OpRun.val (.int .i64 l) (.int .i64 l) (by kernel_rfl) rfl ⟨Ext.refl _, rfl⟩
    ·refine step3 rfl rfl rfl rfl rfl rfl (fun u0 u1 u2 wr hw h0 h1 h2 => ?_)
     cases h0
     cases h1
     cases h2
     exact OpRun.call 43 #[.pointer (some ⟨g1, 0, none⟩), .int .i64 (j : Int), .int .i64 w0, .int .i64 l] (by kernel_rfl) ((l03Cover_all F hF g1 _ (j : Int) w0 l (by omega) (by omega) _ (B1.ext hw)).mono fun e w1 ⟨he, hb⟩ => ⟨_, he, hb, rfl⟩)
    ·refine step0 rfl rfl rfl (fun wr hw => ?_)
     with_reducible refine OpRun.row (x := (.tmp 11)) row_impl_Cells (B5.ext hw) ?_ ?_ ?_ ?_
     ·rfl
     ·rfl
     ·kernel_rfl
     ·exact ⟨Ext.refl _, rfl⟩
    ·refine step2 rfl rfl rfl rfl rfl (fun u0 u1 wr hw h0 h1 => ?_)
     cases h0
     cases h1
     exact OpRun.call 42 #[.agg #[.int .u64 ((cvP F w0 l (j : Int)).1), .int .u64 ((cvP F w0 l (j : Int)).2)], .agg #[.int .u64 s_.1, .int .u64 s_.2]] (by kernel_rfl) ((sBoth_any ((cvP F w0 l (j : Int)).1) ((cvP F w0 l (j : Int)).2) s_.1 s_.2 (by first | assumption | exact okP.w2 (setC_ok 100 (Nat.le_refl _)) | exact okP.w2 hI.1 | exact okP.w2 hU.1 | exact okP.w2 (cvP_ok _)) (by first | assumption | exact okP.w2 (setC_ok 100 (Nat.le_refl _)) | exact okP.w2 hI.1 | exact okP.w2 hU.1 | exact okP.w2 (cvP_ok _)) _).mono fun e w1 ⟨he, hb⟩ => ⟨_, he, hb, rfl⟩)
    ·refine step1 rfl rfl rfl rfl (fun u0 wr hw h0 => ?_)
     cases h0
     exact OpRun.call 41 #[.agg #[.int .u64 (bo0 ((cvP F w0 l (j : Int)).1) s_.1), .int .u64 (bo1 ((cvP F w0 l (j : Int)).2) s_.2)]] (by kernel_rfl) ((sCountCells_any (bo0 ((cvP F w0 l (j : Int)).1) s_.1) (bo1 ((cvP F w0 l (j : Int)).2) s_.2) _).mono fun e w1 ⟨he, hb⟩ => ⟨_, he, hb, rfl⟩)
    ·refine step1 rfl rfl rfl rfl (fun u0 wr hw h0 => ?_)
     cases h0
     exact OpRun.val (.int .i64 ((listL (bo0 ((cvP F w0 l (j : Int)).1) s_.1) (bo1 ((cvP F w0 l (j : Int)).2) s_.2)).length : Int)) (.int .i64 ((listL (bo0 ((cvP F w0 l (j : Int)).1) s_.1) (bo1 ((cvP F w0 l (j : Int)).2) s_.2)).length : Int)) (by kernel_rfl) rfl ⟨Ext.refl _, rfl⟩
    refine end8 (fun u0 u1 u2 u3 u4 u5 u6 u7 w11 E10 f0 f1 f2 f3 f4 f5 f6 f7 => ?_)
    cases f0
    cases f1
    cases f2
    cases f3
    cases f4
    cases f5
    cases f6
    cases f7
    refine wpList_nil (then_normal ?_)
    refine wsr ?_
    refine wv (.int .i64 ((listL (bo0 ((cvP F w0 l (j : Int)).1) s_.1) (bo1 ((cvP F w0 l (j : Int)).2) s_.2)).length : Int)) ?_
    refine wv (.int .i64 bm.2) ?_
    refine wv (.bool (decide (bm.2 < ((listL (bo0 ((cvP F w0 l (j : Int)).1) s_.1) (bo1 ((cvP F w0 l (j : Int)).2) s_.2)).length : Int)))) ?_
    refine wpList_nil (then_normal ?_)
    have H8 := HL2.trans E10
    refine wsplit (decide (bm.2 < ((listL (bo0 ((cvP F w0 l (j : Int)).1) s_.1) (bo1 ((cvP F w0 l (j : Int)).2) s_.2)).length : Int))) (fun h4 => ?_) (fun h4 => ?_)
    ·skip
     have h4d := dT h4
     refine wsr ?_
     refine wv (.int .i64 (j : Int)) ?_
     refine wv (.int .i64 (j : Int)) ?_
     refine wpList_nil (then_normal ?_)
     refine wp_region_lit ?_
     refine wv (.int .i64 ((listL (bo0 ((cvP F w0 l (j : Int)).1) s_.1) (bo1 ((cvP F w0 l (j : Int)).2) s_.2)).length : Int)) ?_
     refine wv (.int .i64 ((listL (bo0 ((cvP F w0 l (j : Int)).1) s_.1) (bo1 ((cvP F w0 l (j : Int)).2) s_.2)).length : Int)) ?_
     refine wpList_nil (block_normal (then_normal ?_))
     refine wp_region_lit ?_
     refine wv (.int .i64 (j : Int)) ?_
     refine wi64 ((j : Int) + 1) ?_
     refine wv (.int .i64 ((j : Int) + 1)) ?_
     refine wpList_nil (then_normal ?_)
     replace B1 := B1.ext E10
     replace B2 := B2.ext E10
     replace B4 := B4.ext E10
     replace B5 := B5.ext E10
     replace Bo := Bo.ext E10
     refine ⟨_, ?_, j + 1, ((j : Int), ((listL (bo0 ((cvP F w0 l (j : Int)).1) s_.1) (bo1 ((cvP F w0 l (j : Int)).2) s_.2)).length : Int)), rfl, ?_, ?_, ?_, ?_, H8, B1, B2, B4, B5, Bo, exJ (by kernel_rfl)⟩
     ·omega
     ·omega
     ·first | exact grC_y' hI.1 hbm (by assumption) | exact grC_n' hI.1 hbm (by assumption)
     ·first | exact hbr | (simp only; omega)
     ·first | exact hbs | (simp only; omega)
    ·skip
     have h4d := dF h4
     refine wp_skip ?_
     refine block_normal (then_normal ?_)
     refine wp_region_lit ?_
     refine wv (.int .i64 (j : Int)) ?_
     refine wi64 ((j : Int) + 1) ?_
     refine wv (.int .i64 ((j : Int) + 1)) ?_
     refine wpList_nil (then_normal ?_)
     replace B1 := B1.ext E10
     replace B2 := B2.ext E10
     replace B4 := B4.ext E10
     replace B5 := B5.ext E10
     replace Bo := Bo.ext E10
     refine ⟨_, ?_, j + 1, bm, rfl, ?_, ?_, ?_, ?_, H8, B1, B2, B4, B5, Bo, exJ (by kernel_rfl)⟩
     ·omega
     ·omega
     ·first | exact grC_y' hI.1 hbm (by assumption) | exact grC_n' hI.1 hbm (by assumption)
     ·first | exact hbr | (simp only; omega)
     ·first | exact hbs | (simp only; omega)
   ·skip
    have h3d := dF h3
    refine wp_exit ?_
    refine then_exit ?_
    refine then_exit ?_
    refine block_exit ?_
    refine then_normal ?_
    refine wp_seq ?_
    refine wsr ?_
    refine wv (.int .i64 bm.1) ?_
    refine wv (.bool (decide (bm.1 < 0))) ?_
    refine wv (.bool (decide (bm.1 < 0))) ?_
    refine split_bool (decide (bm.1 < 0)) (fun h5 => ?_) (fun h5 => ?_)
    ·skip
     refine wbl 52 true h5 ?_
     have h5d := dT h5
     refine wsk ?_
     refine wsk ?_
     refine wsk ?_
     refine wv (.bool true) ?_
     refine wpList_nil (then_normal ?_)
     refine wct ?_
     refine wsr ?_
     refine wbsl 0 #[] slt__int64 ?_
     intro g7 w12 B7 E11 hg_
     have q_g1_g7 := Nat.ne_of_lt (Nat.lt_of_lt_of_le B1.lt hg_)
     have q_g2_g7 := Nat.ne_of_lt (Nat.lt_of_lt_of_le B2.lt hg_)
     have q_g4_g7 := Nat.ne_of_lt (Nat.lt_of_lt_of_le B4.lt hg_)
     have q_g5_g7 := Nat.ne_of_lt (Nat.lt_of_lt_of_le B5.lt hg_)
     have q_go_g7 := Nat.ne_of_lt (Nat.lt_of_lt_of_le Bo.lt hg_)
     have lo_g7 := Nat.le_trans (HL2).size hg_
     have S4 : SlI #[] 0 0 .i64 [] := SlI.nil
     refine wv (.slice (some ⟨g7, 0, none⟩) 0 0) ?_
     refine wv (.int .i64 6) ?_
     refine wpList_nil (then_normal ?_)
     refine wp_ret ?_
     refine then_ret (block_ret (then_ret (block_ret (then_ret ?_))))
     refine ret2 (.slice (some ⟨g7, 0, none⟩) 0 0) (.int .i64 6) rfl ?_ ?_ rfl ?_
     ·exact resT (by kernel_rfl)
     ·exact resT (by kernel_rfl)
     have H9 := HL2.trans E11
     have ec_ : (6 : Int) = grK F w0 l x y := by first | exact (grK_n (by assumption)).symm | exact grK_b (by assumption) hI (by first | assumption | exact cn_t hI.1 (by assumption)) (grC_e (by omega) hbm) (by omega)
     rw [ec_]
     exact .inr ⟨(by first | exact grK_n' (by assumption) | (rw [← ec_]; decide)), g7, 0, 0, #[], rfl, B7, S4, H9, lo_g7⟩
    ·skip
     refine wbl 52 false h5 ?_
     have h5d := dF h5
     refine wv (.slice (some ⟨go, 0, none⟩) no capo) ?_
     refine wv (.int .i64 (no : Int)) ?_
     refine wv (.bool ((no : Int) == 20)) ?_
     refine wv (.bool ((no : Int) == 20)) ?_
     refine wpList_nil (then_normal ?_)
     refine wsplit ((no : Int) == 20) (fun h6 => ?_) (fun h6 => ?_)
     ·skip
      have h6d := eT h6
      refine wsr ?_
      refine wbsl 0 #[] slt__int64 ?_
      intro g8 w13 B8 E12 hg_
      have q_g1_g8 := Nat.ne_of_lt (Nat.lt_of_lt_of_le B1.lt hg_)
      have q_g2_g8 := Nat.ne_of_lt (Nat.lt_of_lt_of_le B2.lt hg_)
      have q_g4_g8 := Nat.ne_of_lt (Nat.lt_of_lt_of_le B4.lt hg_)
      have q_g5_g8 := Nat.ne_of_lt (Nat.lt_of_lt_of_le B5.lt hg_)
      have q_go_g8 := Nat.ne_of_lt (Nat.lt_of_lt_of_le Bo.lt hg_)
      have lo_g8 := Nat.le_trans (HL2).size hg_
      have S5 : SlI #[] 0 0 .i64 [] := SlI.nil
      refine wv (.slice (some ⟨g8, 0, none⟩) 0 0) ?_
      refine wv (.int .i64 6) ?_
      refine wpList_nil (then_normal ?_)
      refine wp_ret ?_
      refine then_ret (block_ret (then_ret (block_ret (then_ret ?_))))
      refine ret2 (.slice (some ⟨g8, 0, none⟩) 0 0) (.int .i64 6) rfl ?_ ?_ rfl ?_
      ·exact resT (by kernel_rfl)
      ·exact resT (by kernel_rfl)
      have H10 := HL2.trans E12
      have ec_ : (6 : Int) = grK F w0 l x y := by first | exact (grK_n (by assumption)).symm | exact grK_b (by assumption) hI (by first | assumption | exact cn_t hI.1 (by assumption)) (grC_e (by omega) hbm) (by omega)
      rw [ec_]
      exact .inr ⟨(by first | exact grK_n' (by assumption) | (rw [← ec_]; decide)), g8, 0, 0, #[], rfl, B8, S5, H10, lo_g8⟩
     ·skip
      have h6d := eF h6
      refine wp_skip ?_
      refine then_normal ?_
      refine wsr ?_
      refine wv (.slice (some ⟨go, 0, none⟩) no capo) ?_
      refine wv (.int .i64 bm.1) ?_
      refine wbsl 1 #[.int .i64 bm.1] slt__int64 ?_
      intro g9 w14 B9 E13 hg_
      have q_g1_g9 := Nat.ne_of_lt (Nat.lt_of_lt_of_le B1.lt hg_)
      have q_g2_g9 := Nat.ne_of_lt (Nat.lt_of_lt_of_le B2.lt hg_)
      have q_g4_g9 := Nat.ne_of_lt (Nat.lt_of_lt_of_le B4.lt hg_)
      have q_g5_g9 := Nat.ne_of_lt (Nat.lt_of_lt_of_le B5.lt hg_)
      have q_go_g9 := Nat.ne_of_lt (Nat.lt_of_lt_of_le Bo.lt hg_)
      have lo_g9 := Nat.le_trans (HL2).size hg_
      replace B1 := B1.ext E13
      replace B2 := B2.ext E13
      replace B4 := B4.ext E13
      replace B5 := B5.ext E13
      replace Bo := Bo.ext E13
      have H11 := HL2.trans E13
      refine wappi bm.1 slt__int64 Bo So B9 ?_
      intro g10 cap2 cs2 w15 B10 S6 X2 or1
      have n_g1_g10 := ne_app B1 n_g1_go or1
      have n_g2_g10 := ne_app B2 n_g2_go or1
      have n_g4_g10 := ne_app B4 n_g4_go or1
      have n_g5_g10 := ne_app B5 n_g5_go or1
      have n_g9_g10 := ne_app B9 (Ne.symm q_go_g9) or1
      have lo_g10 := Wr.lo or1 lo_go (H11).size
      refine wv (.slice (some ⟨g10, 0, none⟩) (no + 1) cap2) ?_
      refine wpList_nil (then_normal ?_)
      refine wp_frame (a' := ⟨#[.agg F.cells, .int .i64 w0, .int .i64 l, .agg #[.int .u64 x, .int .u64 y], .pointer (some ⟨g1, 0, none⟩), undef, undef, .pointer (some ⟨g2, 0, none⟩), J1 8, J1 9, .int .i64 (code F (inB w0 1 1000 && inB l 1 1000)), .pointer (some ⟨g5, 0, none⟩), .int .i64 (ofC (tgL F x y 100)), .slice (some ⟨g10, 0, none⟩) (no + 1) cap2, .int .i64 bm.1, .int .i64 bm.2, .int .i64 (j : Int), J2 17, .int .i64 w0, .int .i64 l, .int .i64 (code F (inB w0 1 1000 && inB l 1 1000)), .int .i64 (code F (inB w0 1 1000 && inB l 1 1000)), .bool ((code F (inB w0 1 1000 && inB l 1 1000)) != 0), undef, undef, .tuple #[.agg #[.int .u64 ((ofL (tgL F x y 100)).1), .int .u64 ((ofL (tgL F x y 100)).2)], .int .i64 (ofC (tgL F x y 100))], .slice (some ⟨g4, 0, none⟩) ((tgL F x y 100).length) cap1, .tuple #[.agg #[.int .u64 ((ofL (tgL F x y 100)).1), .int .u64 ((ofL (tgL F x y 100)).2)], .int .i64 (ofC (tgL F x y 100))], .agg #[.int .u64 ((ofL (tgL F x y 100)).1), .int .u64 ((ofL (tgL F x y 100)).2)], .int .i64 (ofC (tgL F x y 100)), .slice (some ⟨g6, 0, none⟩) 0 0, .agg #[.int .u64 s_.1, .int .u64 s_.2], .int .i64 ((listL s_.1 s_.2).length : Int), .bool (decide (0 < ((listL s_.1 s_.2).length : Int))), .int .i64 (j : Int), .bool (decide ((j : Int) < 100)), J2 36, J2 37, J2 38, J2 39, J2 40, J2 41, J2 42, J2 43, J2 44, J2 45, J2 46, J2 47, J2 48, J2 49, .int .i64 bm.1, .bool (decide (bm.1 < 0)), .bool false, .slice (some ⟨go, 0, none⟩) no capo, .int .i64 (no : Int), .bool ((no : Int) == 20), .bool ((no : Int) == 20), J1 57, .slice (some ⟨go, 0, none⟩) no capo, .int .i64 bm.1, .slice (some ⟨g9, 0, none⟩) 1 1, .slice (some ⟨g10, 0, none⟩) (no + 1) cap2, J1 62, J1 63, J1 64, J1 65, J1 66, J1 67, undef], []⟩) (by kernel_rfl) ?_
      replace B5 := X2.blk B5 n_g5_go
      replace B1 := X2.blk B1 n_g1_go
      refine region_go 6 [62, 63, 64, 65, 66, 67] [[], [], [], [], [1, 2, 3], [0, 4]]
       (fun i_ => ([.val (.agg #[.int .u64 s_.1, .int .u64 s_.2]), .val (.int .i64 bm.1), .val (.int .i64 w0), .val (.int .i64 l), .val (.agg #[.int .u64 ((cvP F w0 l bm.1).1), .int .u64 ((cvP F w0 l bm.1).2)]), .val (.agg #[.int .u64 (wo0 s_.1 ((cvP F w0 l bm.1).1)), .int .u64 (wo1 s_.2 ((cvP F w0 l bm.1).2))])] : List Fct).getD i_ .any)
       (by kernel_rfl) (by kernel_rfl) (by decide) (by simp) rfl (all_succ (all_succ (all_succ (all_succ (all_succ (all_succ all_zero ?_) ?_) ?_) ?_) ?_) ?_) ?_
      ·refine step0 rfl rfl rfl (fun wr hw => ?_)
       with_reducible refine OpRun.row (x := (.tmp 11)) row_impl_Cells (B5.ext hw) ?_ ?_ ?_ ?_
       ·rfl
       ·rfl
       ·kernel_rfl
       ·exact ⟨Ext.refl _, rfl⟩
      ·refine step0 rfl rfl rfl (fun wr hw => ?_)
       exact OpRun.val (.int .i64 bm.1) (.int .i64 bm.1) (by kernel_rfl) rfl ⟨Ext.refl _, rfl⟩
      ·refine step0 rfl rfl rfl (fun wr hw => ?_)
       exact OpRun.val (.int .i64 w0) (.int .i64 w0) (by kernel_rfl) rfl ⟨Ext.refl _, rfl⟩
      ·refine step0 rfl rfl rfl (fun wr hw => ?_)
       exact OpRun.val (.int .i64 l) (.int .i64 l) (by kernel_rfl) rfl ⟨Ext.refl _, rfl⟩
      ·refine step3 rfl rfl rfl rfl rfl rfl (fun u0 u1 u2 wr hw h0 h1 h2 => ?_)
       cases h0
       cases h1
       cases h2
       exact OpRun.call 43 #[.pointer (some ⟨g1, 0, none⟩), .int .i64 bm.1, .int .i64 w0, .int .i64 l] (by kernel_rfl) ((l03Cover_all F hF g1 _ bm.1 w0 l (by omega) (by omega) _ (B1.ext hw)).mono fun e w1 ⟨he, hb⟩ => ⟨_, he, hb, rfl⟩)
      ·refine step2 rfl rfl rfl rfl rfl (fun u0 u1 wr hw h0 h1 => ?_)
       cases h0
       cases h1
       exact OpRun.call 44 #[.agg #[.int .u64 s_.1, .int .u64 s_.2], .agg #[.int .u64 ((cvP F w0 l bm.1).1), .int .u64 ((cvP F w0 l bm.1).2)]] (by kernel_rfl) ((sWithout_any s_.1 s_.2 ((cvP F w0 l bm.1).1) ((cvP F w0 l bm.1).2) (by first | assumption | exact okP.w2 (setC_ok 100 (Nat.le_refl _)) | exact okP.w2 hI.1 | exact okP.w2 hU.1 | exact okP.w2 (cvP_ok _)) (by first | assumption | exact okP.w2 (setC_ok 100 (Nat.le_refl _)) | exact okP.w2 hI.1 | exact okP.w2 hU.1 | exact okP.w2 (cvP_ok _)) _).mono fun e w1 ⟨he, hb⟩ => ⟨_, he, hb, rfl⟩)
      refine end6 (fun u0 u1 u2 u3 u4 u5 w16 E14 f0 f1 f2 f3 f4 f5 => ?_)
      cases f0
      cases f1
      cases f2
      cases f3
      cases f4
      cases f5
      replace B5 := B5.ext E14
      refine wput #[.int .u64 (wo0 s_.1 ((cvP F w0 l bm.1).1)), .int .u64 (wo1 s_.2 ((cvP F w0 l bm.1).2))] row_impl_Cells B5 (by rfl) (by rfl) (by kernel_rfl) ?_
      intro w17 B5_ X3
      clear B5; have B5 := B5_; clear B5_
      refine wpList_nil (block_normal (then_normal ?_))
      replace B1 := X3.blk (B1.ext E14) q_g1_g5
      replace B2 := X3.blk ((X2.blk B2 n_g2_go).ext E14) q_g2_g5
      replace B4 := X3.blk ((X2.blk B4 n_g4_go).ext E14) q_g4_g5
      replace B10 := X3.blk (B10.ext E14) (Ne.symm n_g5_g10)
      have H12 := X3.ext w lo_g5 ((X2.ext w lo_go H11).trans E14)
      refine ⟨_, ?_, o_ ++ [bm.1], (wo0 s_.1 ((cvP F w0 l bm.1).1), wo1 s_.2 ((cvP F w0 l bm.1).2)), g10, no + 1, cap2, cs2, rfl, ?_, ?_, ?_, ?_, ?_, ?_, ?_, H12, B1, B2, B4, B5, B10, exJ (by kernel_rfl)⟩
      ·simp only [List.length_append, List.length_singleton]; omega
      ·exact grI_s' hI (by first | assumption | exact cn_t hI.1 (by assumption)) (grC_e (by omega) hbm) (by omega) (by omega)
      ·refine S6.of_eq ?_
       rfl
      ·exact lo_g10
      ·exact n_g1_g10
      ·exact n_g2_g10
      ·exact n_g4_g10
      ·exact n_g5_g10
  ·skip
   have h2d := dF h2
   refine wp_exit ?_
   refine then_exit ?_
   refine then_exit ?_
   refine block_exit ?_
   refine then_normal ?_
   refine wsr ?_
   refine wv (.slice (some ⟨go, 0, none⟩) no capo) ?_
   refine wv (.slice (some ⟨go, 0, none⟩) no capo) ?_
   refine wv (.int .i64 0) ?_
   refine wpList_nil (then_normal ?_)
   refine wp_ret ?_
   refine ret2 (.slice (some ⟨go, 0, none⟩) no capo) (.int .i64 0) rfl ?_ ?_ rfl ?_
   ·exact resT (by kernel_rfl)
   ·exact resT (by kernel_rfl)
   replace Bo := Bo.ext E9
   have hq : o_ = grX F w0 l x y := by
    exact grX_a hI (by first | assumption | exact cn_f hI.1 (by assumption))
   exact .inl ⟨(grK_a (by assumption) hI (by first | assumption | exact cn_f hI.1 (by assumption))), go, no, capo, cso, rfl, Bo, So.of_eq hq, H7, lo_go⟩
end Go.Proofs.Ytgglcebaanomhaa
