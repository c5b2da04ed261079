/-
  Contracts: fields moved. No conditions.
-/
import Derived.Test.YteiplklloajjaaaGreatDoorTy
import Derived.Test.YteiplklloajjaaaGreatDoorSl
import Derived.Test.YteiplklloajjaaaGreatDoorMth
import Derived.Test.YteiplklloajjaaaGreatDoorFn5
import Derived.Test.YteiplklloajjaaaGreatDoorSt
import Derived.Test.YteiplklloajjaaaGreatDoorMv
namespace Go.Proofs.YteiplklloajjaaaGreatDoor
open Go.RowKit
set_option linter.unusedSimpArgs false
set_option linter.unusedVariables false
set_option maxHeartbeats 4000000
set_option maxRecDepth 100000
attribute [local irreducible] wpList Code.wp
--# moved_any
theorem moved_any (F : Fld) (hF : F.wf) (b : Nat) (t : TypeId) (x : Int) (y : Int) (V : Value) (fn : FuncId) (full : Int → Int → Array Value) (q : Int → Int → Int) (hV : ∀ a b, Clo Tryz.prog V #[.int .i64 a, .int .i64 b] fn (full a b)) (hq : ∀ c, isB (fldWH x y) c = true → 0 ≤ q (c % 10) (c / 10) ∧ q (c % 10) (c / 10) ≤ 99) (hx : -128 ≤ x ∧ x ≤ 127) (hy : -128 ≤ y ∧ y ≤ 127) (w : World) (hb : Blk w b t F.cells) (hc : ∀ c, isB (fldWH x y) c = true → ∀ w', Ext w w' → Calls Tryz.prog fn (full (c % 10) (c / 10)) w' fun e w'' => e = .returned (.int .i64 (q (c % 10) (c / 10))) ∧ Ext w' w'') :
 Calls Tryz.prog 33 #[.pointer (some ⟨b, 0, none⟩), .int .i8 x, .int .i8 y, V] w fun e w' => e = .returned (.agg (Fld.cells (mvC F x y q 100))) ∧ Ext w w' := by
 refine calls_of_wp Tryz.func33 rfl ?_
 refine wp_frame (a' := ⟨#[.pointer (some ⟨b, 0, none⟩), .int .i8 x, .int .i8 y, V, undef, undef, undef, undef, undef, undef, undef, undef, undef, undef, undef, undef, undef, undef, undef, undef, undef, undef, undef, undef, undef, undef, undef, undef, undef, undef, undef, undef, undef, undef, undef, undef, undef, undef, undef, undef, undef, undef, undef, undef, undef, undef, undef, undef], []⟩) (by kernel_rfl) ?_
 refine wsr ?_
 refine wnew (Fld.cells Fld.zero) Tryz.zeroValue29 zero_impl_Field ?_
 intro g1 w1 B1 E1 hg_
 have q_b_g1 := Nat.ne_of_lt (Nat.lt_of_lt_of_le hb.lt hg_)
 have lo_g1 := Nat.le_trans ((Ext.refl w)).size hg_
 refine wpList_nil (then_normal ?_)
 refine wsr ?_
 refine wv (.int .i8 x) ?_
 refine wv (.int .i8 y) ?_
 refine wvv (.agg ((Tryz.zeroCells29.setIfInBounds 0 (.int .i8 x)).setIfInBounds 1 (.int .i8 y))) (.agg (Fld.cells (fldWH x y))) (build_wh _ _) ?_
 have H1 := (Ext.refl w).trans E1
 replace hb := hb.ext E1
 refine wnew (Fld.cells Fld.zero) Tryz.zeroValue29 zero_impl_Field ?_
 intro g2 w2 B2 E2 hg_
 have q_b_g2 := Nat.ne_of_lt (Nat.lt_of_lt_of_le hb.lt hg_)
 have q_g1_g2 := Nat.ne_of_lt (Nat.lt_of_lt_of_le B1.lt hg_)
 have lo_g2 := Nat.le_trans (H1).size hg_
 refine wput (Fld.cells (fldWH x y)) row_impl_Field B2 (by exact Fld.size_cells _) (by exact Fld.size_cells _) (by exact Fld.one_cells _) ?_
 intro w3 B2_ X1
 clear B2; have B2 := B2_; clear B2_
 refine wpList_nil (then_normal ?_)
 refine wp_seq ?_
 refine wsr ?_
 replace hb := X1.blk (hb.ext E2) q_b_g2
 replace B1 := X1.blk (B1.ext E2) q_g1_g2
 have H2 := X1.ext w lo_g2 (H1.trans E2)
 refine wcli (cells_any (fldWH x y) (wh8 (by omega) (by omega)) g2 _ _ B2) ?_
 intro g3 cap1 cs1 w4 B3 S1 E3 hg_
 have q_b_g3 := Nat.ne_of_lt (Nat.lt_of_lt_of_le hb.lt hg_)
 have q_g1_g3 := Nat.ne_of_lt (Nat.lt_of_lt_of_le B1.lt hg_)
 have q_g2_g3 := Nat.ne_of_lt (Nat.lt_of_lt_of_le B2.lt hg_)
 have lo_g3 := Nat.le_trans (H2).size hg_
 have cl1 := cellsL_length (fldWH x y)
 refine wv (.int .i64 ((cellsL (fldWH x y)).length : Int)) ?_
 refine wv (.int .i64 0) ?_
 refine wpList_nil (then_normal ?_)
 refine wp_block ?_
 replace hb := hb.ext E3
 replace B1 := B1.ext E3
 replace B2 := B2.ext E3
 have H3 := H2.trans E3
 refine wp_loop_k (fun m1 a wl1 => ∃ (j : Nat), m1 = (cellsL (fldWH x y)).length - j ∧ j ≤ (cellsL (fldWH x y)).length ∧ Ext w wl1 ∧ Blk wl1 b t F.cells ∧ Blk wl1 g1 29 (Fld.cells Fld.zero) ∧ Blk wl1 g2 29 (Fld.cells (mvT F x y q j)) ∧ Blk wl1 g3 2 cs1 ∧ (∃ J1 : Nat → Value, a = ⟨#[.pointer (some ⟨b, 0, none⟩), .int .i8 x, .int .i8 y, V, undef, undef, undef, undef, .pointer (some ⟨g1, 0, none⟩), .pointer (some ⟨g2, 0, none⟩), undef, J1 11, J1 12, .int .i8 x, .int .i8 y, .agg (Fld.cells (fldWH x y)), .slice (some ⟨g3, 0, none⟩) ((cellsL (fldWH x y)).length) cap1, .int .i64 ((cellsL (fldWH x y)).length : Int), .int .i64 (j : Int), J1 19, J1 20, J1 21, J1 22, J1 23, J1 24, J1 25, J1 26, J1 27, J1 28, J1 29, J1 30, J1 31, J1 32, J1 33, J1 34, J1 35, J1 36, J1 37, J1 38, J1 39, J1 40, J1 41, J1 42, J1 43, J1 44, J1 45, J1 46, undef], []⟩)) ((cellsL (fldWH x y)).length) ?_ ?_
 · refine ⟨0, rfl, ?_, H3, hb, B1, ?_, B3, exJ (by kernel_rfl)⟩
   · omega
   · rw [mvT_0]; exact B2
 intro m1 a wl1 hI
 obtain ⟨j, rfl, hi_, HL1, hb, B1, B2, B3, J1, rfl⟩ := hI
 have jq_ : j < (cellsL (fldWH x y)).length → _ := fun h_ => hq _ (cellsL_is h_)
 refine wsr ?_
 refine wv (.bool (decide ((j : Int) < ((cellsL (fldWH x y)).length : Int)))) ?_
 refine wpList_nil (then_normal ?_)
 refine wp_seq ?_
 refine wsplit (decide ((j : Int) < ((cellsL (fldWH x y)).length : Int))) (fun h1 => ?_) (fun h1 => ?_)
 · skip
   have h1d := dT h1
   refine wp_skip ?_
   refine then_normal ?_
   refine wp_seq ?_
   refine wp_block ?_
   refine wsr ?_
   refine wsix1 g3 0 ((cellsL (fldWH x y)).length) cap1 j .i64 slit__int64 ?_
   have ce1 := cellsL_in (F := (fldWH x y)) (j := j) (by omega)
   have ci1 := cellsL_is (F := (fldWH x y)) (j := j) (by omega)
   refine wld g3 (0 + j) scal_int64 (B3.get (SlI.get S1 (by omega))) ?_
   refine wv (.int .i64 (atI (cellsL (fldWH x y)) j)) ?_
   refine wpList_nil (then_normal ?_)
   refine wsr ?_
   refine wv V ?_
   refine wv (.int .i64 (atI (cellsL (fldWH x y)) j)) ?_
   refine wrem (atI (cellsL (fldWH x y)) j) 10 ?_
   refine wv (.int .i64 (atI (cellsL (fldWH x y)) j)) ?_
   refine wquo (atI (cellsL (fldWH x y)) j) 10 ?_
   refine wcl (he := (Eq.trans (b := (callV V #[.int .i64 ((atI (cellsL (fldWH x y)) j) % 10), .int .i64 ((atI (cellsL (fldWH x y)) j) / 10)]).run Tryz.prog _) (by kernel_rfl) (hV ((atI (cellsL (fldWH x y)) j) % 10) ((atI (cellsL (fldWH x y)) j) / 10) _))) (hc _ (by assumption) _ HL1) ?_
   intro w5 E4
   refine wv (.int .i64 (q ((atI (cellsL (fldWH x y)) j) % 10) ((atI (cellsL (fldWH x y)) j) / 10))) ?_
   refine wpList_nil (then_normal ?_)
   refine wp_frame (a' := ⟨#[.pointer (some ⟨b, 0, none⟩), .int .i8 x, .int .i8 y, V, undef, undef, undef, undef, .pointer (some ⟨g1, 0, none⟩), .pointer (some ⟨g2, 0, none⟩), undef, .int .i64 (atI (cellsL (fldWH x y)) j), .int .i64 (q ((atI (cellsL (fldWH x y)) j) % 10) ((atI (cellsL (fldWH x y)) j) / 10)), .int .i8 x, .int .i8 y, .agg (Fld.cells (fldWH x y)), .slice (some ⟨g3, 0, none⟩) ((cellsL (fldWH x y)).length) cap1, .int .i64 ((cellsL (fldWH x y)).length : Int), .int .i64 (j : Int), .bool (decide ((j : Int) < ((cellsL (fldWH x y)).length : Int))), .pointer (some ⟨g3, 0 + j, none⟩), .int .i64 (atI (cellsL (fldWH x y)) j), V, .int .i64 (atI (cellsL (fldWH x y)) j), .int .i64 ((atI (cellsL (fldWH x y)) j) % 10), .int .i64 (atI (cellsL (fldWH x y)) j), .int .i64 ((atI (cellsL (fldWH x y)) j) / 10), .int .i64 (q ((atI (cellsL (fldWH x y)) j) % 10) ((atI (cellsL (fldWH x y)) j) / 10)), J1 28, J1 29, J1 30, J1 31, J1 32, J1 33, J1 34, J1 35, J1 36, J1 37, J1 38, J1 39, J1 40, J1 41, J1 42, J1 43, J1 44, J1 45, J1 46, undef], []⟩) (by kernel_rfl) ?_
   replace hb := hb.ext E4
   replace B2 := B2.ext E4
   have ce2 := hF.k1 ((q ((atI (cellsL (fldWH x y)) j) % 10) ((atI (cellsL (fldWH x y)) j) / 10)).toNat) (by omega)
   have ce3 := hF.s1 ((q ((atI (cellsL (fldWH x y)) j) % 10) ((atI (cellsL (fldWH x y)) j) / 10)).toNat) (by omega)
   refine RR.region_go 20 [28, 29, 30, 31, 32, 33, 34, 35, 36, 37, 38, 39, 40, 41, 42, 43, 1016, 44, 45, 1019] [[], [], [], [], [2], [4], [5, 3], [6], [], [], [8], [10], [11, 9], [12], [], [14, 0], [15, 7], [], [17, 1], [18, 13, 16]] (RlS g2 29 (Fld.cells ({ mvT F x y q j with k := upd (mvT F x y q j).k ((atI (cellsL (fldWH x y)) j).toNat) (F.k ((q ((atI (cellsL (fldWH x y)) j) % 10) ((atI (cellsL (fldWH x y)) j) / 10)).toNat)) })) (Fld.cells ({ { mvT F x y q j with k := upd (mvT F x y q j).k ((atI (cellsL (fldWH x y)) j).toNat) (F.k ((q ((atI (cellsL (fldWH x y)) j) % 10) ((atI (cellsL (fldWH x y)) j) / 10)).toNat)) } with s := upd ({ mvT F x y q j with k := upd (mvT F x y q j).k ((atI (cellsL (fldWH x y)) j).toNat) (F.k ((q ((atI (cellsL (fldWH x y)) j) % 10) ((atI (cellsL (fldWH x y)) j) / 10)).toNat)) }).s ((atI (cellsL (fldWH x y)) j).toNat) (F.s ((q ((atI (cellsL (fldWH x y)) j) % 10) ((atI (cellsL (fldWH x y)) j) / 10)).toNat)) })))
    (fun i_ => ([.val (.int .i64 (atI (cellsL (fldWH x y)) j)), .val (.int .i64 (atI (cellsL (fldWH x y)) j)), .val (.pointer (some ⟨b, 0, none⟩)), .val (.int .i64 (q ((atI (cellsL (fldWH x y)) j) % 10) ((atI (cellsL (fldWH x y)) j) / 10))), .val (.pointer (some ⟨b, 0, none⟩)), .val (.pointer (some ⟨b, 2, none⟩)), .val (.pointer (some ⟨b, 2 + (q ((atI (cellsL (fldWH x y)) j) % 10) ((atI (cellsL (fldWH x y)) j) / 10)).toNat, none⟩)), .val (.int .u8 (F.k ((q ((atI (cellsL (fldWH x y)) j) % 10) ((atI (cellsL (fldWH x y)) j) / 10)).toNat))), .val (.pointer (some ⟨b, 0, none⟩)), .val (.int .i64 (q ((atI (cellsL (fldWH x y)) j) % 10) ((atI (cellsL (fldWH x y)) j) / 10))), .val (.pointer (some ⟨b, 0, none⟩)), .val (.pointer (some ⟨b, 102, none⟩)), .val (.pointer (some ⟨b, 102 + (q ((atI (cellsL (fldWH x y)) j) % 10) ((atI (cellsL (fldWH x y)) j) / 10)).toNat, none⟩)), .val (.int .i16 (F.s ((q ((atI (cellsL (fldWH x y)) j) % 10) ((atI (cellsL (fldWH x y)) j) / 10)).toNat))), .val (.pointer (some ⟨g2, 2, none⟩)), .val (.pointer (some ⟨g2, 2 + (atI (cellsL (fldWH x y)) j).toNat, none⟩)), fct1 g2 29 (Fld.cells ({ mvT F x y q j with k := upd (mvT F x y q j).k ((atI (cellsL (fldWH x y)) j).toNat) (F.k ((q ((atI (cellsL (fldWH x y)) j) % 10) ((atI (cellsL (fldWH x y)) j) / 10)).toNat)) })) (Fld.cells ({ { mvT F x y q j with k := upd (mvT F x y q j).k ((atI (cellsL (fldWH x y)) j).toNat) (F.k ((q ((atI (cellsL (fldWH x y)) j) % 10) ((atI (cellsL (fldWH x y)) j) / 10)).toNat)) } with s := upd ({ mvT F x y q j with k := upd (mvT F x y q j).k ((atI (cellsL (fldWH x y)) j).toNat) (F.k ((q ((atI (cellsL (fldWH x y)) j) % 10) ((atI (cellsL (fldWH x y)) j) / 10)).toNat)) }).s ((atI (cellsL (fldWH x y)) j).toNat) (F.s ((q ((atI (cellsL (fldWH x y)) j) % 10) ((atI (cellsL (fldWH x y)) j) / 10)).toNat)) })), .val (.pointer (some ⟨g2, 102, none⟩)), .val (.pointer (some ⟨g2, 102 + (atI (cellsL (fldWH x y)) j).toNat, none⟩)), fct2 g2 29 (Fld.cells ({ mvT F x y q j with k := upd (mvT F x y q j).k ((atI (cellsL (fldWH x y)) j).toNat) (F.k ((q ((atI (cellsL (fldWH x y)) j) % 10) ((atI (cellsL (fldWH x y)) j) / 10)).toNat)) })) (Fld.cells ({ { mvT F x y q j with k := upd (mvT F x y q j).k ((atI (cellsL (fldWH x y)) j).toNat) (F.k ((q ((atI (cellsL (fldWH x y)) j) % 10) ((atI (cellsL (fldWH x y)) j) / 10)).toNat)) } with s := upd ({ mvT F x y q j with k := upd (mvT F x y q j).k ((atI (cellsL (fldWH x y)) j).toNat) (F.k ((q ((atI (cellsL (fldWH x y)) j) % 10) ((atI (cellsL (fldWH x y)) j) / 10)).toNat)) }).s ((atI (cellsL (fldWH x y)) j).toNat) (F.s ((q ((atI (cellsL (fldWH x y)) j) % 10) ((atI (cellsL (fldWH x y)) j) / 10)).toNat)) }))] : List (RR.Fct (RlS g2 29 (Fld.cells ({ mvT F x y q j with k := upd (mvT F x y q j).k ((atI (cellsL (fldWH x y)) j).toNat) (F.k ((q ((atI (cellsL (fldWH x y)) j) % 10) ((atI (cellsL (fldWH x y)) j) / 10)).toNat)) })) (Fld.cells ({ { mvT F x y q j with k := upd (mvT F x y q j).k ((atI (cellsL (fldWH x y)) j).toNat) (F.k ((q ((atI (cellsL (fldWH x y)) j) % 10) ((atI (cellsL (fldWH x y)) j) / 10)).toNat)) } with s := upd ({ mvT F x y q j with k := upd (mvT F x y q j).k ((atI (cellsL (fldWH x y)) j).toNat) (F.k ((q ((atI (cellsL (fldWH x y)) j) % 10) ((atI (cellsL (fldWH x y)) j) / 10)).toNat)) }).s ((atI (cellsL (fldWH x y)) j).toNat) (F.s ((q ((atI (cellsL (fldWH x y)) j) % 10) ((atI (cellsL (fldWH x y)) j) / 10)).toNat)) }))))).getD i_ .any)
    (by kernel_rfl) (by kernel_rfl) (by decide) RlS.refl RlS.trans RlS.drew rfl rfl (all_succ (all_succ (all_succ (all_succ (all_succ (all_succ (all_succ (all_succ (all_succ (all_succ (all_succ (all_succ (all_succ (all_succ (all_succ (all_succ (all_succ (all_succ (all_succ (all_succ all_zero ?_) ?_) ?_) ?_) ?_) ?_) ?_) ?_) ?_) ?_) ?_) ?_) ?_) ?_) ?_) ?_) ?_) ?_) ?_) ?_) ?_
   · refine RR.step0 rfl rfl rfl (fun wr hw => ?_)
     exact OpRun.val (.int .i64 (atI (cellsL (fldWH x y)) j)) (.int .i64 (atI (cellsL (fldWH x y)) j)) (by kernel_rfl) rfl ⟨RlS.refl _, rfl⟩
   · refine RR.step0 rfl rfl rfl (fun wr hw => ?_)
     exact OpRun.val (.int .i64 (atI (cellsL (fldWH x y)) j)) (.int .i64 (atI (cellsL (fldWH x y)) j)) (by kernel_rfl) rfl ⟨RlS.refl _, rfl⟩
   · refine RR.step0 rfl rfl rfl (fun wr hw => ?_)
     exact OpRun.val (.pointer (some ⟨b, 0, none⟩)) (.pointer (some ⟨b, 0, none⟩)) (by kernel_rfl) rfl ⟨RlS.refl _, rfl⟩
   · refine RR.step0 rfl rfl rfl (fun wr hw => ?_)
     exact OpRun.val (.int .i64 (q ((atI (cellsL (fldWH x y)) j) % 10) ((atI (cellsL (fldWH x y)) j) / 10))) (.int .i64 (q ((atI (cellsL (fldWH x y)) j) % 10) ((atI (cellsL (fldWH x y)) j) / 10))) (by kernel_rfl) rfl ⟨RlS.refl _, rfl⟩
   · refine RR.step1 rfl rfl rfl rfl (fun u0 wr hw h0 => ?_)
     cases h0
     exact OpRun.val (.pointer (some ⟨b, 0, none⟩)) (.pointer (some ⟨b, 0, none⟩)) (by kernel_rfl) rfl ⟨RlS.refl _, rfl⟩
   · refine RR.step1 rfl rfl rfl rfl (fun u0 wr hw h0 => ?_)
     cases h0
     exact OpRun.val (.pointer (some ⟨b, 2, none⟩)) (.pointer (some ⟨b, 2, none⟩)) (by kernel_rfl) rfl ⟨RlS.refl _, rfl⟩
   · refine RR.step2 rfl rfl rfl rfl rfl (fun u0 u1 wr hw h0 h1 => ?_)
     cases h0
     cases h1
     exact OpRun.ixa (i := q ((atI (cellsL (fldWH x y)) j) % 10) ((atI (cellsL (fldWH x y)) j) / 10)) (k := .i64) (g := b) (off := 2) arrt__100_uint8 rfl (by kernel_rfl) (by kernel_rfl) (by omega) (by omega) ⟨RlS.refl _, rfl⟩
   · refine RR.step1 rfl rfl rfl rfl (fun u0 wr hw h0 => ?_)
     cases h0
     exact OpRun.cell (g := b) (off := 2 + (q ((atI (cellsL (fldWH x y)) j) % 10) ((atI (cellsL (fldWH x y)) j) / 10)).toNat) (v := .int .u8 (F.k ((q ((atI (cellsL (fldWH x y)) j) % 10) ((atI (cellsL (fldWH x y)) j) / 10)).toNat))) scal_uint8 rfl (by kernel_rfl) ((Wr.blk hw.1 hb q_b_g2).get (Fld.getk _ _ (by omega))) ⟨RlS.refl _, rfl⟩
   · refine RR.step0 rfl rfl rfl (fun wr hw => ?_)
     exact OpRun.val (.pointer (some ⟨b, 0, none⟩)) (.pointer (some ⟨b, 0, none⟩)) (by kernel_rfl) rfl ⟨RlS.refl _, rfl⟩
   · refine RR.step0 rfl rfl rfl (fun wr hw => ?_)
     exact OpRun.val (.int .i64 (q ((atI (cellsL (fldWH x y)) j) % 10) ((atI (cellsL (fldWH x y)) j) / 10))) (.int .i64 (q ((atI (cellsL (fldWH x y)) j) % 10) ((atI (cellsL (fldWH x y)) j) / 10))) (by kernel_rfl) rfl ⟨RlS.refl _, rfl⟩
   · refine RR.step1 rfl rfl rfl rfl (fun u0 wr hw h0 => ?_)
     cases h0
     exact OpRun.val (.pointer (some ⟨b, 0, none⟩)) (.pointer (some ⟨b, 0, none⟩)) (by kernel_rfl) rfl ⟨RlS.refl _, rfl⟩
   · refine RR.step1 rfl rfl rfl rfl (fun u0 wr hw h0 => ?_)
     cases h0
     exact OpRun.val (.pointer (some ⟨b, 102, none⟩)) (.pointer (some ⟨b, 102, none⟩)) (by kernel_rfl) rfl ⟨RlS.refl _, rfl⟩
   · refine RR.step2 rfl rfl rfl rfl rfl (fun u0 u1 wr hw h0 h1 => ?_)
     cases h0
     cases h1
     exact OpRun.ixa (i := q ((atI (cellsL (fldWH x y)) j) % 10) ((atI (cellsL (fldWH x y)) j) / 10)) (k := .i64) (g := b) (off := 102) arrt__100_int16 rfl (by kernel_rfl) (by kernel_rfl) (by omega) (by omega) ⟨RlS.refl _, rfl⟩
   · refine RR.step1 rfl rfl rfl rfl (fun u0 wr hw h0 => ?_)
     cases h0
     exact OpRun.cell (g := b) (off := 102 + (q ((atI (cellsL (fldWH x y)) j) % 10) ((atI (cellsL (fldWH x y)) j) / 10)).toNat) (v := .int .i16 (F.s ((q ((atI (cellsL (fldWH x y)) j) % 10) ((atI (cellsL (fldWH x y)) j) / 10)).toNat))) scal_int16 rfl (by kernel_rfl) ((Wr.blk hw.1 hb q_b_g2).get (Fld.gets _ _ (by omega))) ⟨RlS.refl _, rfl⟩
   · refine RR.step0 rfl rfl rfl (fun wr hw => ?_)
     exact OpRun.val (.pointer (some ⟨g2, 2, none⟩)) (.pointer (some ⟨g2, 2, none⟩)) (by kernel_rfl) rfl ⟨RlS.refl _, rfl⟩
   · refine RR.step2 rfl rfl rfl rfl rfl (fun u0 u1 wr hw h0 h1 => ?_)
     cases h0
     cases h1
     exact OpRun.ixa (i := atI (cellsL (fldWH x y)) j) (k := .i64) (g := g2) (off := 2) arrt__100_uint8 rfl (by kernel_rfl) (by kernel_rfl) (by omega) (by omega) ⟨RlS.refl _, rfl⟩
   · refine RR.step2 rfl rfl rfl rfl rfl (fun u0 u1 wr hw h0 h1 => ?_)
     cases h0
     cases h1
     exact st1 (.int .u8 (F.k ((q ((atI (cellsL (fldWH x y)) j) % 10) ((atI (cellsL (fldWH x y)) j) / 10)).toNat))) B2 hw (Fld.setk _ _ (by omega) _) (by rw [Fld.setk _ _ (by omega) _]; simp only [upd_upd]) (by rw [Fld.setk _ _ (by omega) _]; simp only [upd_upd]) (by simp only [Fld.size_cells]; omega) scal_uint8 rfl (by kernel_rfl) (by kernel_rfl) rfl
   · refine RR.step0 rfl rfl rfl (fun wr hw => ?_)
     exact OpRun.val (.pointer (some ⟨g2, 102, none⟩)) (.pointer (some ⟨g2, 102, none⟩)) (by kernel_rfl) rfl ⟨RlS.refl _, rfl⟩
   · refine RR.step2 rfl rfl rfl rfl rfl (fun u0 u1 wr hw h0 h1 => ?_)
     cases h0
     cases h1
     exact OpRun.ixa (i := atI (cellsL (fldWH x y)) j) (k := .i64) (g := g2) (off := 102) arrt__100_int16 rfl (by kernel_rfl) (by kernel_rfl) (by omega) (by omega) ⟨RlS.refl _, rfl⟩
   · refine RR.step3 rfl rfl rfl rfl rfl rfl (fun u0 u1 u2 wr hw h0 h1 h2 => ?_)
     cases h0
     cases h1
     obtain ⟨rfl, h2⟩ := h2
     exact st2 (.int .i16 (F.s ((q ((atI (cellsL (fldWH x y)) j) % 10) ((atI (cellsL (fldWH x y)) j) / 10)).toNat))) h2 (Fld.sets _ _ (by omega) _) (by rw [Fld.sets _ _ (by omega) _]; simp only [upd_upd]) (by simp only [Fld.size_cells]; omega) scal_int16 rfl (by kernel_rfl) (by kernel_rfl) rfl
   refine RR.end20 (fun u0 u1 u2 u3 u4 u5 u6 u7 u8 u9 u10 u11 u12 u13 u14 u15 u16 u17 u18 u19 w6 E5 f0 f1 f2 f3 f4 f5 f6 f7 f8 f9 f10 f11 f12 f13 f14 f15 f16 f17 f18 f19 => ?_)
   cases f0
   cases f1
   cases f2
   cases f3
   cases f4
   cases f5
   cases f6
   cases f7
   cases f8
   cases f9
   cases f10
   cases f11
   cases f12
   cases f13
   cases f14
   cases f15
   obtain ⟨rfl, f16⟩ := f16
   cases f17
   cases f18
   obtain ⟨rfl, f19⟩ := f19
   have X2 := E5.1
   have B2_ := f19
   clear B2; have B2 := B2_; clear B2_
   refine wpList_nil (block_normal (then_normal ?_))
   refine wp_region_lit ?_
   refine wi64 ((j : Int) + 1) ?_
   refine wv (.int .i64 ((j : Int) + 1)) ?_
   refine wpList_nil (then_normal ?_)
   replace hb := X2.blk hb q_b_g2
   replace B1 := X2.blk (B1.ext E4) q_g1_g2
   replace B3 := X2.blk (B3.ext E4) (Ne.symm q_g2_g3)
   have H4 := X2.ext w lo_g2 (HL1.trans E4)
   refine ⟨_, ?_, j + 1, rfl, ?_, H4, hb, B1, ?_, B3, exJ (by kernel_rfl)⟩
   · omega
   · omega
   · have e_ : { { mvT F x y q j with k := upd (mvT F x y q j).k ((atI (cellsL (fldWH x y)) j).toNat) (F.k ((q ((atI (cellsL (fldWH x y)) j) % 10) ((atI (cellsL (fldWH x y)) j) / 10)).toNat)) } with s := upd ({ mvT F x y q j with k := upd (mvT F x y q j).k ((atI (cellsL (fldWH x y)) j).toNat) (F.k ((q ((atI (cellsL (fldWH x y)) j) % 10) ((atI (cellsL (fldWH x y)) j) / 10)).toNat)) }).s ((atI (cellsL (fldWH x y)) j).toNat) (F.s ((q ((atI (cellsL (fldWH x y)) j) % 10) ((atI (cellsL (fldWH x y)) j) / 10)).toNat)) } = mvT F x y q (j + 1) := (mvT_s (by omega)).symm
     rw [← e_]; exact B2
 · skip
   have h1d := dF h1
   refine wp_exit ?_
   refine then_exit ?_
   refine then_exit ?_
   refine block_exit ?_
   refine then_normal ?_
   refine wsr ?_
   refine wrow row_impl_Field B2 (by exact Fld.size_cells _) ?_
   refine wput (Fld.cells (mvT F x y q j)) row_impl_Field B1 (by exact Fld.size_cells _) (by exact Fld.size_cells _) (by exact Fld.one_cells _) ?_
   intro w7 B1_ X3
   clear B1; have B1 := B1_; clear B1_
   refine wpList_nil (then_normal ?_)
   refine wp_ret ?_
   have H5 := X3.ext w lo_g1 HL1
   refine ret1 (.agg (Fld.cells (mvC F x y q 100))) rfl ?_ rfl ?_
   · refine ⟨g1, 29, (Fld.cells (mvT F x y q j)), _, by kernel_rfl, B1, row_impl_Field, ?_, ?_⟩
     · exact Fld.size_cells _
     · show (.agg (Fld.cells (mvC F x y q 100)) : Value) = (.agg (Fld.cells (mvT F x y q j)))
       refine congrArg Value.agg ?_
       rw [mvT_end (by omega)]
   exact ⟨rfl, H5⟩


--# MirrorField1_any
theorem MirrorField1_any (x : Int) (y : Int) (hx : 0 ≤ x ∧ x ≤ 99) (hy : 0 ≤ y ∧ y ≤ 99) (F : Fld) (hF : F.wf) (b0 : Nat) (t0 : TypeId) (w : World) (hb0 : Blk w b0 t0 F.cells) :
 Calls Tryz.prog 34 #[.int .i64 x, .int .i64 y, .pointer (some ⟨b0, 0, none⟩)] w fun e w' => e = .returned (.int .i64 (mirQ F x y)) ∧ Ext w w' := by
 have w1_ := hF.w1
 have w2_ := hF.w2
 have h1_ := hF.h1
 have h2_ := hF.h2
 refine calls_of_wp Tryz.func34 rfl ?_
 refine wp_frame (a' := ⟨#[.int .i64 x, .int .i64 y, .pointer (some ⟨b0, 0, none⟩), undef, undef, undef, undef, undef, undef, undef, undef, undef, undef, undef, undef], []⟩) (by kernel_rfl) ?_
 refine wsr ?_
 refine wv (.int .i64 0) ?_
 refine wpList_nil (then_normal ?_)
 refine wsr ?_
 refine wv (.pointer (some ⟨b0, 0, none⟩)) ?_
 refine wld b0 (0) scal_int8 (hb0.get (Fld.get0 _)) ?_
 refine wi64 F.w ?_
 refine wi64 (F.w - 1) ?_
 refine wv (.int .i64 x) ?_
 refine wi64 ((F.w - 1) - x) ?_
 refine wv (.int .i64 y) ?_
 refine wi64 (10 * y) ?_
 refine wi64 (((F.w - 1) - x) + (10 * y)) ?_
 refine wv (.int .i64 (((F.w - 1) - x) + (10 * y))) ?_
 refine wpList_nil (then_normal ?_)
 refine wp_ret ?_
 refine ret1 (.int .i64 (mirQ F x y)) rfl ?_ rfl ?_
 · refine (resT (v := .int .i64 (((F.w - 1) - x) + (10 * y))) (by kernel_rfl)).trans ?_
   refine congrArg (Value.int _) ?_
   unfold mirQ
   first | rfl | omega
 exact ⟨rfl, (Ext.refl w)⟩


--# TurnField1_any
theorem TurnField1_any (x : Int) (y : Int) (hx : 0 ≤ x ∧ x ≤ 99) (hy : 0 ≤ y ∧ y ≤ 99) (F : Fld) (hF : F.wf) (b0 : Nat) (t0 : TypeId) (w : World) (hb0 : Blk w b0 t0 F.cells) :
 Calls Tryz.prog 40 #[.int .i64 x, .int .i64 y, .pointer (some ⟨b0, 0, none⟩)] w fun e w' => e = .returned (.int .i64 (turQ F x y)) ∧ Ext w w' := by
 have w1_ := hF.w1
 have w2_ := hF.w2
 have h1_ := hF.h1
 have h2_ := hF.h2
 refine calls_of_wp Tryz.func40 rfl ?_
 refine wp_frame (a' := ⟨#[.int .i64 x, .int .i64 y, .pointer (some ⟨b0, 0, none⟩), undef, undef, undef, undef, undef, undef, undef, undef, undef, undef, undef, undef], []⟩) (by kernel_rfl) ?_
 refine wsr ?_
 refine wv (.int .i64 0) ?_
 refine wpList_nil (then_normal ?_)
 refine wsr ?_
 refine wv (.int .i64 y) ?_
 refine wv (.pointer (some ⟨b0, 1, none⟩)) ?_
 refine wld b0 (1) scal_int8 (hb0.get (Fld.get1 _)) ?_
 refine wi64 F.h ?_
 refine wi64 (F.h - 1) ?_
 refine wv (.int .i64 x) ?_
 refine wi64 ((F.h - 1) - x) ?_
 refine wi64 (10 * ((F.h - 1) - x)) ?_
 refine wi64 (y + (10 * ((F.h - 1) - x))) ?_
 refine wv (.int .i64 (y + (10 * ((F.h - 1) - x)))) ?_
 refine wpList_nil (then_normal ?_)
 refine wp_ret ?_
 refine ret1 (.int .i64 (turQ F x y)) rfl ?_ rfl ?_
 · refine (resT (v := .int .i64 (y + (10 * ((F.h - 1) - x)))) (by kernel_rfl)).trans ?_
   refine congrArg (Value.int _) ?_
   unfold turQ
   first | rfl | omega
 exact ⟨rfl, (Ext.refl w)⟩


--# l01Copied_any
theorem l01Copied_any (G : Fld) (b : Nat) (t : TypeId) (c : Int) (F : Fld) (hF : F.wf) (b2 : Nat) (t2 : TypeId) (o : Int) (hne : b ≠ b2) (hc : 0 ≤ c ∧ c ≤ 99) (ho : 0 ≤ o ∧ o ≤ 99) (w : World) (hb : Blk w b t G.cells) (hb2 : Blk w b2 t2 F.cells) :
 Calls Tryz.prog 37 #[.pointer (some ⟨b, 0, none⟩), .int .i64 c, .pointer (some ⟨b2, 0, none⟩), .int .i64 o] w fun e w' => e = .returned (.tuple #[]) ∧ Blk w' b t (Fld.cells ({ G with k := upd G.k c.toNat (F.k o.toNat), s := upd G.s c.toNat (F.s o.toNat) })) ∧ Wr b w w' := by
 refine calls_of_wp Tryz.func37 rfl ?_
 refine wp_frame (a' := ⟨#[.pointer (some ⟨b, 0, none⟩), .int .i64 c, .pointer (some ⟨b2, 0, none⟩), .int .i64 o, undef, undef, undef, undef, undef, undef, undef, undef, undef, undef, undef, undef, undef, undef, undef, undef, undef, undef, undef, undef, undef, undef, undef, undef, undef, undef], []⟩) (by kernel_rfl) ?_
 refine wp_seq ?_
 have ce1 := hF.k1 ((o).toNat) (by omega)
 refine region_go 11 [8, 9, 10, 11, 12, 13, 14, 15, 16, 17, 18] [[], [], [], [], [2], [4], [5, 3], [6], [0], [8], [9, 1]]
  (fun i_ => ([.val (.pointer (some ⟨b, 0, none⟩)), .val (.int .i64 c), .val (.pointer (some ⟨b2, 0, none⟩)), .val (.int .i64 o), .val (.pointer (some ⟨b2, 0, none⟩)), .val (.pointer (some ⟨b2, 2, none⟩)), .val (.pointer (some ⟨b2, 2 + (o).toNat, none⟩)), .val (.int .u8 (F.k ((o).toNat))), .val (.pointer (some ⟨b, 0, none⟩)), .val (.pointer (some ⟨b, 2, none⟩)), .val (.pointer (some ⟨b, 2 + (c).toNat, none⟩))] : List Fct).getD i_ .any)
  (by kernel_rfl) (by kernel_rfl) (by decide) (by simp) rfl (all_succ (all_succ (all_succ (all_succ (all_succ (all_succ (all_succ (all_succ (all_succ (all_succ (all_succ all_zero ?_) ?_) ?_) ?_) ?_) ?_) ?_) ?_) ?_) ?_) ?_) ?_
 · refine step0 rfl rfl rfl (fun wr hw => ?_)
   exact OpRun.val (.pointer (some ⟨b, 0, none⟩)) (.pointer (some ⟨b, 0, none⟩)) (by kernel_rfl) rfl ⟨Ext.refl _, rfl⟩
 · refine step0 rfl rfl rfl (fun wr hw => ?_)
   exact OpRun.val (.int .i64 c) (.int .i64 c) (by kernel_rfl) rfl ⟨Ext.refl _, rfl⟩
 · refine step0 rfl rfl rfl (fun wr hw => ?_)
   exact OpRun.val (.pointer (some ⟨b2, 0, none⟩)) (.pointer (some ⟨b2, 0, none⟩)) (by kernel_rfl) rfl ⟨Ext.refl _, rfl⟩
 · refine step0 rfl rfl rfl (fun wr hw => ?_)
   exact OpRun.val (.int .i64 o) (.int .i64 o) (by kernel_rfl) rfl ⟨Ext.refl _, rfl⟩
 · refine step1 rfl rfl rfl rfl (fun u0 wr hw h0 => ?_)
   cases h0
   exact OpRun.val (.pointer (some ⟨b2, 0, none⟩)) (.pointer (some ⟨b2, 0, none⟩)) (by kernel_rfl) rfl ⟨Ext.refl _, rfl⟩
 · refine step1 rfl rfl rfl rfl (fun u0 wr hw h0 => ?_)
   cases h0
   exact OpRun.val (.pointer (some ⟨b2, 2, none⟩)) (.pointer (some ⟨b2, 2, none⟩)) (by kernel_rfl) rfl ⟨Ext.refl _, rfl⟩
 · refine step2 rfl rfl rfl rfl rfl (fun u0 u1 wr hw h0 h1 => ?_)
   cases h0
   cases h1
   exact OpRun.ixa (i := o) (k := .i64) (g := b2) (off := 2) arrt__100_uint8 rfl (by kernel_rfl) (by kernel_rfl) (by omega) (by omega) ⟨Ext.refl _, rfl⟩
 · refine step1 rfl rfl rfl rfl (fun u0 wr hw h0 => ?_)
   cases h0
   exact OpRun.cell (g := b2) (off := 2 + (o).toNat) (v := .int .u8 (F.k ((o).toNat))) scal_uint8 rfl (by kernel_rfl) ((hb2.ext hw).get (Fld.getk _ _ (by omega))) ⟨Ext.refl _, rfl⟩
 · refine step1 rfl rfl rfl rfl (fun u0 wr hw h0 => ?_)
   cases h0
   exact OpRun.val (.pointer (some ⟨b, 0, none⟩)) (.pointer (some ⟨b, 0, none⟩)) (by kernel_rfl) rfl ⟨Ext.refl _, rfl⟩
 · refine step1 rfl rfl rfl rfl (fun u0 wr hw h0 => ?_)
   cases h0
   exact OpRun.val (.pointer (some ⟨b, 2, none⟩)) (.pointer (some ⟨b, 2, none⟩)) (by kernel_rfl) rfl ⟨Ext.refl _, rfl⟩
 · refine step2 rfl rfl rfl rfl rfl (fun u0 u1 wr hw h0 h1 => ?_)
   cases h0
   cases h1
   exact OpRun.ixa (i := c) (k := .i64) (g := b) (off := 2) arrt__100_uint8 rfl (by kernel_rfl) (by kernel_rfl) (by omega) (by omega) ⟨Ext.refl _, rfl⟩
 refine end11 (fun u0 u1 u2 u3 u4 u5 u6 u7 u8 u9 u10 w1 E1 f0 f1 f2 f3 f4 f5 f6 f7 f8 f9 f10 => ?_)
 cases f0
 cases f1
 cases f2
 cases f3
 cases f4
 cases f5
 cases f6
 cases f7
 cases f8
 cases f9
 cases f10
 replace hb := hb.ext E1
 refine wst b (2 + (c).toNat) (.int .u8 (F.k ((o).toNat))) scal_uint8 hb (Fld.setk _ _ (by omega) _) (by rw [Fld.size_cells]; omega) ?_
 intro w2 hb_ X1
 clear hb; have hb := hb_; clear hb_
 refine wpList_nil (then_normal ?_)
 refine wp_frame (a' := ⟨#[.pointer (some ⟨b, 0, none⟩), .int .i64 c, .pointer (some ⟨b2, 0, none⟩), .int .i64 o, undef, undef, undef, undef, .pointer (some ⟨b, 0, none⟩), .int .i64 c, .pointer (some ⟨b2, 0, none⟩), .int .i64 o, .pointer (some ⟨b2, 0, none⟩), .pointer (some ⟨b2, 2, none⟩), .pointer (some ⟨b2, 2 + (o).toNat, none⟩), .int .u8 (F.k ((o).toNat)), .pointer (some ⟨b, 0, none⟩), .pointer (some ⟨b, 2, none⟩), .pointer (some ⟨b, 2 + (c).toNat, none⟩), undef, undef, undef, undef, undef, undef, undef, undef, undef, undef, undef], []⟩) (by kernel_rfl) ?_
 replace hb2 := X1.blk (hb2.ext E1) (Ne.symm hne)
 have ce2 := hF.s1 ((o).toNat) (by omega)
 refine region_go 11 [19, 20, 21, 22, 23, 24, 25, 26, 27, 28, 29] [[], [], [], [], [2], [4], [5, 3], [6], [0], [8], [9, 1]]
  (fun i_ => ([.val (.pointer (some ⟨b, 0, none⟩)), .val (.int .i64 c), .val (.pointer (some ⟨b2, 0, none⟩)), .val (.int .i64 o), .val (.pointer (some ⟨b2, 0, none⟩)), .val (.pointer (some ⟨b2, 102, none⟩)), .val (.pointer (some ⟨b2, 102 + (o).toNat, none⟩)), .val (.int .i16 (F.s ((o).toNat))), .val (.pointer (some ⟨b, 0, none⟩)), .val (.pointer (some ⟨b, 102, none⟩)), .val (.pointer (some ⟨b, 102 + (c).toNat, none⟩))] : List Fct).getD i_ .any)
  (by kernel_rfl) (by kernel_rfl) (by decide) (by simp) rfl (all_succ (all_succ (all_succ (all_succ (all_succ (all_succ (all_succ (all_succ (all_succ (all_succ (all_succ all_zero ?_) ?_) ?_) ?_) ?_) ?_) ?_) ?_) ?_) ?_) ?_) ?_
 · refine step0 rfl rfl rfl (fun wr hw => ?_)
   exact OpRun.val (.pointer (some ⟨b, 0, none⟩)) (.pointer (some ⟨b, 0, none⟩)) (by kernel_rfl) rfl ⟨Ext.refl _, rfl⟩
 · refine step0 rfl rfl rfl (fun wr hw => ?_)
   exact OpRun.val (.int .i64 c) (.int .i64 c) (by kernel_rfl) rfl ⟨Ext.refl _, rfl⟩
 · refine step0 rfl rfl rfl (fun wr hw => ?_)
   exact OpRun.val (.pointer (some ⟨b2, 0, none⟩)) (.pointer (some ⟨b2, 0, none⟩)) (by kernel_rfl) rfl ⟨Ext.refl _, rfl⟩
 · refine step0 rfl rfl rfl (fun wr hw => ?_)
   exact OpRun.val (.int .i64 o) (.int .i64 o) (by kernel_rfl) rfl ⟨Ext.refl _, rfl⟩
 · refine step1 rfl rfl rfl rfl (fun u0 wr hw h0 => ?_)
   cases h0
   exact OpRun.val (.pointer (some ⟨b2, 0, none⟩)) (.pointer (some ⟨b2, 0, none⟩)) (by kernel_rfl) rfl ⟨Ext.refl _, rfl⟩
 · refine step1 rfl rfl rfl rfl (fun u0 wr hw h0 => ?_)
   cases h0
   exact OpRun.val (.pointer (some ⟨b2, 102, none⟩)) (.pointer (some ⟨b2, 102, none⟩)) (by kernel_rfl) rfl ⟨Ext.refl _, rfl⟩
 · refine step2 rfl rfl rfl rfl rfl (fun u0 u1 wr hw h0 h1 => ?_)
   cases h0
   cases h1
   exact OpRun.ixa (i := o) (k := .i64) (g := b2) (off := 102) arrt__100_int16 rfl (by kernel_rfl) (by kernel_rfl) (by omega) (by omega) ⟨Ext.refl _, rfl⟩
 · refine step1 rfl rfl rfl rfl (fun u0 wr hw h0 => ?_)
   cases h0
   exact OpRun.cell (g := b2) (off := 102 + (o).toNat) (v := .int .i16 (F.s ((o).toNat))) scal_int16 rfl (by kernel_rfl) ((hb2.ext hw).get (Fld.gets _ _ (by omega))) ⟨Ext.refl _, rfl⟩
 · refine step1 rfl rfl rfl rfl (fun u0 wr hw h0 => ?_)
   cases h0
   exact OpRun.val (.pointer (some ⟨b, 0, none⟩)) (.pointer (some ⟨b, 0, none⟩)) (by kernel_rfl) rfl ⟨Ext.refl _, rfl⟩
 · refine step1 rfl rfl rfl rfl (fun u0 wr hw h0 => ?_)
   cases h0
   exact OpRun.val (.pointer (some ⟨b, 102, none⟩)) (.pointer (some ⟨b, 102, none⟩)) (by kernel_rfl) rfl ⟨Ext.refl _, rfl⟩
 · refine step2 rfl rfl rfl rfl rfl (fun u0 u1 wr hw h0 h1 => ?_)
   cases h0
   cases h1
   exact OpRun.ixa (i := c) (k := .i64) (g := b) (off := 102) arrt__100_int16 rfl (by kernel_rfl) (by kernel_rfl) (by omega) (by omega) ⟨Ext.refl _, rfl⟩
 refine end11 (fun u0 u1 u2 u3 u4 u5 u6 u7 u8 u9 u10 w3 E2 f0 f1 f2 f3 f4 f5 f6 f7 f8 f9 f10 => ?_)
 cases f0
 cases f1
 cases f2
 cases f3
 cases f4
 cases f5
 cases f6
 cases f7
 cases f8
 cases f9
 cases f10
 replace hb := hb.ext E2
 refine wst b (102 + (c).toNat) (.int .i16 (F.s ((o).toNat))) scal_int16 hb (Fld.sets _ _ (by omega) _) (by rw [Fld.size_cells]; omega) ?_
 intro w4 hb_ X2
 clear hb; have hb := hb_; clear hb_
 refine wpList_nil ?_
 refine end0_ rfl rfl ?_
 have H1 := ((((Wr.of_ext (Ext.refl w)).trans (Wr.of_ext E1)).trans X1).trans (Wr.of_ext E2)).trans X2
 refine ⟨rfl, ?_, H1⟩
 have hq : ((Fld.cells ({ { G with k := upd G.k ((c).toNat) (F.k ((o).toNat)) } with s := upd ({ G with k := upd G.k ((c).toNat) (F.k ((o).toNat)) }).s ((c).toNat) (F.s ((o).toNat)) })) : Array Value) = (Fld.cells ({ G with k := upd G.k c.toNat (F.k o.toNat), s := upd G.s c.toNat (F.s o.toNat) })) := by
   rfl
 rw [← hq]
 exact hb


--# sMirrorField_any
theorem sMirrorField_any (F : Fld) (hF : F.wf) (w : World) :
 Calls Tryz.prog 10 #[.agg F.cells] w fun e w' => e = .returned (.tuple #[.agg (Fld.cells (mirF F)), .int .i64 (okC F)]) ∧ Ext w w' := by
 have w1_ := hF.w1
 have w2_ := hF.w2
 have h1_ := hF.h1
 have h2_ := hF.h2
 refine calls_of_wp Tryz.func10 rfl ?_
 refine wp_frame (a' := ⟨#[.agg F.cells, undef, undef, undef, undef, undef, undef, undef, undef, undef, undef, undef, undef, undef, undef, undef, undef, undef, undef, undef, undef, undef, undef, undef, undef, undef, undef, undef, undef, undef, undef, undef, undef], []⟩) (by kernel_rfl) ?_
 refine wsr ?_
 refine wbox F.cells ?_
 intro g1 w1 B1 E1 hg_
 have lo_g1 := Nat.le_trans ((Ext.refl w)).size hg_
 have H1 := (Ext.refl w).trans E1
 refine wnew (Fld.cells Fld.zero) Tryz.zeroValue29 zero_impl_Field ?_
 intro g2 w2 B2 E2 hg_
 have q_g1_g2 := Nat.ne_of_lt (Nat.lt_of_lt_of_le B1.lt hg_)
 have lo_g2 := Nat.le_trans (H1).size hg_
 refine wv (.int .i64 0) ?_
 refine wpList_nil (then_normal ?_)
 refine wp_seq ?_
 refine wsr ?_
 replace B1 := B1.ext E2
 refine wcl (l01Ok_any F hF g1 _ _ B1) ?_
 intro w3 E3
 refine wv (.bool (!(okB F))) ?_
 refine wpList_nil (then_normal ?_)
 have H2 := (H1.trans E2).trans E3
 refine wsplit (!(okB F)) (fun h1 => ?_) (fun h1 => ?_)
 · skip
   replace h1 := nbT h1
   refine wsr ?_
   refine wvv (.agg Tryz.zeroCells29) (.agg (Fld.cells Fld.zero)) (congrArg Value.agg zero_impl_Field) ?_
   replace B2 := B2.ext E3
   refine wput (Fld.cells Fld.zero) row_impl_Field B2 (by exact Fld.size_cells _) (by exact Fld.size_cells _) (by exact Fld.one_cells _) ?_
   intro w4 B2_ X1
   clear B2; have B2 := B2_; clear B2_
   refine wv (.int .i64 1) ?_
   refine wpList_nil (then_normal ?_)
   refine wp_ret ?_
   refine then_ret ?_
   have H3 := X1.ext w lo_g2 H2
   refine ret2 (.agg (Fld.cells (mirF F))) (.int .i64 (okC F)) rfl ?_ ?_ rfl ?_
   · refine ⟨g2, 29, (Fld.cells Fld.zero), _, by kernel_rfl, B2, row_impl_Field, ?_, ?_⟩
     · exact Fld.size_cells _
     · show (.agg (Fld.cells (mirF F)) : Value) = (.agg (Fld.cells Fld.zero))
       refine congrArg Value.agg ?_
       first | rw [mirF_f (by assumption)] | rw [mirF_t (by assumption)]
       try rw [show i = 100 by omega]
   · refine (resT (v := .int .i64 1) (by kernel_rfl)).trans ?_
     refine congrArg (Value.int _) ?_
     first | exact (okC_f (by assumption)).symm | exact (okC_t (by assumption)).symm
   exact ⟨rfl, H3⟩
 · skip
   replace h1 := nbF h1
   have ow_ := ok_wh h1
   refine wp_skip ?_
   refine then_normal ?_
   refine wsr ?_
   refine wv (.pointer (some ⟨g1, 0, none⟩)) ?_
   replace B1 := B1.ext E3
   refine wld g1 (0) scal_int8 (B1.get (Fld.get0 _)) ?_
   refine wv (.pointer (some ⟨g1, 1, none⟩)) ?_
   refine wld g1 (1) scal_int8 (B1.get (Fld.get1 _)) ?_
   refine wvv (.agg ((Tryz.zeroCells29.setIfInBounds 0 (.int .i8 F.w)).setIfInBounds 1 (.int .i8 F.h))) (.agg (Fld.cells (fldWH F.w F.h))) (build_wh _ _) ?_
   replace B2 := B2.ext E3
   refine wnew (Fld.cells Fld.zero) Tryz.zeroValue29 zero_impl_Field ?_
   intro g3 w5 B3 E4 hg_
   have q_g1_g3 := Nat.ne_of_lt (Nat.lt_of_lt_of_le B1.lt hg_)
   have q_g2_g3 := Nat.ne_of_lt (Nat.lt_of_lt_of_le B2.lt hg_)
   have lo_g3 := Nat.le_trans (H2).size hg_
   refine wput (Fld.cells (fldWH F.w F.h)) row_impl_Field B3 (by exact Fld.size_cells _) (by exact Fld.size_cells _) (by exact Fld.one_cells _) ?_
   intro w6 B3_ X2
   clear B3; have B3 := B3_; clear B3_
   refine wpList_nil (then_normal ?_)
   refine wp_seq ?_
   refine wsr ?_
   refine wv (.int .i64 0) ?_
   refine wpList_nil (then_normal ?_)
   refine wp_block ?_
   replace B1 := X2.blk (B1.ext E4) q_g1_g3
   replace B2 := X2.blk (B2.ext E4) q_g2_g3
   have H4 := X2.ext w lo_g3 (H2.trans E4)
   refine wp_loop_k (fun m1 a wl1 => ∃ (i : Nat), m1 = 100 - i ∧ i ≤ 100 ∧ Ext w wl1 ∧ Blk wl1 g1 29 F.cells ∧ Blk wl1 g2 29 (Fld.cells Fld.zero) ∧ Blk wl1 g3 29 (Fld.cells (mvC F F.w F.h (mirQ F) i)) ∧ (∃ J1 : Nat → Value, a = ⟨#[.agg F.cells, .pointer (some ⟨g1, 0, none⟩), .pointer (some ⟨g2, 0, none⟩), .int .i64 0, .pointer (some ⟨g3, 0, none⟩), .int .i64 (i : Int), .bool (okB F), .bool (!(okB F)), undef, .pointer (some ⟨g1, 0, none⟩), .int .i8 F.w, .pointer (some ⟨g1, 1, none⟩), .int .i8 F.h, .agg (Fld.cells (fldWH F.w F.h)), J1 14, J1 15, J1 16, J1 17, J1 18, J1 19, J1 20, J1 21, J1 22, J1 23, J1 24, J1 25, J1 26, J1 27, J1 28, J1 29, J1 30, J1 31, undef], []⟩)) (100) ?_ ?_
   · refine ⟨0, rfl, ?_, H4, B1, B2, ?_, exJ (by kernel_rfl)⟩
     · omega
     · rw [mvC_0]; exact B3
   intro m1 a wl1 hI
   obtain ⟨i, rfl, hi_, HL1, B1, B2, B3, J1, rfl⟩ := hI
   refine wp_seq ?_
   refine wsr ?_
   refine wv (.int .i64 (i : Int)) ?_
   refine wv (.bool (decide ((i : Int) < 100))) ?_
   refine wpList_nil (then_normal ?_)
   refine wsplit (decide ((i : Int) < 100)) (fun h2 => ?_) (fun h2 => ?_)
   · skip
     have h2d := dT h2
     refine wp_skip ?_
     refine then_normal ?_
     refine wp_seq ?_
     refine wp_block ?_
     refine wsr ?_
     refine wv (.int .i64 (i : Int)) ?_
     refine wcl (l01Is_any F hF g1 _ (i : Int) _ B1) ?_
     intro w7 E5
     refine wpList_nil (then_normal ?_)
     have H5 := HL1.trans E5
     refine wsplit (isB F (i : Int)) (fun h3 => ?_) (fun h3 => ?_)
     · skip
       have h3d := isB_true.1 h3
       refine wp_region_lit ?_
       refine wv (.int .i64 (i : Int)) ?_
       refine wv (.int .i64 (i : Int)) ?_
       refine wv (.int .i64 (i : Int)) ?_
       refine wrem (i : Int) 10 ?_
       refine wi64 (2 * ((i : Int) % 10)) ?_
       refine wi64 ((i : Int) - (2 * ((i : Int) % 10))) ?_
       refine wv (.pointer (some ⟨g1, 0, none⟩)) ?_
       replace B1 := B1.ext E5
       refine wld g1 (0) scal_int8 (B1.get (Fld.get0 _)) ?_
       refine wi64 F.w ?_
       refine wi64 (((i : Int) - (2 * ((i : Int) % 10))) + F.w) ?_
       refine wi64 ((((i : Int) - (2 * ((i : Int) % 10))) + F.w) - 1) ?_
       replace B3 := B3.ext E5
       refine wcl (l01Copied_any (mvC F F.w F.h (mirQ F) i) g3 _ (i : Int) F hF g1 _ ((((i : Int) - (2 * ((i : Int) % 10))) + F.w) - 1) (Ne.symm q_g1_g3) (by omega) (by omega) _ B3 B1) ?_
       rintro w8 ⟨B3_, X3⟩
       clear B3; have B3 := B3_; clear B3_
       refine wpList_nil (block_normal (then_normal ?_))
       refine wp_region_lit ?_
       refine wv (.int .i64 (i : Int)) ?_
       refine wi64 ((i : Int) + 1) ?_
       refine wv (.int .i64 ((i : Int) + 1)) ?_
       refine wpList_nil (then_normal ?_)
       replace B1 := X3.blk B1 q_g1_g3
       replace B2 := X3.blk (B2.ext E5) q_g2_g3
       have H6 := X3.ext w lo_g3 H5
       refine ⟨_, ?_, i + 1, rfl, ?_, H6, B1, B2, ?_, exJ (by kernel_rfl)⟩
       · omega
       · omega
       · have e_ : { mvC F F.w F.h (mirQ F) i with k := upd (mvC F F.w F.h (mirQ F) i).k (i : Int).toNat (F.k ((((i : Int) - (2 * ((i : Int) % 10))) + F.w) - 1).toNat), s := upd (mvC F F.w F.h (mirQ F) i).s (i : Int).toNat (F.s ((((i : Int) - (2 * ((i : Int) % 10))) + F.w) - 1).toNat) } = mvC F F.w F.h (mirQ F) (i + 1) := (mvC_s (by first | assumption | (rw [isB_F]; assumption) | (rw [← mvC_is hF tq_]; assumption)) (by unfold mirQ; omega)).symm
         rw [← e_]; exact B3
     · skip
       refine wp_skip ?_
       refine block_normal (then_normal ?_)
       refine wp_region_lit ?_
       refine wv (.int .i64 (i : Int)) ?_
       refine wi64 ((i : Int) + 1) ?_
       refine wv (.int .i64 ((i : Int) + 1)) ?_
       refine wpList_nil (then_normal ?_)
       replace B1 := B1.ext E5
       replace B2 := B2.ext E5
       replace B3 := B3.ext E5
       refine ⟨_, ?_, i + 1, rfl, ?_, H5, B1, B2, ?_, exJ (by kernel_rfl)⟩
       · omega
       · omega
       · rw [mvC_2 (by first | assumption | (rw [isB_F]; assumption) | (rw [← mvC_is hF tq_]; assumption))]; exact B3
   · skip
     have h2d := dF h2
     refine wp_exit ?_
     refine then_exit ?_
     refine then_exit ?_
     refine block_exit ?_
     refine then_normal ?_
     refine wsr ?_
     refine wrow row_impl_Field B3 (by exact Fld.size_cells _) ?_
     refine wput (Fld.cells (mvC F F.w F.h (mirQ F) i)) row_impl_Field B2 (by exact Fld.size_cells _) (by exact Fld.size_cells _) (by exact Fld.one_cells _) ?_
     intro w9 B2_ X4
     clear B2; have B2 := B2_; clear B2_
     refine wv (.int .i64 0) ?_
     refine wpList_nil (then_normal ?_)
     refine wp_ret ?_
     have H7 := X4.ext w lo_g2 HL1
     refine ret2 (.agg (Fld.cells (mirF F))) (.int .i64 (okC F)) rfl ?_ ?_ rfl ?_
     · refine ⟨g2, 29, (Fld.cells (mvC F F.w F.h (mirQ F) i)), _, by kernel_rfl, B2, row_impl_Field, ?_, ?_⟩
       · exact Fld.size_cells _
       · show (.agg (Fld.cells (mirF F)) : Value) = (.agg (Fld.cells (mvC F F.w F.h (mirQ F) i)))
         refine congrArg Value.agg ?_
         first | rw [mirF_f (by assumption)] | rw [mirF_t (by assumption)]
         try rw [show i = 100 by omega]
     · refine (resT (v := .int .i64 0) (by kernel_rfl)).trans ?_
       refine congrArg (Value.int _) ?_
       first | exact (okC_f (by assumption)).symm | exact (okC_t (by assumption)).symm
     exact ⟨rfl, H7⟩


--# iMirrorField_any
theorem iMirrorField_any (F : Fld) (hF : F.wf) (w : World) :
 Calls Tryz.prog 9 #[.agg F.cells] w fun e w' => e = .returned (.tuple #[.agg (Fld.cells (mirF F)), .int .i64 (okC F)]) ∧ Ext w w' := by
 have w1_ := hF.w1
 have w2_ := hF.w2
 have h1_ := hF.h1
 have h2_ := hF.h2
 refine calls_of_wp Tryz.func9 rfl ?_
 refine wp_frame (a' := ⟨#[.agg F.cells, undef, undef, undef, undef, undef, undef, undef, undef, undef, undef, undef, undef, undef], []⟩) (by kernel_rfl) ?_
 refine wsr ?_
 refine wbox F.cells ?_
 intro g1 w1 B1 E1 hg_
 have lo_g1 := Nat.le_trans ((Ext.refl w)).size hg_
 have H1 := (Ext.refl w).trans E1
 refine wnew (Fld.cells Fld.zero) Tryz.zeroValue29 zero_impl_Field ?_
 intro g2 w2 B2 E2 hg_
 have q_g1_g2 := Nat.ne_of_lt (Nat.lt_of_lt_of_le B1.lt hg_)
 have lo_g2 := Nat.le_trans (H1).size hg_
 refine wv (.int .i64 0) ?_
 refine wpList_nil (then_normal ?_)
 refine wp_seq ?_
 refine wsr ?_
 replace B1 := B1.ext E2
 refine wrow row_impl_Field B1 (by exact Fld.size_cells _) ?_
 refine wcl (iValidField_any F hF _) ?_
 intro w3 E3
 refine wv (.bool (!(okB F))) ?_
 refine wpList_nil (then_normal ?_)
 have H2 := (H1.trans E2).trans E3
 refine wsplit (!(okB F)) (fun h1 => ?_) (fun h1 => ?_)
 · skip
   replace h1 := nbT h1
   refine wsr ?_
   refine wvv (.agg Tryz.zeroCells29) (.agg (Fld.cells Fld.zero)) (congrArg Value.agg zero_impl_Field) ?_
   replace B2 := B2.ext E3
   refine wput (Fld.cells Fld.zero) row_impl_Field B2 (by exact Fld.size_cells _) (by exact Fld.size_cells _) (by exact Fld.one_cells _) ?_
   intro w4 B2_ X1
   clear B2; have B2 := B2_; clear B2_
   refine wv (.int .i64 1) ?_
   refine wpList_nil (then_normal ?_)
   refine wp_ret ?_
   refine then_ret ?_
   have H3 := X1.ext w lo_g2 H2
   refine ret2 (.agg (Fld.cells (mirF F))) (.int .i64 (okC F)) rfl ?_ ?_ rfl ?_
   · refine ⟨g2, 29, (Fld.cells Fld.zero), _, by kernel_rfl, B2, row_impl_Field, ?_, ?_⟩
     · exact Fld.size_cells _
     · show (.agg (Fld.cells (mirF F)) : Value) = (.agg (Fld.cells Fld.zero))
       refine congrArg Value.agg ?_
       first | rw [mirF_f (by assumption)] | rw [mirF_t (by assumption)]
   · refine (resT (v := .int .i64 1) (by kernel_rfl)).trans ?_
     refine congrArg (Value.int _) ?_
     first | exact (okC_f (by assumption)).symm | exact (okC_t (by assumption)).symm
   exact ⟨rfl, H3⟩
 · skip
   replace h1 := nbF h1
   have ow_ := ok_wh h1
   refine wp_skip ?_
   refine then_normal ?_
   refine wsr ?_
   refine wv (.pointer (some ⟨g1, 0, none⟩)) ?_
   replace B1 := B1.ext E3
   refine wld g1 (0) scal_int8 (B1.get (Fld.get0 _)) ?_
   refine wv (.pointer (some ⟨g1, 1, none⟩)) ?_
   refine wld g1 (1) scal_int8 (B1.get (Fld.get1 _)) ?_
   refine wv (.func (.func 34) #[] #[.pointer (some ⟨g1, 0, none⟩)]) ?_
   refine wcl (moved_any F hF g1 _ F.w F.h (.func (.func 34) #[] #[.pointer (some ⟨g1, 0, none⟩)]) 34 (fun a_ b_ => #[.int .i64 a_, .int .i64 b_, .pointer (some ⟨g1, 0, none⟩)]) (mirQ F) (fun _ _ _ => by kernel_rfl) (fun c_ h_ => by have J_ := isB_W h_; unfold mirQ; omega) (by omega) (by omega) _ B1 (fun c_ I_ _ E_ => by have J_ := isB_W I_; exact MirrorField1_any (c_ % 10) (c_ / 10) (by omega) (by omega) F hF g1 _ _ (B1.ext E_))) ?_
   intro w5 E4
   replace B2 := (B2.ext E3).ext E4
   refine wput (Fld.cells (mvC F F.w F.h (mirQ F) 100)) row_impl_Field B2 (by exact Fld.size_cells _) (by exact Fld.size_cells _) (by exact Fld.one_cells _) ?_
   intro w6 B2_ X2
   clear B2; have B2 := B2_; clear B2_
   refine wv (.int .i64 0) ?_
   refine wpList_nil (then_normal ?_)
   refine wp_ret ?_
   have H4 := X2.ext w lo_g2 (H2.trans E4)
   refine ret2 (.agg (Fld.cells (mirF F))) (.int .i64 (okC F)) rfl ?_ ?_ rfl ?_
   · refine ⟨g2, 29, (Fld.cells (mvC F F.w F.h (mirQ F) 100)), _, by kernel_rfl, B2, row_impl_Field, ?_, ?_⟩
     · exact Fld.size_cells _
     · show (.agg (Fld.cells (mirF F)) : Value) = (.agg (Fld.cells (mvC F F.w F.h (mirQ F) 100)))
       refine congrArg Value.agg ?_
       first | rw [mirF_f (by assumption)] | rw [mirF_t (by assumption)]
   · refine (resT (v := .int .i64 0) (by kernel_rfl)).trans ?_
     refine congrArg (Value.int _) ?_
     first | exact (okC_f (by assumption)).symm | exact (okC_t (by assumption)).symm
   exact ⟨rfl, H4⟩


--# sTurnField_any
theorem sTurnField_any (F : Fld) (hF : F.wf) (w : World) :
 Calls Tryz.prog 15 #[.agg F.cells] w fun e w' => e = .returned (.tuple #[.agg (Fld.cells (turF F)), .int .i64 (okC F)]) ∧ Ext w w' := by
 have w1_ := hF.w1
 have w2_ := hF.w2
 have h1_ := hF.h1
 have h2_ := hF.h2
 refine calls_of_wp Tryz.func15 rfl ?_
 refine wp_frame (a' := ⟨#[.agg F.cells, undef, undef, undef, undef, undef, undef, undef, undef, undef, undef, undef, undef, undef, undef, undef, undef, undef, undef, undef, undef, undef, undef, undef, undef, undef, undef, undef, undef, undef, undef, undef, undef, undef, undef, undef, undef, undef], []⟩) (by kernel_rfl) ?_
 refine wsr ?_
 refine wbox F.cells ?_
 intro g1 w1 B1 E1 hg_
 have lo_g1 := Nat.le_trans ((Ext.refl w)).size hg_
 have H1 := (Ext.refl w).trans E1
 refine wnew (Fld.cells Fld.zero) Tryz.zeroValue29 zero_impl_Field ?_
 intro g2 w2 B2 E2 hg_
 have q_g1_g2 := Nat.ne_of_lt (Nat.lt_of_lt_of_le B1.lt hg_)
 have lo_g2 := Nat.le_trans (H1).size hg_
 refine wv (.int .i64 0) ?_
 refine wpList_nil (then_normal ?_)
 refine wp_seq ?_
 refine wsr ?_
 replace B1 := B1.ext E2
 refine wcl (l01Ok_any F hF g1 _ _ B1) ?_
 intro w3 E3
 refine wv (.bool (!(okB F))) ?_
 refine wpList_nil (then_normal ?_)
 have H2 := (H1.trans E2).trans E3
 refine wsplit (!(okB F)) (fun h1 => ?_) (fun h1 => ?_)
 · skip
   replace h1 := nbT h1
   refine wsr ?_
   refine wvv (.agg Tryz.zeroCells29) (.agg (Fld.cells Fld.zero)) (congrArg Value.agg zero_impl_Field) ?_
   replace B2 := B2.ext E3
   refine wput (Fld.cells Fld.zero) row_impl_Field B2 (by exact Fld.size_cells _) (by exact Fld.size_cells _) (by exact Fld.one_cells _) ?_
   intro w4 B2_ X1
   clear B2; have B2 := B2_; clear B2_
   refine wv (.int .i64 1) ?_
   refine wpList_nil (then_normal ?_)
   refine wp_ret ?_
   refine then_ret ?_
   have H3 := X1.ext w lo_g2 H2
   refine ret2 (.agg (Fld.cells (turF F))) (.int .i64 (okC F)) rfl ?_ ?_ rfl ?_
   · refine ⟨g2, 29, (Fld.cells Fld.zero), _, by kernel_rfl, B2, row_impl_Field, ?_, ?_⟩
     · exact Fld.size_cells _
     · show (.agg (Fld.cells (turF F)) : Value) = (.agg (Fld.cells Fld.zero))
       refine congrArg Value.agg ?_
       first | rw [turF_f (by assumption)] | rw [turF_t (by assumption)]
       try rw [show i = 100 by omega]
   · refine (resT (v := .int .i64 1) (by kernel_rfl)).trans ?_
     refine congrArg (Value.int _) ?_
     first | exact (okC_f (by assumption)).symm | exact (okC_t (by assumption)).symm
   exact ⟨rfl, H3⟩
 · skip
   replace h1 := nbF h1
   have ow_ := ok_wh h1
   refine wp_skip ?_
   refine then_normal ?_
   refine wsr ?_
   refine wv (.pointer (some ⟨g1, 1, none⟩)) ?_
   replace B1 := B1.ext E3
   refine wld g1 (1) scal_int8 (B1.get (Fld.get1 _)) ?_
   refine wv (.pointer (some ⟨g1, 0, none⟩)) ?_
   refine wld g1 (0) scal_int8 (B1.get (Fld.get0 _)) ?_
   refine wvv (.agg ((Tryz.zeroCells29.setIfInBounds 0 (.int .i8 F.h)).setIfInBounds 1 (.int .i8 F.w))) (.agg (Fld.cells (fldWH F.h F.w))) (build_wh _ _) ?_
   replace B2 := B2.ext E3
   refine wnew (Fld.cells Fld.zero) Tryz.zeroValue29 zero_impl_Field ?_
   intro g3 w5 B3 E4 hg_
   have q_g1_g3 := Nat.ne_of_lt (Nat.lt_of_lt_of_le B1.lt hg_)
   have q_g2_g3 := Nat.ne_of_lt (Nat.lt_of_lt_of_le B2.lt hg_)
   have lo_g3 := Nat.le_trans (H2).size hg_
   refine wput (Fld.cells (fldWH F.h F.w)) row_impl_Field B3 (by exact Fld.size_cells _) (by exact Fld.size_cells _) (by exact Fld.one_cells _) ?_
   intro w6 B3_ X2
   clear B3; have B3 := B3_; clear B3_
   refine wpList_nil (then_normal ?_)
   refine wp_seq ?_
   refine wsr ?_
   refine wv (.int .i64 0) ?_
   refine wpList_nil (then_normal ?_)
   refine wp_block ?_
   replace B1 := X2.blk (B1.ext E4) q_g1_g3
   replace B2 := X2.blk (B2.ext E4) q_g2_g3
   have H4 := X2.ext w lo_g3 (H2.trans E4)
   refine wp_loop_k (fun m1 a wl1 => ∃ (i : Nat), m1 = 100 - i ∧ i ≤ 100 ∧ Ext w wl1 ∧ Blk wl1 g1 29 F.cells ∧ Blk wl1 g2 29 (Fld.cells Fld.zero) ∧ Blk wl1 g3 29 (Fld.cells (mvC F F.h F.w (turQ F) i)) ∧ (∃ J1 : Nat → Value, a = ⟨#[.agg F.cells, .pointer (some ⟨g1, 0, none⟩), .pointer (some ⟨g2, 0, none⟩), .int .i64 0, .pointer (some ⟨g3, 0, none⟩), .int .i64 (i : Int), J1 6, J1 7, .bool (okB F), .bool (!(okB F)), undef, .pointer (some ⟨g1, 1, none⟩), .int .i8 F.h, .pointer (some ⟨g1, 0, none⟩), .int .i8 F.w, .agg (Fld.cells (fldWH F.h F.w)), J1 16, J1 17, J1 18, J1 19, J1 20, J1 21, J1 22, J1 23, J1 24, J1 25, J1 26, J1 27, J1 28, J1 29, J1 30, J1 31, J1 32, J1 33, J1 34, J1 35, J1 36, undef], []⟩)) (100) ?_ ?_
   · refine ⟨0, rfl, ?_, H4, B1, B2, ?_, exJ (by kernel_rfl)⟩
     · omega
     · rw [mvC_0]; exact B3
   intro m1 a wl1 hI
   obtain ⟨i, rfl, hi_, HL1, B1, B2, B3, J1, rfl⟩ := hI
   have tq_ : ∀ c, isB (fldWH F.h F.w) c = true → 0 ≤ turQ F (c % 10) (c / 10) ∧ turQ F (c % 10) (c / 10) ≤ 99 := fun c_ h_ => by have J_ := isB_W h_; unfold turQ; omega
   have mvwf_ := mvC_wf (n := i) hF (by omega) (by omega) tq_
   refine wp_seq ?_
   refine wsr ?_
   refine wv (.int .i64 (i : Int)) ?_
   refine wv (.bool (decide ((i : Int) < 100))) ?_
   refine wpList_nil (then_normal ?_)
   refine wsplit (decide ((i : Int) < 100)) (fun h2 => ?_) (fun h2 => ?_)
   · skip
     have h2d := dT h2
     refine wp_skip ?_
     refine then_normal ?_
     refine wp_seq ?_
     refine wp_block ?_
     refine wsr ?_
     refine wv (.int .i64 (i : Int)) ?_
     refine wcl (l01Is_any (mvC F F.h F.w (turQ F) i) mvwf_ g3 _ (i : Int) _ B3) ?_
     intro w7 E5
     refine wpList_nil (then_normal ?_)
     have H5 := HL1.trans E5
     refine wsplit (isB (mvC F F.h F.w (turQ F) i) (i : Int)) (fun h3 => ?_) (fun h3 => ?_)
     · skip
       have h3d := isB_true.1 h3
       have h3w := isB_W ((mvC_is hF tq_ _).symm.trans h3)
       refine wsr ?_
       refine wv (.int .i64 (i : Int)) ?_
       refine wrem (i : Int) 10 ?_
       refine wv (.int .i64 ((i : Int) % 10)) ?_
       refine wpList_nil (then_normal ?_)
       refine wsr ?_
       refine wv (.int .i64 (i : Int)) ?_
       refine wquo (i : Int) 10 ?_
       refine wv (.int .i64 ((i : Int) / 10)) ?_
       refine wpList_nil (then_normal ?_)
       refine wp_region_lit ?_
       refine wv (.int .i64 (i : Int)) ?_
       refine wv (.int .i64 ((i : Int) / 10)) ?_
       refine wv (.pointer (some ⟨g1, 1, none⟩)) ?_
       replace B1 := B1.ext E5
       refine wld g1 (1) scal_int8 (B1.get (Fld.get1 _)) ?_
       refine wi64 F.h ?_
       refine wi64 (F.h - 1) ?_
       refine wv (.int .i64 ((i : Int) % 10)) ?_
       refine wi64 ((F.h - 1) - ((i : Int) % 10)) ?_
       refine wi64 (10 * ((F.h - 1) - ((i : Int) % 10))) ?_
       refine wi64 (((i : Int) / 10) + (10 * ((F.h - 1) - ((i : Int) % 10)))) ?_
       replace B3 := B3.ext E5
       refine wcl (l01Copied_any (mvC F F.h F.w (turQ F) i) g3 _ (i : Int) F hF g1 _ (((i : Int) / 10) + (10 * ((F.h - 1) - ((i : Int) % 10)))) (Ne.symm q_g1_g3) (by omega) (by omega) _ B3 B1) ?_
       rintro w8 ⟨B3_, X3⟩
       clear B3; have B3 := B3_; clear B3_
       refine wpList_nil (block_normal (then_normal ?_))
       refine wp_region_lit ?_
       refine wv (.int .i64 (i : Int)) ?_
       refine wi64 ((i : Int) + 1) ?_
       refine wv (.int .i64 ((i : Int) + 1)) ?_
       refine wpList_nil (then_normal ?_)
       replace B1 := X3.blk B1 q_g1_g3
       replace B2 := X3.blk (B2.ext E5) q_g2_g3
       have H6 := X3.ext w lo_g3 H5
       refine ⟨_, ?_, i + 1, rfl, ?_, H6, B1, B2, ?_, exJ (by kernel_rfl)⟩
       · omega
       · omega
       · have e_ : { mvC F F.h F.w (turQ F) i with k := upd (mvC F F.h F.w (turQ F) i).k (i : Int).toNat (F.k (((i : Int) / 10) + (10 * ((F.h - 1) - ((i : Int) % 10)))).toNat), s := upd (mvC F F.h F.w (turQ F) i).s (i : Int).toNat (F.s (((i : Int) / 10) + (10 * ((F.h - 1) - ((i : Int) % 10)))).toNat) } = mvC F F.h F.w (turQ F) (i + 1) := (mvC_s (by first | assumption | (rw [isB_F]; assumption) | (rw [← mvC_is hF tq_]; assumption)) (by unfold turQ; omega)).symm
         rw [← e_]; exact B3
     · skip
       refine wp_skip ?_
       refine block_normal (then_normal ?_)
       refine wp_region_lit ?_
       refine wv (.int .i64 (i : Int)) ?_
       refine wi64 ((i : Int) + 1) ?_
       refine wv (.int .i64 ((i : Int) + 1)) ?_
       refine wpList_nil (then_normal ?_)
       replace B1 := B1.ext E5
       replace B2 := B2.ext E5
       replace B3 := B3.ext E5
       refine ⟨_, ?_, i + 1, rfl, ?_, H5, B1, B2, ?_, exJ (by kernel_rfl)⟩
       · omega
       · omega
       · rw [mvC_2 (by first | assumption | (rw [isB_F]; assumption) | (rw [← mvC_is hF tq_]; assumption))]; exact B3
   · skip
     have h2d := dF h2
     refine wp_exit ?_
     refine then_exit ?_
     refine then_exit ?_
     refine block_exit ?_
     refine then_normal ?_
     refine wsr ?_
     refine wrow row_impl_Field B3 (by exact Fld.size_cells _) ?_
     refine wput (Fld.cells (mvC F F.h F.w (turQ F) i)) row_impl_Field B2 (by exact Fld.size_cells _) (by exact Fld.size_cells _) (by exact Fld.one_cells _) ?_
     intro w9 B2_ X4
     clear B2; have B2 := B2_; clear B2_
     refine wv (.int .i64 0) ?_
     refine wpList_nil (then_normal ?_)
     refine wp_ret ?_
     have H7 := X4.ext w lo_g2 HL1
     refine ret2 (.agg (Fld.cells (turF F))) (.int .i64 (okC F)) rfl ?_ ?_ rfl ?_
     · refine ⟨g2, 29, (Fld.cells (mvC F F.h F.w (turQ F) i)), _, by kernel_rfl, B2, row_impl_Field, ?_, ?_⟩
       · exact Fld.size_cells _
       · show (.agg (Fld.cells (turF F)) : Value) = (.agg (Fld.cells (mvC F F.h F.w (turQ F) i)))
         refine congrArg Value.agg ?_
         first | rw [turF_f (by assumption)] | rw [turF_t (by assumption)]
         try rw [show i = 100 by omega]
     · refine (resT (v := .int .i64 0) (by kernel_rfl)).trans ?_
       refine congrArg (Value.int _) ?_
       first | exact (okC_f (by assumption)).symm | exact (okC_t (by assumption)).symm
     exact ⟨rfl, H7⟩


--# iTurnField_any
theorem iTurnField_any (F : Fld) (hF : F.wf) (w : World) :
 Calls Tryz.prog 14 #[.agg F.cells] w fun e w' => e = .returned (.tuple #[.agg (Fld.cells (turF F)), .int .i64 (okC F)]) ∧ Ext w w' := by
 have w1_ := hF.w1
 have w2_ := hF.w2
 have h1_ := hF.h1
 have h2_ := hF.h2
 refine calls_of_wp Tryz.func14 rfl ?_
 refine wp_frame (a' := ⟨#[.agg F.cells, undef, undef, undef, undef, undef, undef, undef, undef, undef, undef, undef, undef, undef], []⟩) (by kernel_rfl) ?_
 refine wsr ?_
 refine wbox F.cells ?_
 intro g1 w1 B1 E1 hg_
 have lo_g1 := Nat.le_trans ((Ext.refl w)).size hg_
 have H1 := (Ext.refl w).trans E1
 refine wnew (Fld.cells Fld.zero) Tryz.zeroValue29 zero_impl_Field ?_
 intro g2 w2 B2 E2 hg_
 have q_g1_g2 := Nat.ne_of_lt (Nat.lt_of_lt_of_le B1.lt hg_)
 have lo_g2 := Nat.le_trans (H1).size hg_
 refine wv (.int .i64 0) ?_
 refine wpList_nil (then_normal ?_)
 refine wp_seq ?_
 refine wsr ?_
 replace B1 := B1.ext E2
 refine wrow row_impl_Field B1 (by exact Fld.size_cells _) ?_
 refine wcl (iValidField_any F hF _) ?_
 intro w3 E3
 refine wv (.bool (!(okB F))) ?_
 refine wpList_nil (then_normal ?_)
 have H2 := (H1.trans E2).trans E3
 refine wsplit (!(okB F)) (fun h1 => ?_) (fun h1 => ?_)
 · skip
   replace h1 := nbT h1
   refine wsr ?_
   refine wvv (.agg Tryz.zeroCells29) (.agg (Fld.cells Fld.zero)) (congrArg Value.agg zero_impl_Field) ?_
   replace B2 := B2.ext E3
   refine wput (Fld.cells Fld.zero) row_impl_Field B2 (by exact Fld.size_cells _) (by exact Fld.size_cells _) (by exact Fld.one_cells _) ?_
   intro w4 B2_ X1
   clear B2; have B2 := B2_; clear B2_
   refine wv (.int .i64 1) ?_
   refine wpList_nil (then_normal ?_)
   refine wp_ret ?_
   refine then_ret ?_
   have H3 := X1.ext w lo_g2 H2
   refine ret2 (.agg (Fld.cells (turF F))) (.int .i64 (okC F)) rfl ?_ ?_ rfl ?_
   · refine ⟨g2, 29, (Fld.cells Fld.zero), _, by kernel_rfl, B2, row_impl_Field, ?_, ?_⟩
     · exact Fld.size_cells _
     · show (.agg (Fld.cells (turF F)) : Value) = (.agg (Fld.cells Fld.zero))
       refine congrArg Value.agg ?_
       first | rw [turF_f (by assumption)] | rw [turF_t (by assumption)]
   · refine (resT (v := .int .i64 1) (by kernel_rfl)).trans ?_
     refine congrArg (Value.int _) ?_
     first | exact (okC_f (by assumption)).symm | exact (okC_t (by assumption)).symm
   exact ⟨rfl, H3⟩
 · skip
   replace h1 := nbF h1
   have ow_ := ok_wh h1
   refine wp_skip ?_
   refine then_normal ?_
   refine wsr ?_
   refine wv (.pointer (some ⟨g1, 1, none⟩)) ?_
   replace B1 := B1.ext E3
   refine wld g1 (1) scal_int8 (B1.get (Fld.get1 _)) ?_
   refine wv (.pointer (some ⟨g1, 0, none⟩)) ?_
   refine wld g1 (0) scal_int8 (B1.get (Fld.get0 _)) ?_
   refine wv (.func (.func 40) #[] #[.pointer (some ⟨g1, 0, none⟩)]) ?_
   refine wcl (moved_any F hF g1 _ F.h F.w (.func (.func 40) #[] #[.pointer (some ⟨g1, 0, none⟩)]) 40 (fun a_ b_ => #[.int .i64 a_, .int .i64 b_, .pointer (some ⟨g1, 0, none⟩)]) (turQ F) (fun _ _ _ => by kernel_rfl) (fun c_ h_ => by have J_ := isB_W h_; unfold turQ; omega) (by omega) (by omega) _ B1 (fun c_ I_ _ E_ => by have J_ := isB_W I_; exact TurnField1_any (c_ % 10) (c_ / 10) (by omega) (by omega) F hF g1 _ _ (B1.ext E_))) ?_
   intro w5 E4
   replace B2 := (B2.ext E3).ext E4
   refine wput (Fld.cells (mvC F F.h F.w (turQ F) 100)) row_impl_Field B2 (by exact Fld.size_cells _) (by exact Fld.size_cells _) (by exact Fld.one_cells _) ?_
   intro w6 B2_ X2
   clear B2; have B2 := B2_; clear B2_
   refine wv (.int .i64 0) ?_
   refine wpList_nil (then_normal ?_)
   refine wp_ret ?_
   have H4 := X2.ext w lo_g2 (H2.trans E4)
   refine ret2 (.agg (Fld.cells (turF F))) (.int .i64 (okC F)) rfl ?_ ?_ rfl ?_
   · refine ⟨g2, 29, (Fld.cells (mvC F F.h F.w (turQ F) 100)), _, by kernel_rfl, B2, row_impl_Field, ?_, ?_⟩
     · exact Fld.size_cells _
     · show (.agg (Fld.cells (turF F)) : Value) = (.agg (Fld.cells (mvC F F.h F.w (turQ F) 100)))
       refine congrArg Value.agg ?_
       first | rw [turF_f (by assumption)] | rw [turF_t (by assumption)]
   · refine (resT (v := .int .i64 0) (by kernel_rfl)).trans ?_
     refine congrArg (Value.int _) ?_
     first | exact (okC_f (by assumption)).symm | exact (okC_t (by assumption)).symm
   exact ⟨rfl, H4⟩

end Go.Proofs.YteiplklloajjaaaGreatDoor
