/-
  Contracts: shifts. No conditions.
-/
import Derived.Test.YtbjcloilcpoafaaTy
import Derived.Test.YtbjcloilcpoafaaSl
import Derived.Test.YtbjcloilcpoafaaMth
import Derived.Test.YtbjcloilcpoafaaFn7
import Derived.Test.YtbjcloilcpoafaaMth3
namespace Go.Proofs.Ytbjcloilcpoafaa
open Go.RowKit
set_option linter.unusedSimpArgs false
set_option linter.unusedVariables false
set_option maxHeartbeats 4000000
set_option maxRecDepth 100000
attribute [local irreducible] wpList Code.wp
--# indexFunc_any
theorem indexFunc_any (xs : List Int) (n b cap : Nat) (cs : Array Value) (hS : SlI cs n cap .i64 xs) (V : Value) (fn : FuncId) (full : Int → Array Value) (p : Int → Bool) (hV : ∀ c, Clo Try.prog V #[.int .i64 c] fn (full c)) (hn : n ≤ 1048576) (w : World) (hb : Blk w b 2 cs) (hc : ∀ i, i < xs.length → ∀ w', Ext w w' → Calls Try.prog fn (full (atI xs i)) w' fun e w'' => e = .returned (.bool (p (atI xs i))) ∧ Ext w' w'') :
 Calls Try.prog 127 #[.slice (some ⟨b, 0, none⟩) n cap, V] w fun e w' => e = .returned (.int .i64 (idxL xs p)) ∧ Ext w w' := by
 have hn_ := hS.len
 refine calls_of_wp Try.func127 rfl ?_
 refine wp_frame (a' := ⟨#[.slice (some ⟨b, 0, none⟩) n cap, V, undef, undef, undef, undef, undef, undef, undef, undef, undef, undef, undef, undef, undef, undef, undef, undef, undef], []⟩) (by kernel_rfl) ?_
 refine wsr ?_
 refine wv (.int .i64 0) ?_
 refine wpList_nil (then_normal ?_)
 refine wp_seq ?_
 refine wsr ?_
 refine wv (.slice (some ⟨b, 0, none⟩) n cap) ?_
 refine wv (.int .i64 (n : Int)) ?_
 refine wv (.int .i64 0) ?_
 refine wpList_nil (then_normal ?_)
 refine wp_block ?_
 refine wp_loop_k (fun m1 a wl1 => ∃ (i : Nat), m1 = n - i ∧ i ≤ n ∧ (∀ j, j < i → p (atI xs j) = false) ∧ Ext w wl1 ∧ Blk wl1 b 2 cs ∧ (∃ J1 : Nat → Value, a = ⟨#[.slice (some ⟨b, 0, none⟩) n cap, V, undef, undef, J1 4, J1 5, .slice (some ⟨b, 0, none⟩) n cap, .int .i64 (n : Int), .int .i64 (i : Int), J1 9, J1 10, J1 11, J1 12, J1 13, J1 14, J1 15, J1 16, J1 17, J1 18], []⟩)) (n) ?_ ?_
 · refine ⟨0, rfl, ?_, ?_, (Ext.refl w), hb, exJ (by kernel_rfl)⟩
   · omega
   · intro j hj; omega
 intro m1 a wl1 hI
 obtain ⟨i, rfl, hi_, hall, HL1, hb, J1, rfl⟩ := hI
 refine wsr ?_
 refine wv (.bool (decide ((i : Int) < (n : Int)))) ?_
 refine wpList_nil (then_normal ?_)
 refine wp_seq ?_
 refine wsplit (decide ((i : Int) < (n : Int))) (fun h1 => ?_) (fun h1 => ?_)
 · skip
   have h1d := dT h1
   refine wp_skip ?_
   refine then_normal ?_
   refine wp_seq ?_
   refine wp_block ?_
   refine wsr ?_
   refine wv (.int .i64 (i : Int)) ?_
   refine wv (.int .i64 (i : Int)) ?_
   refine wpList_nil (then_normal ?_)
   refine wsr ?_
   refine wv V ?_
   refine wv (.slice (some ⟨b, 0, none⟩) n cap) ?_
   refine wv (.int .i64 (i : Int)) ?_
   refine wsix1 b 0 n cap i .i64 slit__int64 ?_
   refine wld b (0 + i) scal_int64 (hb.get (SlI.get hS (by omega))) ?_
   refine wcl (he := (Eq.trans (b := (callV V #[.int .i64 (atI xs i)]).run Try.prog _) (by kernel_rfl) (hV (atI xs i) _))) (hc _ (by omega) _ HL1) ?_
   intro w1 E1
   refine wpList_nil (then_normal ?_)
   refine wsplit (p (atI xs i)) (fun h2 => ?_) (fun h2 => ?_)
   · skip
     refine wsr ?_
     refine wv (.int .i64 (i : Int)) ?_
     refine wv (.int .i64 (i : Int)) ?_
     refine wpList_nil (then_normal ?_)
     refine wp_ret ?_
     refine block_ret (then_ret (then_ret (block_ret (then_ret ?_))))
     have H1 := HL1.trans E1
     refine ret1 (.int .i64 (idxL xs p)) rfl ?_ rfl ?_
     · refine (resT (v := .int .i64 (i : Int)) (by kernel_rfl)).trans ?_
       refine congrArg (Value.int _) ?_
       first | exact (idxL_at i (by omega) hall (by assumption)).symm | exact (idxL_none (fun j hj => hall j (by omega))).symm
     exact ⟨rfl, H1⟩
   · skip
     refine wp_skip ?_
     refine block_normal (then_normal ?_)
     refine wp_region_lit ?_
     refine wi64 ((i : Int) + 1) ?_
     refine wv (.int .i64 ((i : Int) + 1)) ?_
     refine wpList_nil (then_normal ?_)
     replace hb := hb.ext E1
     have H2 := HL1.trans E1
     refine ⟨_, ?_, i + 1, rfl, ?_, ?_, H2, hb, exJ (by kernel_rfl)⟩
     · omega
     · omega
     · exact false_step hall (by assumption)
 · skip
   have h1d := dF h1
   refine wp_exit ?_
   refine then_exit ?_
   refine then_exit ?_
   refine block_exit ?_
   refine then_normal ?_
   refine wsr ?_
   refine wv (.int .i64 (-1)) ?_
   refine wpList_nil (then_normal ?_)
   refine wp_ret ?_
   refine ret1 (.int .i64 (idxL xs p)) rfl ?_ rfl ?_
   · refine (resT (v := .int .i64 (-1)) (by kernel_rfl)).trans ?_
     refine congrArg (Value.int _) ?_
     first | exact (idxL_at i (by omega) hall (by assumption)).symm | exact (idxL_none (fun j hj => hall j (by omega))).symm
   exact ⟨rfl, HL1⟩


--# containsFunc_any
theorem containsFunc_any (xs : List Int) (n b cap : Nat) (cs : Array Value) (hS : SlI cs n cap .i64 xs) (V : Value) (fn : FuncId) (full : Int → Array Value) (p : Int → Bool) (hV : ∀ c, Clo Try.prog V #[.int .i64 c] fn (full c)) (hn : n ≤ 1048576) (w : World) (hb : Blk w b 2 cs) (hc : ∀ i, i < xs.length → ∀ w', Ext w w' → Calls Try.prog fn (full (atI xs i)) w' fun e w'' => e = .returned (.bool (p (atI xs i))) ∧ Ext w' w'') :
 Calls Try.prog 107 #[.slice (some ⟨b, 0, none⟩) n cap, V] w fun e w' => e = .returned (.bool (decide (0 ≤ idxL xs p))) ∧ Ext w w' := by
 refine calls_of_wp Try.func107 rfl ?_
 refine wp_frame (a' := ⟨#[.slice (some ⟨b, 0, none⟩) n cap, V, undef, undef, undef, undef, undef, undef, undef], []⟩) (by kernel_rfl) ?_
 refine wsr ?_
 refine wv (.bool false) ?_
 refine wpList_nil (then_normal ?_)
 refine wsr ?_
 refine wv (.slice (some ⟨b, 0, none⟩) n cap) ?_
 refine wv V ?_
 refine wcl (indexFunc_any xs n b cap cs hS V fn full p hV (by omega) _ hb (fun i_ h_ w_ E_ => hc i_ (by omega) w_ (((Ext.refl w)).trans E_))) ?_
 intro w1 E1
 refine wv (.bool (decide (0 ≤ idxL xs p))) ?_
 refine wv (.bool (decide (0 ≤ idxL xs p))) ?_
 refine wpList_nil (then_normal ?_)
 refine wp_ret ?_
 have H1 := (Ext.refl w).trans E1
 refine ret1 (.bool (decide (0 ≤ idxL xs p))) rfl ?_ rfl ?_
 · exact resT (by kernel_rfl)
 exact ⟨rfl, H1⟩


--# indexFunc_nil
theorem indexFunc_nil (V : Value) (w : World) :
 Calls Try.prog 127 #[.slice none 0 0, V] w fun e w' => e = .returned (.int .i64 (-1)) ∧ Ext w w' := by
 refine calls_of_wp Try.func127 rfl ?_
 refine wp_frame (a' := ⟨#[.slice none 0 0, V, undef, undef, undef, undef, undef, undef, undef, undef, undef, undef, undef, undef, undef, undef, undef, undef, undef], []⟩) (by kernel_rfl) ?_
 refine wsr ?_
 refine wv (.int .i64 0) ?_
 refine wpList_nil (then_normal ?_)
 refine wp_seq ?_
 refine wsr ?_
 refine wv (.slice none 0 0) ?_
 refine wv (.int .i64 0) ?_
 refine wv (.int .i64 0) ?_
 refine wpList_nil (then_normal ?_)
 refine wp_block ?_
 refine wp_loop_rounds 1 ?_
 refine rounds_s ?_
 refine wsr ?_
 refine wv (.bool false) ?_
 refine wpList_nil (then_normal ?_)
 refine wp_seq ?_
 refine wcf ?_
 refine wp_exit ?_
 refine then_exit ?_
 refine then_exit ?_
 refine block_exit ?_
 refine then_normal ?_
 refine wsr ?_
 refine wv (.int .i64 (-1)) ?_
 refine wpList_nil (then_normal ?_)
 refine wp_ret ?_
 refine ret1 (.int .i64 (-1)) rfl ?_ rfl ?_
 · exact resT (by kernel_rfl)
 exact ⟨rfl, (Ext.refl w)⟩


--# containsFunc_nil
theorem containsFunc_nil (V : Value) (w : World) :
 Calls Try.prog 107 #[.slice none 0 0, V] w fun e w' => e = .returned (.bool false) ∧ Ext w w' := by
 refine calls_of_wp Try.func107 rfl ?_
 refine wp_frame (a' := ⟨#[.slice none 0 0, V, undef, undef, undef, undef, undef, undef, undef], []⟩) (by kernel_rfl) ?_
 refine wsr ?_
 refine wv (.bool false) ?_
 refine wpList_nil (then_normal ?_)
 refine wsr ?_
 refine wv (.slice none 0 0) ?_
 refine wv V ?_
 refine wcl (indexFunc_nil V _) ?_
 intro w1 E1
 refine wv (.bool false) ?_
 refine wv (.bool false) ?_
 refine wpList_nil (then_normal ?_)
 refine wp_ret ?_
 have H1 := (Ext.refl w).trans E1
 refine ret1 (.bool false) rfl ?_ rfl ?_
 · exact resT (by kernel_rfl)
 exact ⟨rfl, H1⟩


--# areShifts1_any
theorem areShifts1_any (c : Int) (w : World) :
 Calls Try.prog 108 #[.int .i64 c] w fun e w' => e = .returned (.bool (!inB c 0 20)) ∧ Ext w w' := by
 refine calls_of_wp Try.func108 rfl ?_
 refine wp_frame (a' := ⟨#[.int .i64 c, undef, undef, undef, undef, undef], []⟩) (by kernel_rfl) ?_
 refine wsr ?_
 refine wv (.bool false) ?_
 refine wpList_nil (then_normal ?_)
 refine wsr ?_
 refine wv (.int .i64 c) ?_
 refine wcl (within_any c 0 20 _) ?_
 intro w1 E1
 refine wv (.bool (!(inB c 0 20))) ?_
 refine wv (.bool (!(inB c 0 20))) ?_
 refine wpList_nil (then_normal ?_)
 refine wp_ret ?_
 have H1 := (Ext.refl w).trans E1
 refine ret1 (.bool (!inB c 0 20)) rfl ?_ rfl ?_
 · refine (resT (v := .bool (!(inB c 0 20))) (by kernel_rfl)).trans ?_
   refine congrArg Value.bool ?_
   rfl
 exact ⟨rfl, H1⟩


--# areShifts2_any
theorem areShifts2_any (c : Int) (bs : Option Addr) (n cap : Nat) (hn : n ≤ 1048576) (b0 : Nat) (t0 : TypeId) (w : World) (hb0 : Blk w b0 t0 #[.slice bs n cap]) :
 Calls Try.prog 109 #[.int .i64 c, .pointer (some ⟨b0, 0, none⟩)] w fun e w' => e = .returned (.bool (!inB c 0 ((n : Int) - 1))) ∧ Ext w w' := by
 refine calls_of_wp Try.func109 rfl ?_
 refine wp_frame (a' := ⟨#[.int .i64 c, .pointer (some ⟨b0, 0, none⟩), undef, undef, undef, undef, undef, undef, undef, undef], []⟩) (by kernel_rfl) ?_
 refine wsr ?_
 refine wv (.bool false) ?_
 refine wpList_nil (then_normal ?_)
 refine wsr ?_
 refine wv (.int .i64 c) ?_
 refine wld (v := .slice bs n cap) b0 (0) scal__int64 (hb0.get (rfl)) ?_
 refine wv (.int .i64 (n : Int)) ?_
 refine wi64 ((n : Int) - 1) ?_
 refine wcl (within_any c 0 ((n : Int) - 1) _) ?_
 intro w1 E1
 refine wv (.bool (!(inB c 0 ((n : Int) - 1)))) ?_
 refine wv (.bool (!(inB c 0 ((n : Int) - 1)))) ?_
 refine wpList_nil (then_normal ?_)
 refine wp_ret ?_
 have H1 := (Ext.refl w).trans E1
 refine ret1 (.bool (!inB c 0 ((n : Int) - 1))) rfl ?_ rfl ?_
 · refine (resT (v := .bool (!(inB c 0 ((n : Int) - 1)))) (by kernel_rfl)).trans ?_
   refine congrArg Value.bool ?_
   rfl
 exact ⟨rfl, H1⟩


--# areShifts_any
theorem areShifts_any (need : List Int) (n b cap : Nat) (cs : Array Value) (hS : SlI cs n cap .i64 need) (len : Int) (starts : List Int) (n2 b2 cap2 : Nat) (cs2 : Array Value) (hS2 : SlI cs2 n2 cap2 .i64 starts) (hn : n ≤ 1048576) (hn2 : n2 ≤ 1048576) (w : World) (hb : Blk w b 2 cs) (hb2 : Blk w b2 2 cs2) :
 Calls Try.prog 54 #[.slice (some ⟨b, 0, none⟩) n cap, .int .i64 len, .slice (some ⟨b2, 0, none⟩) n2 cap2] w fun e w' => e = .returned (.bool (shB need len starts)) ∧ Ext w w' := by
 have hn_ := hS.len
 have hn2_ := hS2.len
 refine calls_of_wp Try.func54 rfl ?_
 refine wp_frame (a' := ⟨#[.slice (some ⟨b, 0, none⟩) n cap, .int .i64 len, .slice (some ⟨b2, 0, none⟩) n2 cap2, undef, undef, undef, undef, undef, undef, undef, undef, undef, undef, undef, undef, undef, undef, undef, undef, undef, undef, undef, undef, undef, undef], []⟩) (by kernel_rfl) ?_
 refine wsr ?_
 refine wboxv (.slice (some ⟨b, 0, none⟩) n cap) ?_
 intro g1 w1 B1 E1 _
 refine wv (.bool false) ?_
 refine wpList_nil (then_normal ?_)
 refine wsr ?_
 refine wld (v := .slice (some ⟨b, 0, none⟩) n cap) g1 (0) scal__int64 (B1.get (rfl)) ?_
 refine wv (.int .i64 (n : Int)) ?_
 refine wv (.bool (decide ((n : Int) ≤ 48))) ?_
 refine wv (.bool (decide ((n : Int) ≤ 48))) ?_
 refine split_bool (decide ((n : Int) ≤ 48)) (fun h1 => ?_) (fun h1 => ?_)
 · skip
   refine wbl 10 true h1 ?_
   have h1d := dT h1
   refine wv (.int .i64 len) ?_
   refine wcl (within_any len 1 48 _) ?_
   intro w2 E2
   refine wv (.bool (inB len 1 48)) ?_
   refine wv (.bool (inB len 1 48)) ?_
   have H1 := ((Ext.refl w).trans E1).trans E2
   refine split_bool (inB len 1 48) (fun h2 => ?_) (fun h2 => ?_)
   · skip
     refine wbl 14 true h2 ?_
     have h2d := inT h2
     replace B1 := B1.ext E2
     refine wld (v := .slice (some ⟨b, 0, none⟩) n cap) g1 (0) scal__int64 (B1.get (rfl)) ?_
     replace hb := (hb.ext E1).ext E2
     refine wcl (containsFunc_any need n b cap cs hS (.func (.func 108) #[] #[]) 108 (fun c_ => #[.int .i64 c_]) (fun c_ => !inB c_ 0 20) (fun _ _ => by kernel_rfl) (by omega) _ hb (fun i_ h_ w_ E_ => areShifts1_any (atI need i_) _)) ?_
     intro w3 E3
     refine wv (.bool (!(decide (0 ≤ idxL need (fun c_ => !inB c_ 0 20))))) ?_
     refine wv (.bool (!(decide (0 ≤ idxL need (fun c_ => !inB c_ 0 20))))) ?_
     refine wv (.bool (!(decide (0 ≤ idxL need (fun c_ => !inB c_ 0 20))))) ?_
     refine split_bool (decide (0 ≤ idxL need (fun c_ => !inB c_ 0 20))) (fun h3 => ?_) (fun h3 => ?_)
     · skip
       refine wbl 19 false (bnT h3) ?_
       have h3d := dT h3
       refine wsk ?_
       refine wsk ?_
       refine wsk ?_
       refine wsk ?_
       refine wv (.bool false) ?_
       refine wv (.bool false) ?_
       refine wpList_nil (then_normal ?_)
       refine wp_ret ?_
       have H2 := H1.trans E3
       refine ret1 (.bool (shB need len starts)) rfl ?_ rfl ?_
       · refine (resT (v := .bool false) (by kernel_rfl)).trans ?_
         refine congrArg Value.bool ?_
         first | exact (shB_1 hn_ (by omega)).symm | exact (shB_2 (by assumption)).symm | exact (shB_3 (by assumption)).symm | exact (shB_4 hn_ (by omega) (by assumption) (by assumption)).symm | exact (shB_5 hn_ (by omega) (by assumption) (by assumption)).symm
       exact ⟨rfl, H2⟩
     · skip
       refine wbl 19 true (bnF h3) ?_
       have h3d := dF h3
       refine wv (.slice (some ⟨b2, 0, none⟩) n2 cap2) ?_
       refine wv (.func (.func 109) #[] #[.pointer (some ⟨g1, 0, none⟩)]) ?_
       replace hb2 := ((hb2.ext E1).ext E2).ext E3
       replace B1 := B1.ext E3
       refine wcl (containsFunc_any starts n2 b2 cap2 cs2 hS2 (.func (.func 109) #[] #[.pointer (some ⟨g1, 0, none⟩)]) 109 (fun c_ => #[.int .i64 c_, .pointer (some ⟨g1, 0, none⟩)]) (fun c_ => !inB c_ 0 ((n : Int) - 1)) (fun _ _ => by kernel_rfl) (by omega) _ hb2 (fun i_ h_ w_ E_ => areShifts2_any (atI starts i_) (some ⟨b, 0, none⟩) n cap (by omega) g1 _ _ (B1.ext E_))) ?_
       intro w4 E4
       refine wv (.bool (!(decide (0 ≤ idxL starts (fun c_ => !inB c_ 0 ((n : Int) - 1)))))) ?_
       refine wv (.bool (!(decide (0 ≤ idxL starts (fun c_ => !inB c_ 0 ((n : Int) - 1)))))) ?_
       refine wv (.bool (!(decide (0 ≤ idxL starts (fun c_ => !inB c_ 0 ((n : Int) - 1)))))) ?_
       refine wpList_nil (then_normal ?_)
       refine wp_ret ?_
       have H3 := (H1.trans E3).trans E4
       refine ret1 (.bool (shB need len starts)) rfl ?_ rfl ?_
       · refine (resT (v := .bool (!(decide (0 ≤ idxL starts (fun c_ => !inB c_ 0 ((n : Int) - 1)))))) (by kernel_rfl)).trans ?_
         refine congrArg Value.bool ?_
         first | exact (shB_1 hn_ (by omega)).symm | exact (shB_2 (by assumption)).symm | exact (shB_3 (by assumption)).symm | exact (shB_4 hn_ (by omega) (by assumption) (by assumption)).symm | exact (shB_5 hn_ (by omega) (by assumption) (by assumption)).symm
       exact ⟨rfl, H3⟩
   · skip
     refine wbl 14 false h2 ?_
     have h2d := inF h2
     refine wsk ?_
     refine wsk ?_
     refine wsk ?_
     refine wv (.bool false) ?_
     refine wv (.bool false) ?_
     refine wsk ?_
     refine wsk ?_
     refine wsk ?_
     refine wsk ?_
     refine wv (.bool false) ?_
     refine wv (.bool false) ?_
     refine wpList_nil (then_normal ?_)
     refine wp_ret ?_
     refine ret1 (.bool (shB need len starts)) rfl ?_ rfl ?_
     · refine (resT (v := .bool false) (by kernel_rfl)).trans ?_
       refine congrArg Value.bool ?_
       first | exact (shB_1 hn_ (by omega)).symm | exact (shB_2 (by assumption)).symm | exact (shB_3 (by assumption)).symm | exact (shB_4 hn_ (by omega) (by assumption) (by assumption)).symm | exact (shB_5 hn_ (by omega) (by assumption) (by assumption)).symm
     exact ⟨rfl, H1⟩
 · skip
   refine wbl 10 false h1 ?_
   have h1d := dF h1
   refine wsk ?_
   refine wsk ?_
   refine wv (.bool false) ?_
   refine wv (.bool false) ?_
   refine wsk ?_
   refine wsk ?_
   refine wsk ?_
   refine wv (.bool false) ?_
   refine wv (.bool false) ?_
   refine wsk ?_
   refine wsk ?_
   refine wsk ?_
   refine wsk ?_
   refine wv (.bool false) ?_
   refine wv (.bool false) ?_
   refine wpList_nil (then_normal ?_)
   refine wp_ret ?_
   have H4 := (Ext.refl w).trans E1
   refine ret1 (.bool (shB need len starts)) rfl ?_ rfl ?_
   · refine (resT (v := .bool false) (by kernel_rfl)).trans ?_
     refine congrArg Value.bool ?_
     first | exact (shB_1 hn_ (by omega)).symm | exact (shB_2 (by assumption)).symm | exact (shB_3 (by assumption)).symm | exact (shB_4 hn_ (by omega) (by assumption) (by assumption)).symm | exact (shB_5 hn_ (by omega) (by assumption) (by assumption)).symm
   exact ⟨rfl, H4⟩


--# areShifts_nil
theorem areShifts_nil (need : List Int) (n b cap : Nat) (cs : Array Value) (hS : SlI cs n cap .i64 need) (len : Int) (hn : n ≤ 1048576) (w : World) (hb : Blk w b 2 cs) :
 Calls Try.prog 54 #[.slice (some ⟨b, 0, none⟩) n cap, .int .i64 len, .slice none 0 0] w fun e w' => e = .returned (.bool (shB need len [])) ∧ Ext w w' := by
 have hn_ := hS.len
 refine calls_of_wp Try.func54 rfl ?_
 refine wp_frame (a' := ⟨#[.slice (some ⟨b, 0, none⟩) n cap, .int .i64 len, .slice none 0 0, undef, undef, undef, undef, undef, undef, undef, undef, undef, undef, undef, undef, undef, undef, undef, undef, undef, undef, undef, undef, undef, undef], []⟩) (by kernel_rfl) ?_
 refine wsr ?_
 refine wboxv (.slice (some ⟨b, 0, none⟩) n cap) ?_
 intro g1 w1 B1 E1 _
 refine wv (.bool false) ?_
 refine wpList_nil (then_normal ?_)
 refine wsr ?_
 refine wld (v := .slice (some ⟨b, 0, none⟩) n cap) g1 (0) scal__int64 (B1.get (rfl)) ?_
 refine wv (.int .i64 (n : Int)) ?_
 refine wv (.bool (decide ((n : Int) ≤ 48))) ?_
 refine wv (.bool (decide ((n : Int) ≤ 48))) ?_
 refine split_bool (decide ((n : Int) ≤ 48)) (fun h1 => ?_) (fun h1 => ?_)
 · skip
   refine wbl 10 true h1 ?_
   have h1d := dT h1
   refine wv (.int .i64 len) ?_
   refine wcl (within_any len 1 48 _) ?_
   intro w2 E2
   refine wv (.bool (inB len 1 48)) ?_
   refine wv (.bool (inB len 1 48)) ?_
   have H1 := ((Ext.refl w).trans E1).trans E2
   refine split_bool (inB len 1 48) (fun h2 => ?_) (fun h2 => ?_)
   · skip
     refine wbl 14 true h2 ?_
     have h2d := inT h2
     replace B1 := B1.ext E2
     refine wld (v := .slice (some ⟨b, 0, none⟩) n cap) g1 (0) scal__int64 (B1.get (rfl)) ?_
     replace hb := (hb.ext E1).ext E2
     refine wcl (containsFunc_any need n b cap cs hS (.func (.func 108) #[] #[]) 108 (fun c_ => #[.int .i64 c_]) (fun c_ => !inB c_ 0 20) (fun _ _ => by kernel_rfl) (by omega) _ hb (fun i_ h_ w_ E_ => areShifts1_any (atI need i_) _)) ?_
     intro w3 E3
     refine wv (.bool (!(decide (0 ≤ idxL need (fun c_ => !inB c_ 0 20))))) ?_
     refine wv (.bool (!(decide (0 ≤ idxL need (fun c_ => !inB c_ 0 20))))) ?_
     refine wv (.bool (!(decide (0 ≤ idxL need (fun c_ => !inB c_ 0 20))))) ?_
     refine split_bool (decide (0 ≤ idxL need (fun c_ => !inB c_ 0 20))) (fun h3 => ?_) (fun h3 => ?_)
     · skip
       refine wbl 19 false (bnT h3) ?_
       have h3d := dT h3
       refine wsk ?_
       refine wsk ?_
       refine wsk ?_
       refine wsk ?_
       refine wv (.bool false) ?_
       refine wv (.bool false) ?_
       refine wpList_nil (then_normal ?_)
       refine wp_ret ?_
       have H2 := H1.trans E3
       refine ret1 (.bool (shB need len [])) rfl ?_ rfl ?_
       · refine (resT (v := .bool false) (by kernel_rfl)).trans ?_
         refine congrArg Value.bool ?_
         first | exact (shB_1 hn_ (by omega)).symm | exact (shB_2 (by assumption)).symm | exact (shB_3 (by assumption)).symm | exact (shB_4 hn_ (by omega) (by assumption) (by assumption)).symm | exact (shB_5 hn_ (by omega) (by assumption) (by assumption)).symm
       exact ⟨rfl, H2⟩
     · skip
       refine wbl 19 true (bnF h3) ?_
       have h3d := dF h3
       refine wv (.slice none 0 0) ?_
       refine wv (.func (.func 109) #[] #[.pointer (some ⟨g1, 0, none⟩)]) ?_
       replace B1 := B1.ext E3
       refine wcl (containsFunc_nil (.func (.func 109) #[] #[.pointer (some ⟨g1, 0, none⟩)]) _) ?_
       intro w4 E4
       refine wv (.bool true) ?_
       refine wv (.bool true) ?_
       refine wv (.bool true) ?_
       refine wpList_nil (then_normal ?_)
       refine wp_ret ?_
       have H3 := (H1.trans E3).trans E4
       refine ret1 (.bool (shB need len [])) rfl ?_ rfl ?_
       · refine (resT (v := .bool true) (by kernel_rfl)).trans ?_
         refine congrArg Value.bool ?_
         first | exact (shB_1 hn_ (by omega)).symm | exact (shB_2 (by assumption)).symm | exact (shB_3 (by assumption)).symm | exact (shB_4 hn_ (by omega) (by assumption) (by assumption)).symm | exact (shB_5 hn_ (by omega) (by assumption) (by assumption)).symm
       exact ⟨rfl, H3⟩
   · skip
     refine wbl 14 false h2 ?_
     have h2d := inF h2
     refine wsk ?_
     refine wsk ?_
     refine wsk ?_
     refine wv (.bool false) ?_
     refine wv (.bool false) ?_
     refine wsk ?_
     refine wsk ?_
     refine wsk ?_
     refine wsk ?_
     refine wv (.bool false) ?_
     refine wv (.bool false) ?_
     refine wpList_nil (then_normal ?_)
     refine wp_ret ?_
     refine ret1 (.bool (shB need len [])) rfl ?_ rfl ?_
     · refine (resT (v := .bool false) (by kernel_rfl)).trans ?_
       refine congrArg Value.bool ?_
       first | exact (shB_1 hn_ (by omega)).symm | exact (shB_2 (by assumption)).symm | exact (shB_3 (by assumption)).symm | exact (shB_4 hn_ (by omega) (by assumption) (by assumption)).symm | exact (shB_5 hn_ (by omega) (by assumption) (by assumption)).symm
     exact ⟨rfl, H1⟩
 · skip
   refine wbl 10 false h1 ?_
   have h1d := dF h1
   refine wsk ?_
   refine wsk ?_
   refine wv (.bool false) ?_
   refine wv (.bool false) ?_
   refine wsk ?_
   refine wsk ?_
   refine wsk ?_
   refine wv (.bool false) ?_
   refine wv (.bool false) ?_
   refine wsk ?_
   refine wsk ?_
   refine wsk ?_
   refine wsk ?_
   refine wv (.bool false) ?_
   refine wv (.bool false) ?_
   refine wpList_nil (then_normal ?_)
   refine wp_ret ?_
   have H4 := (Ext.refl w).trans E1
   refine ret1 (.bool (shB need len [])) rfl ?_ rfl ?_
   · refine (resT (v := .bool false) (by kernel_rfl)).trans ?_
     refine congrArg Value.bool ?_
     first | exact (shB_1 hn_ (by omega)).symm | exact (shB_2 (by assumption)).symm | exact (shB_3 (by assumption)).symm | exact (shB_4 hn_ (by omega) (by assumption) (by assumption)).symm | exact (shB_5 hn_ (by omega) (by assumption) (by assumption)).symm
   exact ⟨rfl, H4⟩


--# working_any
theorem working_any (xs : List Int) (n b cap : Nat) (cs : Array Value) (hS : SlI cs n cap .i64 xs) (len : Int) (h : Int) (hn : n ≤ 1048576) (hsb : ∀ i, i < n → 0 ≤ atI xs i ∧ atI xs i ≤ 1000) (hl : 1 ≤ len ∧ len ≤ 48) (w : World) (hb : Blk w b 2 cs) :
 Calls Try.prog 55 #[.slice (some ⟨b, 0, none⟩) n cap, .int .i64 len, .int .i64 h] w fun e w' => e = .returned (.int .i64 (wkL xs len h)) ∧ Ext w w' := by
 have hn_ := hS.len
 refine calls_of_wp Try.func55 rfl ?_
 refine wp_frame (a' := ⟨#[.slice (some ⟨b, 0, none⟩) n cap, .int .i64 len, .int .i64 h, undef, undef, undef, undef, undef, undef, undef, undef, undef, undef, undef, undef, undef, undef, undef, undef, undef, undef, undef, undef, undef, undef, undef, undef], []⟩) (by kernel_rfl) ?_
 refine wsr ?_
 refine wv (.int .i64 0) ?_
 refine wpList_nil (then_normal ?_)
 refine wsr ?_
 refine wv (.int .i64 0) ?_
 refine wpList_nil (then_normal ?_)
 refine wp_seq ?_
 refine wsr ?_
 refine wv (.slice (some ⟨b, 0, none⟩) n cap) ?_
 refine wv (.int .i64 (n : Int)) ?_
 refine wv (.int .i64 0) ?_
 refine wpList_nil (then_normal ?_)
 refine wp_block ?_
 refine wp_loop_k (fun m1 a wl1 => ∃ (i : Nat) (cc : Int), m1 = n - i ∧ i ≤ n ∧ cc = cntL xs len h i ∧ Ext w wl1 ∧ Blk wl1 b 2 cs ∧ (∃ J1 : Nat → Value, a = ⟨#[.slice (some ⟨b, 0, none⟩) n cap, .int .i64 len, .int .i64 h, undef, undef, undef, .int .i64 0, .int .i64 cc, undef, J1 9, .slice (some ⟨b, 0, none⟩) n cap, .int .i64 (n : Int), .int .i64 (i : Int), J1 13, J1 14, J1 15, J1 16, J1 17, J1 18, J1 19, J1 20, J1 21, J1 22, J1 23, J1 24, J1 25, undef], []⟩)) (n) ?_ ?_
 · refine ⟨0, 0, rfl, ?_, ?_, (Ext.refl w), hb, exJ (by kernel_rfl)⟩
   · omega
   · exact (cntL_0 _ _ _).symm
 intro m1 a wl1 hI
 obtain ⟨i, cc, rfl, hi_, hcc, HL1, hb, J1, rfl⟩ := hI
 have hsi_ := hsb i
 have cb_ := cntL_b xs len h i
 refine wsr ?_
 refine wv (.bool (decide ((i : Int) < (n : Int)))) ?_
 refine wpList_nil (then_normal ?_)
 refine wp_seq ?_
 refine wsplit (decide ((i : Int) < (n : Int))) (fun h1 => ?_) (fun h1 => ?_)
 · skip
   have h1d := dT h1
   refine wp_skip ?_
   refine then_normal ?_
   refine wp_seq ?_
   refine wp_block ?_
   refine wsr ?_
   refine wsix1 b 0 n cap i .i64 slit__int64 ?_
   refine wld b (0 + i) scal_int64 (hb.get (SlI.get hS (by omega))) ?_
   refine wv (.int .i64 (atI xs i)) ?_
   refine wpList_nil (then_normal ?_)
   refine wsr ?_
   refine wv (.int .i64 h) ?_
   refine wv (.int .i64 (atI xs i)) ?_
   refine wv (.int .i64 (atI xs i)) ?_
   refine wv (.int .i64 len) ?_
   refine wi64 ((atI xs i) + len) ?_
   refine wi64 (((atI xs i) + len) - 1) ?_
   refine wcl (within_any h (atI xs i) (((atI xs i) + len) - 1) _) ?_
   intro w1 E1
   refine wpList_nil (then_normal ?_)
   refine wsplit (inB h (atI xs i) (((atI xs i) + len) - 1)) (fun h2 => ?_) (fun h2 => ?_)
   · skip
     have h2d := inT h2
     refine wp_region_lit ?_
     refine wv (.int .i64 cc) ?_
     refine wi64 (cc + 1) ?_
     refine wv (.int .i64 (cc + 1)) ?_
     refine wpList_nil (block_normal (then_normal ?_))
     refine wp_region_lit ?_
     refine wi64 ((i : Int) + 1) ?_
     refine wv (.int .i64 ((i : Int) + 1)) ?_
     refine wpList_nil (then_normal ?_)
     replace hb := hb.ext E1
     have H1 := HL1.trans E1
     refine ⟨_, ?_, i + 1, cc + 1, rfl, ?_, ?_, H1, hb, exJ (by kernel_rfl)⟩
     · omega
     · omega
     · first | (rw [cntL_1 (by omega)]; omega) | (rw [cntL_2 (by omega)]; exact hcc)
   · skip
     have h2d := inF h2
     refine wp_skip ?_
     refine block_normal (then_normal ?_)
     refine wp_region_lit ?_
     refine wi64 ((i : Int) + 1) ?_
     refine wv (.int .i64 ((i : Int) + 1)) ?_
     refine wpList_nil (then_normal ?_)
     replace hb := hb.ext E1
     have H2 := HL1.trans E1
     refine ⟨_, ?_, i + 1, cc, rfl, ?_, ?_, H2, hb, exJ (by kernel_rfl)⟩
     · omega
     · omega
     · first | (rw [cntL_1 (by omega)]; omega) | (rw [cntL_2 (by omega)]; exact hcc)
 · skip
   have h1d := dF h1
   refine wp_exit ?_
   refine then_exit ?_
   refine then_exit ?_
   refine block_exit ?_
   refine then_normal ?_
   refine wsr ?_
   refine wv (.int .i64 cc) ?_
   refine wv (.int .i64 cc) ?_
   refine wpList_nil (then_normal ?_)
   refine wp_ret ?_
   refine ret1 (.int .i64 (wkL xs len h)) rfl ?_ rfl ?_
   · refine (resT (v := .int .i64 cc) (by kernel_rfl)).trans ?_
     refine congrArg (Value.int _) ?_
     unfold wkL; rw [← hn_]; rw [hcc, show i = n by omega]
   exact ⟨rfl, HL1⟩


--# l05There_any
theorem l05There_any (len : Int) (xs : List Int) (n b cap : Nat) (cs : Array Value) (hS : SlI cs n cap .i64 xs) (h : Int) (hn : n ≤ 1048576) (hsb : ∀ i, i < n → 0 ≤ atI xs i ∧ atI xs i ≤ 1000) (hl : 1 ≤ len ∧ len ≤ 48) (w : World) (hb : Blk w b 2 cs) :
 Calls Try.prog 56 #[.int .i64 len, .slice (some ⟨b, 0, none⟩) n cap, .int .i64 h] w fun e w' => e = .returned (.int .i64 (wkL xs len h)) ∧ Ext w w' := by
 have hn_ := hS.len
 refine calls_of_wp Try.func56 rfl ?_
 refine wp_frame (a' := ⟨#[.int .i64 len, .slice (some ⟨b, 0, none⟩) n cap, .int .i64 h, undef, undef, undef, undef, undef, undef, undef, undef, undef, undef, undef, undef, undef, undef, undef, undef, undef, undef, undef, undef, undef, undef, undef, undef, undef, undef, undef, undef, undef, undef, undef], []⟩) (by kernel_rfl) ?_
 refine wsr ?_
 refine wv (.int .i64 0) ?_
 refine wpList_nil (then_normal ?_)
 refine wsr ?_
 refine wv (.int .i64 0) ?_
 refine wpList_nil (then_normal ?_)
 refine wp_seq ?_
 refine wsr ?_
 refine wv (.int .i64 0) ?_
 refine wpList_nil (then_normal ?_)
 refine wp_block ?_
 refine wp_loop_k (fun m1 a wl1 => ∃ (i : Nat) (cc : Int), m1 = n - i ∧ i ≤ n ∧ cc = cntL xs len h i ∧ Ext w wl1 ∧ Blk wl1 b 2 cs ∧ (∃ J1 : Nat → Value, a = ⟨#[.int .i64 len, .slice (some ⟨b, 0, none⟩) n cap, .int .i64 h, undef, undef, undef, .int .i64 0, .int .i64 cc, .int .i64 (i : Int), J1 9, J1 10, J1 11, J1 12, J1 13, J1 14, J1 15, J1 16, J1 17, J1 18, J1 19, J1 20, J1 21, J1 22, J1 23, J1 24, J1 25, J1 26, J1 27, J1 28, J1 29, J1 30, J1 31, J1 32, undef], []⟩)) (n) ?_ ?_
 · refine ⟨0, 0, rfl, ?_, ?_, (Ext.refl w), hb, exJ (by kernel_rfl)⟩
   · omega
   · exact (cntL_0 _ _ _).symm
 intro m1 a wl1 hI
 obtain ⟨i, cc, rfl, hi_, hcc, HL1, hb, J1, rfl⟩ := hI
 have hsi_ := hsb i
 have cb_ := cntL_b xs len h i
 refine wp_seq ?_
 refine wsr ?_
 refine wv (.int .i64 (i : Int)) ?_
 refine wv (.slice (some ⟨b, 0, none⟩) n cap) ?_
 refine wv (.int .i64 (n : Int)) ?_
 refine wv (.bool (decide ((i : Int) < (n : Int)))) ?_
 refine wpList_nil (then_normal ?_)
 refine wsplit (decide ((i : Int) < (n : Int))) (fun h1 => ?_) (fun h1 => ?_)
 · skip
   have h1d := dT h1
   refine wp_skip ?_
   refine then_normal ?_
   refine wp_seq ?_
   refine wp_block ?_
   refine wsr ?_
   refine wv (.slice (some ⟨b, 0, none⟩) n cap) ?_
   refine wv (.int .i64 (i : Int)) ?_
   refine wsix1 b 0 n cap i .i64 slit__int64 ?_
   refine wld b (0 + i) scal_int64 (hb.get (SlI.get hS (by omega))) ?_
   refine wv (.int .i64 h) ?_
   refine wv (.bool (decide ((atI xs i) ≤ h))) ?_
   refine wv (.bool (decide ((atI xs i) ≤ h))) ?_
   refine split_bool (decide ((atI xs i) ≤ h)) (fun h2 => ?_) (fun h2 => ?_)
   · skip
     refine wbl 21 true h2 ?_
     have h2d := dT h2
     refine wv (.int .i64 h) ?_
     refine wv (.slice (some ⟨b, 0, none⟩) n cap) ?_
     refine wv (.int .i64 (i : Int)) ?_
     refine wsix1 b 0 n cap i .i64 slit__int64 ?_
     refine wld b (0 + i) scal_int64 (hb.get (SlI.get hS (by omega))) ?_
     refine wv (.int .i64 len) ?_
     refine wi64 ((atI xs i) + len) ?_
     refine wv (.bool (decide (h < (atI xs i) + len))) ?_
     refine wv (.bool (decide (h < (atI xs i) + len))) ?_
     refine wpList_nil (then_normal ?_)
     refine wsplit (decide (h < (atI xs i) + len)) (fun h3 => ?_) (fun h3 => ?_)
     · skip
       have h3d := dT h3
       refine wp_region_lit ?_
       refine wv (.int .i64 cc) ?_
       refine wi64 (cc + 1) ?_
       refine wv (.int .i64 (cc + 1)) ?_
       refine wpList_nil (block_normal (then_normal ?_))
       refine wp_region_lit ?_
       refine wv (.int .i64 (i : Int)) ?_
       refine wi64 ((i : Int) + 1) ?_
       refine wv (.int .i64 ((i : Int) + 1)) ?_
       refine wpList_nil (then_normal ?_)
       refine ⟨_, ?_, i + 1, cc + 1, rfl, ?_, ?_, HL1, hb, exJ (by kernel_rfl)⟩
       · omega
       · omega
       · first | (rw [cntL_1 (by omega)]; omega) | (rw [cntL_2 (by omega)]; exact hcc)
     · skip
       have h3d := dF h3
       refine wp_skip ?_
       refine block_normal (then_normal ?_)
       refine wp_region_lit ?_
       refine wv (.int .i64 (i : Int)) ?_
       refine wi64 ((i : Int) + 1) ?_
       refine wv (.int .i64 ((i : Int) + 1)) ?_
       refine wpList_nil (then_normal ?_)
       refine ⟨_, ?_, i + 1, cc, rfl, ?_, ?_, HL1, hb, exJ (by kernel_rfl)⟩
       · omega
       · omega
       · first | (rw [cntL_1 (by omega)]; omega) | (rw [cntL_2 (by omega)]; exact hcc)
   · skip
     refine wbl 21 false h2 ?_
     have h2d := dF h2
     refine wsk ?_
     refine wsk ?_
     refine wsk ?_
     refine wsk ?_
     refine wsk ?_
     refine wsk ?_
     refine wsk ?_
     refine wsk ?_
     refine wv (.bool false) ?_
     refine wpList_nil (then_normal ?_)
     refine wcf ?_
     refine wp_skip ?_
     refine block_normal (then_normal ?_)
     refine wp_region_lit ?_
     refine wv (.int .i64 (i : Int)) ?_
     refine wi64 ((i : Int) + 1) ?_
     refine wv (.int .i64 ((i : Int) + 1)) ?_
     refine wpList_nil (then_normal ?_)
     refine ⟨_, ?_, i + 1, cc, rfl, ?_, ?_, HL1, hb, exJ (by kernel_rfl)⟩
     · omega
     · omega
     · first | (rw [cntL_1 (by omega)]; omega) | (rw [cntL_2 (by omega)]; exact hcc)
 · skip
   have h1d := dF h1
   refine wp_exit ?_
   refine then_exit ?_
   refine then_exit ?_
   refine block_exit ?_
   refine then_normal ?_
   refine wsr ?_
   refine wv (.int .i64 cc) ?_
   refine wv (.int .i64 cc) ?_
   refine wpList_nil (then_normal ?_)
   refine wp_ret ?_
   refine ret1 (.int .i64 (wkL xs len h)) rfl ?_ rfl ?_
   · refine (resT (v := .int .i64 cc) (by kernel_rfl)).trans ?_
     refine congrArg (Value.int _) ?_
     unfold wkL; rw [← hn_]; rw [hcc, show i = n by omega]
   exact ⟨rfl, HL1⟩


--# l05Needs_any
theorem l05Needs_any (need : List Int) (n b cap : Nat) (cs : Array Value) (hS : SlI cs n cap .i64 need) (len : Int) (starts : List Int) (n2 b2 cap2 : Nat) (cs2 : Array Value) (hS2 : SlI cs2 n2 cap2 .i64 starts) (hn : n ≤ 1048576) (hn2 : n2 ≤ 1048576) (w : World) (hb : Blk w b 2 cs) (hb2 : Blk w b2 2 cs2) :
 Calls Try.prog 52 #[.slice (some ⟨b, 0, none⟩) n cap, .int .i64 len, .slice (some ⟨b2, 0, none⟩) n2 cap2] w fun e w' => e = .returned (.int .i64 (shC need len starts)) ∧ Ext w w' := by
 have hn_ := hS.len
 have hn2_ := hS2.len
 refine calls_of_wp Try.func52 rfl ?_
 refine wp_frame (a' := ⟨#[.slice (some ⟨b, 0, none⟩) n cap, .int .i64 len, .slice (some ⟨b2, 0, none⟩) n2 cap2, undef, undef, undef, undef, undef, undef, undef, undef, undef, undef, undef, undef, undef, undef, undef, undef, undef, undef, undef, undef, undef, undef, undef, undef, undef, undef, undef, undef, undef, undef, undef, undef, undef, undef, undef, undef, undef, undef, undef, undef, undef, undef, undef, undef, undef, undef, undef], []⟩) (by kernel_rfl) ?_
 refine wsr ?_
 refine wv (.int .i64 0) ?_
 refine wpList_nil (then_normal ?_)
 refine wsr ?_
 refine wv (.slice (some ⟨b, 0, none⟩) n cap) ?_
 refine wv (.int .i64 (n : Int)) ?_
 refine wv (.bool (decide ((n : Int) ≤ 48))) ?_
 refine wv (.bool (decide ((n : Int) ≤ 48))) ?_
 refine split_bool (decide ((n : Int) ≤ 48)) (fun h1 => ?_) (fun h1 => ?_)
 · skip
   refine wbl 13 true h1 ?_
   have h1d := dT h1
   refine wv (.int .i64 len) ?_
   refine wcl (l00In_any len 1 48 _) ?_
   intro w1 E1
   refine wv (.bool (inB len 1 48)) ?_
   refine wv (.bool (inB len 1 48)) ?_
   refine wpList_nil (then_normal ?_)
   refine wp_seq ?_
   refine wsr ?_
   refine wv (.int .i64 0) ?_
   refine wpList_nil (then_normal ?_)
   refine wp_block ?_
   replace hb := hb.ext E1
   replace hb2 := hb2.ext E1
   have H1 := (Ext.refl w).trans E1
   refine wp_loop_k (fun m1 a wl1 => ∃ (i : Nat) (ok1 : Bool), m1 = n - i ∧ i ≤ n ∧ ok1 = (shA n len && inLN need 0 20 i) ∧ Ext w wl1 ∧ Blk wl1 b 2 cs ∧ Blk wl1 b2 2 cs2 ∧ (∃ J1 : Nat → Value, a = ⟨#[.slice (some ⟨b, 0, none⟩) n cap, .int .i64 len, .slice (some ⟨b2, 0, none⟩) n2 cap2, undef, undef, undef, .int .i64 0, .bool ok1, .int .i64 (i : Int), undef, .slice (some ⟨b, 0, none⟩) n cap, .int .i64 (n : Int), .bool (decide ((n : Int) ≤ 48)), .bool true, .int .i64 len, .bool (inB len 1 48), .bool (inB len 1 48), J1 17, J1 18, J1 19, J1 20, J1 21, J1 22, J1 23, J1 24, J1 25, J1 26, J1 27, J1 28, J1 29, J1 30, undef, undef, undef, undef, undef, undef, undef, undef, undef, undef, undef, undef, undef, undef, undef, undef, undef, undef, undef], []⟩)) (n) ?_ ?_
   · refine ⟨0, inB len 1 48, rfl, ?_, ?_, H1, hb, hb2, exJ (by kernel_rfl)⟩
     · omega
     · rw [← ok0]
       first | exact (shA_e (by omega)).symm | exact (shA_f1 (by omega)).symm
   intro m1 a wl1 hI
   obtain ⟨i, ok1, rfl, hi_, hok1, HL1, hb, hb2, J1, rfl⟩ := hI
   refine wp_seq ?_
   refine wsr ?_
   refine wv (.int .i64 (i : Int)) ?_
   refine wv (.slice (some ⟨b, 0, none⟩) n cap) ?_
   refine wv (.int .i64 (n : Int)) ?_
   refine wv (.bool (decide ((i : Int) < (n : Int)))) ?_
   refine wpList_nil (then_normal ?_)
   refine wsplit (decide ((i : Int) < (n : Int))) (fun h2 => ?_) (fun h2 => ?_)
   · skip
     have h2d := dT h2
     refine wp_skip ?_
     refine then_normal ?_
     refine wp_seq ?_
     refine wp_block ?_
     refine wp_region_lit ?_
     refine wv (.bool ok1) ?_
     refine wv (.bool ok1) ?_
     refine split_bool ok1 (fun h3 => ?_) (fun h3 => ?_)
     · skip
       refine wbl 24 true h3 ?_
       refine wv (.slice (some ⟨b, 0, none⟩) n cap) ?_
       refine wv (.int .i64 (i : Int)) ?_
       refine wsix1 b 0 n cap i .i64 slit__int64 ?_
       refine wld b (0 + i) scal_int64 (hb.get (SlI.get hS (by omega))) ?_
       refine wcl (l00In_any (atI need i) 0 20 _) ?_
       intro w2 E2
       refine wv (.bool (inB (atI need i) 0 20)) ?_
       refine wv (.bool (inB (atI need i) 0 20)) ?_
       refine wpList_nil (block_normal (then_normal ?_))
       refine wp_region_lit ?_
       refine wv (.int .i64 (i : Int)) ?_
       refine wi64 ((i : Int) + 1) ?_
       refine wv (.int .i64 ((i : Int) + 1)) ?_
       refine wpList_nil (then_normal ?_)
       replace hb := hb.ext E2
       replace hb2 := hb2.ext E2
       have H2 := HL1.trans E2
       refine ⟨_, ?_, i + 1, inB (atI need i) 0 20, rfl, ?_, ?_, H2, hb, hb2, exJ (by kernel_rfl)⟩
       · omega
       · omega
       · first | exact okS_t hok1 (by assumption) | exact okS_f hok1 (by assumption)
     · skip
       refine wbl 24 false h3 ?_
       refine wsk ?_
       refine wsk ?_
       refine wsk ?_
       refine wsk ?_
       refine wsk ?_
       refine wv (.bool false) ?_
       refine wv (.bool false) ?_
       refine wpList_nil (block_normal (then_normal ?_))
       refine wp_region_lit ?_
       refine wv (.int .i64 (i : Int)) ?_
       refine wi64 ((i : Int) + 1) ?_
       refine wv (.int .i64 ((i : Int) + 1)) ?_
       refine wpList_nil (then_normal ?_)
       refine ⟨_, ?_, i + 1, false, rfl, ?_, ?_, HL1, hb, hb2, exJ (by kernel_rfl)⟩
       · omega
       · omega
       · first | exact okS_t hok1 (by assumption) | exact okS_f hok1 (by assumption)
   · skip
     have h2d := dF h2
     refine wp_exit ?_
     refine then_exit ?_
     refine then_exit ?_
     refine block_exit ?_
     refine then_normal ?_
     refine wp_seq ?_
     refine wsr ?_
     refine wv (.int .i64 0) ?_
     refine wpList_nil (then_normal ?_)
     refine wp_block ?_
     refine wp_loop_k (fun m2 a wl2 => ∃ (k : Nat) (ok2 : Bool), m2 = n2 - k ∧ k ≤ n2 ∧ ok2 = (shA n len && inL need 0 20 && inLN starts 0 ((n : Int) - 1) k) ∧ Ext w wl2 ∧ Blk wl2 b 2 cs ∧ Blk wl2 b2 2 cs2 ∧ (∃ J2 : Nat → Value, a = ⟨#[.slice (some ⟨b, 0, none⟩) n cap, .int .i64 len, .slice (some ⟨b2, 0, none⟩) n2 cap2, undef, undef, undef, .int .i64 0, .bool ok2, .int .i64 (i : Int), .int .i64 (k : Int), .slice (some ⟨b, 0, none⟩) n cap, .int .i64 (n : Int), .bool (decide ((n : Int) ≤ 48)), .bool true, .int .i64 len, .bool (inB len 1 48), .bool (inB len 1 48), .int .i64 (i : Int), .slice (some ⟨b, 0, none⟩) n cap, .int .i64 (n : Int), .bool (decide ((i : Int) < (n : Int))), J1 21, J1 22, J1 23, J1 24, J1 25, J1 26, J1 27, J1 28, J1 29, J1 30, J2 31, J2 32, J2 33, J2 34, J2 35, J2 36, J2 37, J2 38, J2 39, J2 40, J2 41, J2 42, J2 43, J2 44, J2 45, J2 46, J2 47, undef, undef], []⟩)) (n2) ?_ ?_
     · refine ⟨0, ok1, rfl, ?_, ?_, HL1, hb, hb2, exJ (by kernel_rfl)⟩
       · omega
       · rw [← ok0]
         exact okE hok1 (by omega)
     intro m2 a wl2 hI
     obtain ⟨k, ok2, rfl, hi_, hok2, HL2, hb, hb2, J2, rfl⟩ := hI
     refine wp_seq ?_
     refine wsr ?_
     refine wv (.int .i64 (k : Int)) ?_
     refine wv (.slice (some ⟨b2, 0, none⟩) n2 cap2) ?_
     refine wv (.int .i64 (n2 : Int)) ?_
     refine wv (.bool (decide ((k : Int) < (n2 : Int)))) ?_
     refine wpList_nil (then_normal ?_)
     refine wsplit (decide ((k : Int) < (n2 : Int))) (fun h4 => ?_) (fun h4 => ?_)
     · skip
       have h4d := dT h4
       refine wp_skip ?_
       refine then_normal ?_
       refine wp_seq ?_
       refine wp_block ?_
       refine wp_region_lit ?_
       refine wv (.bool ok2) ?_
       refine wv (.bool ok2) ?_
       refine split_bool ok2 (fun h5 => ?_) (fun h5 => ?_)
       · skip
         refine wbl 38 true h5 ?_
         refine wv (.slice (some ⟨b2, 0, none⟩) n2 cap2) ?_
         refine wv (.int .i64 (k : Int)) ?_
         refine wsix1 b2 0 n2 cap2 k .i64 slit__int64 ?_
         refine wld b2 (0 + k) scal_int64 (hb2.get (SlI.get hS2 (by omega))) ?_
         refine wv (.slice (some ⟨b, 0, none⟩) n cap) ?_
         refine wv (.int .i64 (n : Int)) ?_
         refine wi64 ((n : Int) - 1) ?_
         refine wcl (l00In_any (atI starts k) 0 ((n : Int) - 1) _) ?_
         intro w3 E3
         refine wv (.bool (inB (atI starts k) 0 ((n : Int) - 1))) ?_
         refine wv (.bool (inB (atI starts k) 0 ((n : Int) - 1))) ?_
         refine wpList_nil (block_normal (then_normal ?_))
         refine wp_region_lit ?_
         refine wv (.int .i64 (k : Int)) ?_
         refine wi64 ((k : Int) + 1) ?_
         refine wv (.int .i64 ((k : Int) + 1)) ?_
         refine wpList_nil (then_normal ?_)
         replace hb := hb.ext E3
         replace hb2 := hb2.ext E3
         have H3 := HL2.trans E3
         refine ⟨_, ?_, k + 1, inB (atI starts k) 0 ((n : Int) - 1), rfl, ?_, ?_, H3, hb, hb2, exJ (by kernel_rfl)⟩
         · omega
         · omega
         · first | exact okS_t hok2 (by assumption) | exact okS_f hok2 (by assumption)
       · skip
         refine wbl 38 false h5 ?_
         refine wsk ?_
         refine wsk ?_
         refine wsk ?_
         refine wsk ?_
         refine wsk ?_
         refine wsk ?_
         refine wsk ?_
         refine wsk ?_
         refine wv (.bool false) ?_
         refine wv (.bool false) ?_
         refine wpList_nil (block_normal (then_normal ?_))
         refine wp_region_lit ?_
         refine wv (.int .i64 (k : Int)) ?_
         refine wi64 ((k : Int) + 1) ?_
         refine wv (.int .i64 ((k : Int) + 1)) ?_
         refine wpList_nil (then_normal ?_)
         refine ⟨_, ?_, k + 1, false, rfl, ?_, ?_, HL2, hb, hb2, exJ (by kernel_rfl)⟩
         · omega
         · omega
         · first | exact okS_t hok2 (by assumption) | exact okS_f hok2 (by assumption)
     · skip
       have h4d := dF h4
       refine wp_exit ?_
       refine then_exit ?_
       refine then_exit ?_
       refine block_exit ?_
       refine then_normal ?_
       refine wp_seq ?_
       refine wsr ?_
       refine wv (.bool ok2) ?_
       refine wv (.bool (!ok2)) ?_
       refine wpList_nil (then_normal ?_)
       refine wsplit (!ok2) (fun h6 => ?_) (fun h6 => ?_)
       · skip
         replace h6 := nbT h6
         refine wsr ?_
         refine wv (.int .i64 2) ?_
         refine wpList_nil (then_normal ?_)
         refine wp_ret ?_
         refine then_ret ?_
         refine ret1 (.int .i64 (shC need len starts)) rfl ?_ rfl ?_
         · refine (resT (v := .int .i64 2) (by kernel_rfl)).trans ?_
           refine congrArg (Value.int _) ?_
           have es_ : shB need len starts = ok2 := by rw [shB_e hn_]; exact (okE hok2 (by omega)).symm
           first | exact (shC_t (by rw [es_]; assumption)).symm | exact (shC_f (by rw [es_]; assumption)).symm
         exact ⟨rfl, HL2⟩
       · skip
         replace h6 := nbF h6
         refine wp_skip ?_
         refine then_normal ?_
         refine wsr ?_
         refine wv (.int .i64 0) ?_
         refine wpList_nil (then_normal ?_)
         refine wp_ret ?_
         refine ret1 (.int .i64 (shC need len starts)) rfl ?_ rfl ?_
         · refine (resT (v := .int .i64 0) (by kernel_rfl)).trans ?_
           refine congrArg (Value.int _) ?_
           have es_ : shB need len starts = ok2 := by rw [shB_e hn_]; exact (okE hok2 (by omega)).symm
           first | exact (shC_t (by rw [es_]; assumption)).symm | exact (shC_f (by rw [es_]; assumption)).symm
         exact ⟨rfl, HL2⟩
 · skip
   refine wbl 13 false h1 ?_
   have h1d := dF h1
   refine wsk ?_
   refine wsk ?_
   refine wv (.bool false) ?_
   refine wv (.bool false) ?_
   refine wpList_nil (then_normal ?_)
   refine wp_seq ?_
   refine wsr ?_
   refine wv (.int .i64 0) ?_
   refine wpList_nil (then_normal ?_)
   refine wp_block ?_
   refine wp_loop_k (fun m3 a wl3 => ∃ (i : Nat) (ok1 : Bool), m3 = n - i ∧ i ≤ n ∧ ok1 = (shA n len && inLN need 0 20 i) ∧ Ext w wl3 ∧ Blk wl3 b 2 cs ∧ Blk wl3 b2 2 cs2 ∧ (∃ J3 : Nat → Value, a = ⟨#[.slice (some ⟨b, 0, none⟩) n cap, .int .i64 len, .slice (some ⟨b2, 0, none⟩) n2 cap2, undef, undef, undef, .int .i64 0, .bool ok1, .int .i64 (i : Int), undef, .slice (some ⟨b, 0, none⟩) n cap, .int .i64 (n : Int), .bool (decide ((n : Int) ≤ 48)), .bool false, undef, undef, .bool false, J3 17, J3 18, J3 19, J3 20, J3 21, J3 22, J3 23, J3 24, J3 25, J3 26, J3 27, J3 28, J3 29, J3 30, undef, undef, undef, undef, undef, undef, undef, undef, undef, undef, undef, undef, undef, undef, undef, undef, undef, undef, undef], []⟩)) (n) ?_ ?_
   · refine ⟨0, false, rfl, ?_, ?_, (Ext.refl w), hb, hb2, exJ (by kernel_rfl)⟩
     · omega
     · rw [← ok0]
       first | exact (shA_e (by omega)).symm | exact (shA_f1 (by omega)).symm
   intro m3 a wl3 hI
   obtain ⟨i, ok1, rfl, hi_, hok1, HL3, hb, hb2, J3, rfl⟩ := hI
   refine wp_seq ?_
   refine wsr ?_
   refine wv (.int .i64 (i : Int)) ?_
   refine wv (.slice (some ⟨b, 0, none⟩) n cap) ?_
   refine wv (.int .i64 (n : Int)) ?_
   refine wv (.bool (decide ((i : Int) < (n : Int)))) ?_
   refine wpList_nil (then_normal ?_)
   refine wsplit (decide ((i : Int) < (n : Int))) (fun h7 => ?_) (fun h7 => ?_)
   · skip
     have h7d := dT h7
     refine wp_skip ?_
     refine then_normal ?_
     refine wp_seq ?_
     refine wp_block ?_
     refine wp_region_lit ?_
     refine wv (.bool ok1) ?_
     refine wv (.bool ok1) ?_
     refine split_bool ok1 (fun h8 => ?_) (fun h8 => ?_)
     · skip
       refine wbl 24 true h8 ?_
       refine wv (.slice (some ⟨b, 0, none⟩) n cap) ?_
       refine wv (.int .i64 (i : Int)) ?_
       refine wsix1 b 0 n cap i .i64 slit__int64 ?_
       refine wld b (0 + i) scal_int64 (hb.get (SlI.get hS (by omega))) ?_
       refine wcl (l00In_any (atI need i) 0 20 _) ?_
       intro w4 E4
       refine wv (.bool (inB (atI need i) 0 20)) ?_
       refine wv (.bool (inB (atI need i) 0 20)) ?_
       refine wpList_nil (block_normal (then_normal ?_))
       refine wp_region_lit ?_
       refine wv (.int .i64 (i : Int)) ?_
       refine wi64 ((i : Int) + 1) ?_
       refine wv (.int .i64 ((i : Int) + 1)) ?_
       refine wpList_nil (then_normal ?_)
       replace hb := hb.ext E4
       replace hb2 := hb2.ext E4
       have H4 := HL3.trans E4
       refine ⟨_, ?_, i + 1, inB (atI need i) 0 20, rfl, ?_, ?_, H4, hb, hb2, exJ (by kernel_rfl)⟩
       · omega
       · omega
       · first | exact okS_t hok1 (by assumption) | exact okS_f hok1 (by assumption)
     · skip
       refine wbl 24 false h8 ?_
       refine wsk ?_
       refine wsk ?_
       refine wsk ?_
       refine wsk ?_
       refine wsk ?_
       refine wv (.bool false) ?_
       refine wv (.bool false) ?_
       refine wpList_nil (block_normal (then_normal ?_))
       refine wp_region_lit ?_
       refine wv (.int .i64 (i : Int)) ?_
       refine wi64 ((i : Int) + 1) ?_
       refine wv (.int .i64 ((i : Int) + 1)) ?_
       refine wpList_nil (then_normal ?_)
       refine ⟨_, ?_, i + 1, false, rfl, ?_, ?_, HL3, hb, hb2, exJ (by kernel_rfl)⟩
       · omega
       · omega
       · first | exact okS_t hok1 (by assumption) | exact okS_f hok1 (by assumption)
   · skip
     have h7d := dF h7
     refine wp_exit ?_
     refine then_exit ?_
     refine then_exit ?_
     refine block_exit ?_
     refine then_normal ?_
     refine wp_seq ?_
     refine wsr ?_
     refine wv (.int .i64 0) ?_
     refine wpList_nil (then_normal ?_)
     refine wp_block ?_
     refine wp_loop_k (fun m4 a wl4 => ∃ (k : Nat) (ok2 : Bool), m4 = n2 - k ∧ k ≤ n2 ∧ ok2 = (shA n len && inL need 0 20 && inLN starts 0 ((n : Int) - 1) k) ∧ Ext w wl4 ∧ Blk wl4 b 2 cs ∧ Blk wl4 b2 2 cs2 ∧ (∃ J4 : Nat → Value, a = ⟨#[.slice (some ⟨b, 0, none⟩) n cap, .int .i64 len, .slice (some ⟨b2, 0, none⟩) n2 cap2, undef, undef, undef, .int .i64 0, .bool ok2, .int .i64 (i : Int), .int .i64 (k : Int), .slice (some ⟨b, 0, none⟩) n cap, .int .i64 (n : Int), .bool (decide ((n : Int) ≤ 48)), .bool false, undef, undef, .bool false, .int .i64 (i : Int), .slice (some ⟨b, 0, none⟩) n cap, .int .i64 (n : Int), .bool (decide ((i : Int) < (n : Int))), J3 21, J3 22, J3 23, J3 24, J3 25, J3 26, J3 27, J3 28, J3 29, J3 30, J4 31, J4 32, J4 33, J4 34, J4 35, J4 36, J4 37, J4 38, J4 39, J4 40, J4 41, J4 42, J4 43, J4 44, J4 45, J4 46, J4 47, undef, undef], []⟩)) (n2) ?_ ?_
     · refine ⟨0, ok1, rfl, ?_, ?_, HL3, hb, hb2, exJ (by kernel_rfl)⟩
       · omega
       · rw [← ok0]
         exact okE hok1 (by omega)
     intro m4 a wl4 hI
     obtain ⟨k, ok2, rfl, hi_, hok2, HL4, hb, hb2, J4, rfl⟩ := hI
     refine wp_seq ?_
     refine wsr ?_
     refine wv (.int .i64 (k : Int)) ?_
     refine wv (.slice (some ⟨b2, 0, none⟩) n2 cap2) ?_
     refine wv (.int .i64 (n2 : Int)) ?_
     refine wv (.bool (decide ((k : Int) < (n2 : Int)))) ?_
     refine wpList_nil (then_normal ?_)
     refine wsplit (decide ((k : Int) < (n2 : Int))) (fun h9 => ?_) (fun h9 => ?_)
     · skip
       have h9d := dT h9
       refine wp_skip ?_
       refine then_normal ?_
       refine wp_seq ?_
       refine wp_block ?_
       refine wp_region_lit ?_
       refine wv (.bool ok2) ?_
       refine wv (.bool ok2) ?_
       refine split_bool ok2 (fun h10 => ?_) (fun h10 => ?_)
       · skip
         refine wbl 38 true h10 ?_
         refine wv (.slice (some ⟨b2, 0, none⟩) n2 cap2) ?_
         refine wv (.int .i64 (k : Int)) ?_
         refine wsix1 b2 0 n2 cap2 k .i64 slit__int64 ?_
         refine wld b2 (0 + k) scal_int64 (hb2.get (SlI.get hS2 (by omega))) ?_
         refine wv (.slice (some ⟨b, 0, none⟩) n cap) ?_
         refine wv (.int .i64 (n : Int)) ?_
         refine wi64 ((n : Int) - 1) ?_
         refine wcl (l00In_any (atI starts k) 0 ((n : Int) - 1) _) ?_
         intro w5 E5
         refine wv (.bool (inB (atI starts k) 0 ((n : Int) - 1))) ?_
         refine wv (.bool (inB (atI starts k) 0 ((n : Int) - 1))) ?_
         refine wpList_nil (block_normal (then_normal ?_))
         refine wp_region_lit ?_
         refine wv (.int .i64 (k : Int)) ?_
         refine wi64 ((k : Int) + 1) ?_
         refine wv (.int .i64 ((k : Int) + 1)) ?_
         refine wpList_nil (then_normal ?_)
         replace hb := hb.ext E5
         replace hb2 := hb2.ext E5
         have H5 := HL4.trans E5
         refine ⟨_, ?_, k + 1, inB (atI starts k) 0 ((n : Int) - 1), rfl, ?_, ?_, H5, hb, hb2, exJ (by kernel_rfl)⟩
         · omega
         · omega
         · first | exact okS_t hok2 (by assumption) | exact okS_f hok2 (by assumption)
       · skip
         refine wbl 38 false h10 ?_
         refine wsk ?_
         refine wsk ?_
         refine wsk ?_
         refine wsk ?_
         refine wsk ?_
         refine wsk ?_
         refine wsk ?_
         refine wsk ?_
         refine wv (.bool false) ?_
         refine wv (.bool false) ?_
         refine wpList_nil (block_normal (then_normal ?_))
         refine wp_region_lit ?_
         refine wv (.int .i64 (k : Int)) ?_
         refine wi64 ((k : Int) + 1) ?_
         refine wv (.int .i64 ((k : Int) + 1)) ?_
         refine wpList_nil (then_normal ?_)
         refine ⟨_, ?_, k + 1, false, rfl, ?_, ?_, HL4, hb, hb2, exJ (by kernel_rfl)⟩
         · omega
         · omega
         · first | exact okS_t hok2 (by assumption) | exact okS_f hok2 (by assumption)
     · skip
       have h9d := dF h9
       refine wp_exit ?_
       refine then_exit ?_
       refine then_exit ?_
       refine block_exit ?_
       refine then_normal ?_
       refine wp_seq ?_
       refine wsr ?_
       refine wv (.bool ok2) ?_
       refine wv (.bool (!ok2)) ?_
       refine wpList_nil (then_normal ?_)
       refine wsplit (!ok2) (fun h11 => ?_) (fun h11 => ?_)
       · skip
         replace h11 := nbT h11
         refine wsr ?_
         refine wv (.int .i64 2) ?_
         refine wpList_nil (then_normal ?_)
         refine wp_ret ?_
         refine then_ret ?_
         refine ret1 (.int .i64 (shC need len starts)) rfl ?_ rfl ?_
         · refine (resT (v := .int .i64 2) (by kernel_rfl)).trans ?_
           refine congrArg (Value.int _) ?_
           have es_ : shB need len starts = ok2 := by rw [shB_e hn_]; exact (okE hok2 (by omega)).symm
           first | exact (shC_t (by rw [es_]; assumption)).symm | exact (shC_f (by rw [es_]; assumption)).symm
         exact ⟨rfl, HL4⟩
       · skip
         replace h11 := nbF h11
         refine wp_skip ?_
         refine then_normal ?_
         refine wsr ?_
         refine wv (.int .i64 0) ?_
         refine wpList_nil (then_normal ?_)
         refine wp_ret ?_
         refine ret1 (.int .i64 (shC need len starts)) rfl ?_ rfl ?_
         · refine (resT (v := .int .i64 0) (by kernel_rfl)).trans ?_
           refine congrArg (Value.int _) ?_
           have es_ : shB need len starts = ok2 := by rw [shB_e hn_]; exact (okE hok2 (by omega)).symm
           first | exact (shC_t (by rw [es_]; assumption)).symm | exact (shC_f (by rw [es_]; assumption)).symm
         exact ⟨rfl, HL4⟩


--# l05Short_any
theorem l05Short_any (need : List Int) (n b cap : Nat) (cs : Array Value) (hS : SlI cs n cap .i64 need) (len : Int) (starts : List Int) (n2 b2 cap2 : Nat) (cs2 : Array Value) (hS2 : SlI cs2 n2 cap2 .i64 starts) (hn : n ≤ 1048576) (hn2 : n2 ≤ 1048576) (hsh_ : shB need len starts = true) (w : World) (hb : Blk w b 2 cs) (hb2 : Blk w b2 2 cs2) :
 Calls Try.prog 53 #[.slice (some ⟨b, 0, none⟩) n cap, .int .i64 len, .slice (some ⟨b2, 0, none⟩) n2 cap2] w fun e w' => e = .returned (.tuple #[.int .i64 (sIdx need len starts), .int .i64 (sMis need len starts)]) ∧ Ext w w' := by
 have hn_ := hS.len
 have hn2_ := hS2.len
 refine calls_of_wp Try.func53 rfl ?_
 refine wp_frame (a' := ⟨#[.slice (some ⟨b, 0, none⟩) n cap, .int .i64 len, .slice (some ⟨b2, 0, none⟩) n2 cap2, undef, undef, undef, undef, undef, undef, undef, undef, undef, undef, undef, undef, undef, undef, undef, undef, undef, undef, undef, undef, undef, undef, undef, undef, undef, undef], []⟩) (by kernel_rfl) ?_
 refine wsr ?_
 refine wv (.int .i64 0) ?_
 refine wv (.int .i64 0) ?_
 refine wpList_nil (then_normal ?_)
 refine wp_seq ?_
 refine wsr ?_
 refine wv (.int .i64 0) ?_
 refine wpList_nil (then_normal ?_)
 refine wp_block ?_
 refine wp_loop_k (fun m1 a wl1 => ∃ (i : Nat), m1 = n - i ∧ i ≤ n ∧ (∀ j, j < i → decide (0 < misL need len starts j) = false) ∧ Ext w wl1 ∧ Blk wl1 b 2 cs ∧ Blk wl1 b2 2 cs2 ∧ (∃ J1 : Nat → Value, a = ⟨#[.slice (some ⟨b, 0, none⟩) n cap, .int .i64 len, .slice (some ⟨b2, 0, none⟩) n2 cap2, undef, undef, undef, J1 6, J1 7, .int .i64 (i : Int), J1 9, J1 10, J1 11, J1 12, J1 13, J1 14, J1 15, J1 16, J1 17, J1 18, J1 19, J1 20, J1 21, J1 22, J1 23, J1 24, J1 25, J1 26, J1 27, J1 28], []⟩)) (n) ?_ ?_
 · refine ⟨0, rfl, ?_, ?_, (Ext.refl w), hb, hb2, exJ (by kernel_rfl)⟩
   · omega
   · intro j hj; omega
 intro m1 a wl1 hI
 obtain ⟨i, rfl, hi_, hall, HL1, hb, hb2, J1, rfl⟩ := hI
 have nb_ := shB_b hsh_ i
 have ht_ := shB_t hsh_
 refine wp_seq ?_
 refine wsr ?_
 refine wv (.int .i64 (i : Int)) ?_
 refine wv (.slice (some ⟨b, 0, none⟩) n cap) ?_
 refine wv (.int .i64 (n : Int)) ?_
 refine wv (.bool (decide ((i : Int) < (n : Int)))) ?_
 refine wpList_nil (then_normal ?_)
 refine wsplit (decide ((i : Int) < (n : Int))) (fun h1 => ?_) (fun h1 => ?_)
 · skip
   have h1d := dT h1
   refine wp_skip ?_
   refine then_normal ?_
   refine wp_seq ?_
   refine wp_block ?_
   refine wp_seq ?_
   refine wp_frame (a' := ⟨#[.slice (some ⟨b, 0, none⟩) n cap, .int .i64 len, .slice (some ⟨b2, 0, none⟩) n2 cap2, undef, undef, undef, J1 6, J1 7, .int .i64 (i : Int), J1 9, .int .i64 (i : Int), .slice (some ⟨b, 0, none⟩) n cap, .int .i64 (n : Int), .bool (decide ((i : Int) < (n : Int))), J1 14, J1 15, J1 16, J1 17, J1 18, J1 19, J1 20, J1 21, J1 22, J1 23, J1 24, J1 25, J1 26, J1 27, J1 28], []⟩) (by kernel_rfl) ?_
   have wb1 := wkL_b starts len (i : Int)
   refine region_go 10 [16, 17, 18, 19, 20, 21, 22, 23, 24, 9] [[], [], [0, 1], [2], [], [], [], [4, 5, 6], [3, 7], [8]]
    (fun i_ => ([.val (.slice (some ⟨b, 0, none⟩) n cap), .val (.int .i64 (i : Int)), .val (.pointer (some ⟨b, 0 + i, none⟩)), .val (.int .i64 (atI need i)), .val (.int .i64 len), .val (.slice (some ⟨b2, 0, none⟩) n2 cap2), .val (.int .i64 (i : Int)), .val (.int .i64 (wkL starts len (i : Int))), .val (.int .i64 ((atI need i) - (wkL starts len (i : Int)))), .val (.int .i64 ((atI need i) - (wkL starts len (i : Int))))] : List Fct).getD i_ .any)
    (by kernel_rfl) (by kernel_rfl) (by decide) (by simp) rfl (all_succ (all_succ (all_succ (all_succ (all_succ (all_succ (all_succ (all_succ (all_succ (all_succ all_zero ?_) ?_) ?_) ?_) ?_) ?_) ?_) ?_) ?_) ?_) ?_
   · refine step0 rfl rfl rfl (fun wr hw => ?_)
     exact OpRun.val (.slice (some ⟨b, 0, none⟩) n cap) (.slice (some ⟨b, 0, none⟩) n cap) (by kernel_rfl) rfl ⟨Ext.refl _, rfl⟩
   · refine step0 rfl rfl rfl (fun wr hw => ?_)
     exact OpRun.val (.int .i64 (i : Int)) (.int .i64 (i : Int)) (by kernel_rfl) rfl ⟨Ext.refl _, rfl⟩
   · refine step2 rfl rfl rfl rfl rfl (fun u0 u1 wr hw h0 h1 => ?_)
     cases h0
     cases h1
     exact OpRun.six1 (i := i) (k := .i64) (g := b) (off := 0) (n := n) (cap := cap) slit__int64 rfl (by kernel_rfl) (by kernel_rfl) (by omega) ⟨Ext.refl _, rfl⟩
   · refine step1 rfl rfl rfl rfl (fun u0 wr hw h0 => ?_)
     cases h0
     exact OpRun.cell (g := b) (off := 0 + i) (v := .int .i64 (atI need i)) scal_int64 rfl (by kernel_rfl) ((hb.ext hw).get (SlI.get hS (by omega))) ⟨Ext.refl _, rfl⟩
   · refine step0 rfl rfl rfl (fun wr hw => ?_)
     exact OpRun.val (.int .i64 len) (.int .i64 len) (by kernel_rfl) rfl ⟨Ext.refl _, rfl⟩
   · refine step0 rfl rfl rfl (fun wr hw => ?_)
     exact OpRun.val (.slice (some ⟨b2, 0, none⟩) n2 cap2) (.slice (some ⟨b2, 0, none⟩) n2 cap2) (by kernel_rfl) rfl ⟨Ext.refl _, rfl⟩
   · refine step0 rfl rfl rfl (fun wr hw => ?_)
     exact OpRun.val (.int .i64 (i : Int)) (.int .i64 (i : Int)) (by kernel_rfl) rfl ⟨Ext.refl _, rfl⟩
   · refine step3 rfl rfl rfl rfl rfl rfl (fun u0 u1 u2 wr hw h0 h1 h2 => ?_)
     cases h0
     cases h1
     cases h2
     exact OpRun.call 56 #[.int .i64 len, .slice (some ⟨b2, 0, none⟩) n2 cap2, .int .i64 (i : Int)] (by kernel_rfl) ((l05There_any len starts n2 b2 cap2 cs2 hS2 (i : Int) (by omega) (fun i_ h_ => shB_s hsh_ i_ (by omega)) (by omega) _ (hb2.ext hw)).mono fun e w1 ⟨he, hb⟩ => ⟨_, he, hb, rfl⟩)
   · refine step2 rfl rfl rfl rfl rfl (fun u0 u1 wr hw h0 h1 => ?_)
     cases h0
     cases h1
     exact OpRun.val (.int .i64 (IntKind.i64.wrap ((atI need i) - (wkL starts len (i : Int))))) (.int .i64 ((atI need i) - (wkL starts len (i : Int)))) (by kernel_rfl) (by exact congrArg _ (IntWalk.i64_in _ (by omega))) ⟨Ext.refl _, rfl⟩
   · refine step1 rfl rfl rfl rfl (fun u0 wr hw h0 => ?_)
     cases h0
     exact OpRun.val (.int .i64 ((atI need i) - (wkL starts len (i : Int)))) (.int .i64 ((atI need i) - (wkL starts len (i : Int)))) (by kernel_rfl) rfl ⟨Ext.refl _, rfl⟩
   refine end10 (fun u0 u1 u2 u3 u4 u5 u6 u7 u8 u9 w1 E1 f0 f1 f2 f3 f4 f5 f6 f7 f8 f9 => ?_)
   cases f0
   cases f1
   cases f2
   cases f3
   cases f4
   cases f5
   cases f6
   cases f7
   cases f8
   cases f9
   refine wpList_nil (then_normal ?_)
   refine wsr ?_
   refine wv (.int .i64 ((atI need i) - (wkL starts len (i : Int)))) ?_
   refine wv (.bool (decide (0 < (atI need i) - (wkL starts len (i : Int))))) ?_
   refine wpList_nil (then_normal ?_)
   refine wsplit (decide (0 < (atI need i) - (wkL starts len (i : Int)))) (fun h2 => ?_) (fun h2 => ?_)
   · skip
     have h2d := dT h2
     refine wsr ?_
     refine wv (.int .i64 (i : Int)) ?_
     refine wv (.int .i64 ((atI need i) - (wkL starts len (i : Int)))) ?_
     refine wv (.int .i64 (i : Int)) ?_
     refine wv (.int .i64 ((atI need i) - (wkL starts len (i : Int)))) ?_
     refine wpList_nil (then_normal ?_)
     refine wp_ret ?_
     refine block_ret (then_ret (then_ret (block_ret (then_ret ?_))))
     have H1 := HL1.trans E1
     refine ret2 (.int .i64 (sIdx need len starts)) (.int .i64 (sMis need len starts)) rfl ?_ ?_ rfl ?_
     · refine (resT (v := .int .i64 (i : Int)) (by kernel_rfl)).trans ?_
       refine congrArg (Value.int _) ?_
       first | exact (sIdx_at i (by omega) hall (by unfold misL; omega)).symm | exact (sIdx_none (fun j hj => hall j (by omega))).symm
     · refine (resT (v := .int .i64 ((atI need i) - (wkL starts len (i : Int)))) (by kernel_rfl)).trans ?_
       refine congrArg (Value.int _) ?_
       unfold sMis
       first | (rw [sIdx_at i (by omega) hall (by unfold misL; omega), if_neg (by omega), Int.toNat_natCast]; unfold misL; rfl) | (rw [sIdx_none (fun j hj => hall j (by omega)), if_pos (by omega)])
     exact ⟨rfl, H1⟩
   · skip
     have h2d := dF h2
     refine wp_skip ?_
     refine block_normal (then_normal ?_)
     refine wp_region_lit ?_
     refine wv (.int .i64 (i : Int)) ?_
     refine wi64 ((i : Int) + 1) ?_
     refine wv (.int .i64 ((i : Int) + 1)) ?_
     refine wpList_nil (then_normal ?_)
     replace hb := hb.ext E1
     replace hb2 := hb2.ext E1
     have H2 := HL1.trans E1
     refine ⟨_, ?_, i + 1, rfl, ?_, ?_, H2, hb, hb2, exJ (by kernel_rfl)⟩
     · omega
     · omega
     · exact false_step hall (decide_eq_false (by unfold misL; omega))
 · skip
   have h1d := dF h1
   refine wp_exit ?_
   refine then_exit ?_
   refine then_exit ?_
   refine block_exit ?_
   refine then_normal ?_
   refine wsr ?_
   refine wv (.int .i64 (-1)) ?_
   refine wv (.int .i64 0) ?_
   refine wpList_nil (then_normal ?_)
   refine wp_ret ?_
   refine ret2 (.int .i64 (sIdx need len starts)) (.int .i64 (sMis need len starts)) rfl ?_ ?_ rfl ?_
   · refine (resT (v := .int .i64 (-1)) (by kernel_rfl)).trans ?_
     refine congrArg (Value.int _) ?_
     first | exact (sIdx_at i (by omega) hall (by unfold misL; omega)).symm | exact (sIdx_none (fun j hj => hall j (by omega))).symm
   · refine (resT (v := .int .i64 0) (by kernel_rfl)).trans ?_
     refine congrArg (Value.int _) ?_
     unfold sMis
     first | (rw [sIdx_at i (by omega) hall (by unfold misL; omega), if_neg (by omega), Int.toNat_natCast]; unfold misL; rfl) | (rw [sIdx_none (fun j hj => hall j (by omega)), if_pos (by omega)])
   exact ⟨rfl, HL1⟩


--# sFirstShort_any
theorem sFirstShort_any (need : List Int) (n b cap : Nat) (cs : Array Value) (hS : SlI cs n cap .i64 need) (len : Int) (starts : List Int) (n2 b2 cap2 : Nat) (cs2 : Array Value) (hS2 : SlI cs2 n2 cap2 .i64 starts) (hn : n ≤ 1048576) (hn2 : n2 ≤ 1048576) (w : World) (hb : Blk w b 2 cs) (hb2 : Blk w b2 2 cs2) :
 Calls Try.prog 15 #[.slice (some ⟨b, 0, none⟩) n cap, .int .i64 len, .slice (some ⟨b2, 0, none⟩) n2 cap2] w fun e w' => e = .returned (.tuple #[.int .i64 (fs0 need len starts), .int .i64 (fs1 need len starts), .int .i64 (fs2 need len starts)]) ∧ Ext w w' := by
 have hn_ := hS.len
 have hn2_ := hS2.len
 refine calls_of_wp Try.func15 rfl ?_
 refine wp_frame (a' := ⟨#[.slice (some ⟨b, 0, none⟩) n cap, .int .i64 len, .slice (some ⟨b2, 0, none⟩) n2 cap2, undef, undef, undef, undef, undef, undef, undef, undef, undef, undef, undef, undef, undef, undef, undef, undef, undef, undef, undef, undef, undef, undef, undef, undef, undef, undef, undef], []⟩) (by kernel_rfl) ?_
 refine wsr ?_
 refine wv (.int .i64 0) ?_
 refine wv (.int .i64 0) ?_
 refine wv (.int .i64 0) ?_
 refine wpList_nil (then_normal ?_)
 refine wp_seq ?_
 refine wsr ?_
 refine wv (.slice (some ⟨b, 0, none⟩) n cap) ?_
 refine wv (.int .i64 len) ?_
 refine wv (.slice (some ⟨b2, 0, none⟩) n2 cap2) ?_
 refine wcl (l05Needs_any need n b cap cs hS len starts n2 b2 cap2 cs2 hS2 (by omega) (by omega) _ hb hb2) ?_
 intro w1 E1
 refine wv (.int .i64 (shC need len starts)) ?_
 refine wpList_nil (then_normal ?_)
 refine wsr ?_
 refine wv (.int .i64 (shC need len starts)) ?_
 refine wv (.bool ((shC need len starts) != 0)) ?_
 refine wpList_nil (then_normal ?_)
 refine wsplit ((shC need len starts) != 0) (fun h1 => ?_) (fun h1 => ?_)
 · skip
   have h1d := nT h1
   refine wsr ?_
   refine wv (.int .i64 (shC need len starts)) ?_
   refine wv (.int .i64 0) ?_
   refine wv (.int .i64 0) ?_
   refine wv (.int .i64 (shC need len starts)) ?_
   refine wpList_nil (then_normal ?_)
   refine wp_ret ?_
   refine then_ret ?_
   have H1 := (Ext.refl w).trans E1
   refine ret3 (.int .i64 (fs0 need len starts)) (.int .i64 (fs1 need len starts)) (.int .i64 (fs2 need len starts)) rfl ?_ ?_ ?_ rfl ?_
   · refine (resT (v := .int .i64 0) (by kernel_rfl)).trans ?_
     refine congrArg (Value.int _) ?_
     first | (rw [show fs0 need len starts = 0 from if_neg (by rw [shC_n (by assumption)]; decide)]; done) | (unfold fs0; rw [if_pos (shC_0 (by assumption)), if_pos (by omega)]; done) | (unfold fs0; rw [if_pos (shC_0 (by assumption)), if_neg (by omega)])
   · refine (resT (v := .int .i64 0) (by kernel_rfl)).trans ?_
     refine congrArg (Value.int _) ?_
     first | (rw [show fs1 need len starts = 0 from if_neg (by rw [shC_n (by assumption)]; decide)]; done) | (unfold fs1 sMis; rw [if_pos (shC_0 (by assumption)), if_pos (by omega)]; done) | (unfold fs1; rw [if_pos (shC_0 (by assumption))])
   · refine (resT (v := .int .i64 (shC need len starts)) (by kernel_rfl)).trans ?_
     refine congrArg (Value.int _) ?_
     first | (rw [show fs2 need len starts = 2 from if_neg (by rw [shC_n (by assumption)]; decide), shC_f (shC_n (by assumption))]; done) | (unfold fs2; rw [if_pos (shC_0 (by assumption)), if_pos (by omega)]; done) | (unfold fs2; rw [if_pos (shC_0 (by assumption)), if_neg (by omega)])
   exact ⟨rfl, H1⟩
 · skip
   have h1d := nF h1
   refine wp_skip ?_
   refine then_normal ?_
   refine wsr ?_
   refine wv (.slice (some ⟨b, 0, none⟩) n cap) ?_
   refine wv (.int .i64 len) ?_
   refine wv (.slice (some ⟨b2, 0, none⟩) n2 cap2) ?_
   replace hb := hb.ext E1
   replace hb2 := hb2.ext E1
   refine wcl (l05Short_any need n b cap cs hS len starts n2 b2 cap2 cs2 hS2 (by omega) (by omega) (by first | assumption | exact shC_0 (by assumption)) _ hb hb2) ?_
   intro w2 E2
   have si1 := sIdx_b need starts len
   refine wv (.tuple #[.int .i64 (sIdx need len starts), .int .i64 (sMis need len starts)]) ?_
   refine wv (.int .i64 (sIdx need len starts)) ?_
   refine wv (.int .i64 (sMis need len starts)) ?_
   refine wv (.int .i64 (sIdx need len starts)) ?_
   refine wv (.int .i64 (sMis need len starts)) ?_
   refine wpList_nil (then_normal ?_)
   refine wp_seq ?_
   refine wsr ?_
   refine wv (.int .i64 (sIdx need len starts)) ?_
   refine wv (.bool (decide ((sIdx need len starts) < 0))) ?_
   refine wpList_nil (then_normal ?_)
   have H2 := ((Ext.refl w).trans E1).trans E2
   refine wsplit (decide ((sIdx need len starts) < 0)) (fun h2 => ?_) (fun h2 => ?_)
   · skip
     have h2d := dT h2
     refine wsr ?_
     refine wv (.int .i64 0) ?_
     refine wv (.int .i64 0) ?_
     refine wv (.int .i64 6) ?_
     refine wpList_nil (then_normal ?_)
     refine wp_ret ?_
     refine then_ret ?_
     refine ret3 (.int .i64 (fs0 need len starts)) (.int .i64 (fs1 need len starts)) (.int .i64 (fs2 need len starts)) rfl ?_ ?_ ?_ rfl ?_
     · refine (resT (v := .int .i64 0) (by kernel_rfl)).trans ?_
       refine congrArg (Value.int _) ?_
       first | (rw [show fs0 need len starts = 0 from if_neg (by rw [shC_n (by assumption)]; decide)]; done) | (unfold fs0; rw [if_pos (shC_0 (by assumption)), if_pos (by omega)]; done) | (unfold fs0; rw [if_pos (shC_0 (by assumption)), if_neg (by omega)])
     · refine (resT (v := .int .i64 0) (by kernel_rfl)).trans ?_
       refine congrArg (Value.int _) ?_
       first | (rw [show fs1 need len starts = 0 from if_neg (by rw [shC_n (by assumption)]; decide)]; done) | (unfold fs1 sMis; rw [if_pos (shC_0 (by assumption)), if_pos (by omega)]; done) | (unfold fs1; rw [if_pos (shC_0 (by assumption))])
     · refine (resT (v := .int .i64 6) (by kernel_rfl)).trans ?_
       refine congrArg (Value.int _) ?_
       first | (rw [show fs2 need len starts = 2 from if_neg (by rw [shC_n (by assumption)]; decide), shC_f (shC_n (by assumption))]; done) | (unfold fs2; rw [if_pos (shC_0 (by assumption)), if_pos (by omega)]; done) | (unfold fs2; rw [if_pos (shC_0 (by assumption)), if_neg (by omega)])
     exact ⟨rfl, H2⟩
   · skip
     have h2d := dF h2
     refine wp_skip ?_
     refine then_normal ?_
     refine wsr ?_
     refine wv (.int .i64 (sIdx need len starts)) ?_
     refine wv (.int .i64 (sMis need len starts)) ?_
     refine wv (.int .i64 (sIdx need len starts)) ?_
     refine wv (.int .i64 (sMis need len starts)) ?_
     refine wv (.int .i64 0) ?_
     refine wpList_nil (then_normal ?_)
     refine wp_ret ?_
     refine ret3 (.int .i64 (fs0 need len starts)) (.int .i64 (fs1 need len starts)) (.int .i64 (fs2 need len starts)) rfl ?_ ?_ ?_ rfl ?_
     · refine (resT (v := .int .i64 (sIdx need len starts)) (by kernel_rfl)).trans ?_
       refine congrArg (Value.int _) ?_
       first | (rw [show fs0 need len starts = 0 from if_neg (by rw [shC_n (by assumption)]; decide)]; done) | (unfold fs0; rw [if_pos (shC_0 (by assumption)), if_pos (by omega)]; done) | (unfold fs0; rw [if_pos (shC_0 (by assumption)), if_neg (by omega)])
     · refine (resT (v := .int .i64 (sMis need len starts)) (by kernel_rfl)).trans ?_
       refine congrArg (Value.int _) ?_
       first | (rw [show fs1 need len starts = 0 from if_neg (by rw [shC_n (by assumption)]; decide)]; done) | (unfold fs1 sMis; rw [if_pos (shC_0 (by assumption)), if_pos (by omega)]; done) | (unfold fs1; rw [if_pos (shC_0 (by assumption))])
     · refine (resT (v := .int .i64 0) (by kernel_rfl)).trans ?_
       refine congrArg (Value.int _) ?_
       first | (rw [show fs2 need len starts = 2 from if_neg (by rw [shC_n (by assumption)]; decide), shC_f (shC_n (by assumption))]; done) | (unfold fs2; rw [if_pos (shC_0 (by assumption)), if_pos (by omega)]; done) | (unfold fs2; rw [if_pos (shC_0 (by assumption)), if_neg (by omega)])
     exact ⟨rfl, H2⟩


--# iFirstShort_any
theorem iFirstShort_any (need : List Int) (n b cap : Nat) (cs : Array Value) (hS : SlI cs n cap .i64 need) (len : Int) (starts : List Int) (n2 b2 cap2 : Nat) (cs2 : Array Value) (hS2 : SlI cs2 n2 cap2 .i64 starts) (hn : n ≤ 1048576) (hn2 : n2 ≤ 1048576) (w : World) (hb : Blk w b 2 cs) (hb2 : Blk w b2 2 cs2) :
 Calls Try.prog 17 #[.slice (some ⟨b, 0, none⟩) n cap, .int .i64 len, .slice (some ⟨b2, 0, none⟩) n2 cap2] w fun e w' => e = .returned (.tuple #[.int .i64 (fs0 need len starts), .int .i64 (fs1 need len starts), .int .i64 (fs2 need len starts)]) ∧ Ext w w' := by
 have hn_ := hS.len
 have hn2_ := hS2.len
 refine calls_of_wp Try.func17 rfl ?_
 refine wp_frame (a' := ⟨#[.slice (some ⟨b, 0, none⟩) n cap, .int .i64 len, .slice (some ⟨b2, 0, none⟩) n2 cap2, undef, undef, undef, undef, undef, undef, undef, undef, undef, undef, undef, undef, undef, undef, undef, undef, undef, undef, undef, undef, undef, undef, undef, undef, undef, undef, undef, undef, undef, undef, undef, undef], []⟩) (by kernel_rfl) ?_
 refine wsr ?_
 refine wv (.int .i64 0) ?_
 refine wv (.int .i64 0) ?_
 refine wv (.int .i64 0) ?_
 refine wpList_nil (then_normal ?_)
 refine wp_seq ?_
 refine wsr ?_
 refine wv (.slice (some ⟨b, 0, none⟩) n cap) ?_
 refine wv (.int .i64 len) ?_
 refine wv (.slice (some ⟨b2, 0, none⟩) n2 cap2) ?_
 refine wcl (areShifts_any need n b cap cs hS len starts n2 b2 cap2 cs2 hS2 (by omega) (by omega) _ hb hb2) ?_
 intro w1 E1
 refine wv (.bool (!(shB need len starts))) ?_
 refine wpList_nil (then_normal ?_)
 refine wsplit (!(shB need len starts)) (fun h1 => ?_) (fun h1 => ?_)
 · skip
   replace h1 := nbT h1
   refine wsr ?_
   refine wv (.int .i64 0) ?_
   refine wv (.int .i64 0) ?_
   refine wv (.int .i64 2) ?_
   refine wpList_nil (then_normal ?_)
   refine wp_ret ?_
   refine then_ret ?_
   have H1 := (Ext.refl w).trans E1
   refine ret3 (.int .i64 (fs0 need len starts)) (.int .i64 (fs1 need len starts)) (.int .i64 (fs2 need len starts)) rfl ?_ ?_ ?_ rfl ?_
   · refine (resT (v := .int .i64 0) (by kernel_rfl)).trans ?_
     refine congrArg (Value.int _) ?_
     first | (rw [show fs0 need len starts = 0 from if_neg (by rw [show shB need len starts = false by assumption]; decide)]; done) | (unfold fs0; rw [if_pos (by assumption), (sIdx_at i (by omega) hall (by unfold misL; omega)), if_neg (by omega)]; done) | (unfold fs0; rw [if_pos (by assumption), (sIdx_none (fun j hj => hall j (by omega))), if_pos (by omega)]; done)
   · refine (resT (v := .int .i64 0) (by kernel_rfl)).trans ?_
     refine congrArg (Value.int _) ?_
     first | (rw [show fs1 need len starts = 0 from if_neg (by rw [show shB need len starts = false by assumption]; decide)]; done) | (unfold fs1 sMis; rw [if_pos (by assumption), (sIdx_at i (by omega) hall (by unfold misL; omega)), if_neg (by omega), Int.toNat_natCast]; unfold misL; rfl) | (unfold fs1 sMis; rw [if_pos (by assumption), (sIdx_none (fun j hj => hall j (by omega))), if_pos (by omega)]; done)
   · refine (resT (v := .int .i64 2) (by kernel_rfl)).trans ?_
     refine congrArg (Value.int _) ?_
     first | (rw [show fs2 need len starts = 2 from if_neg (by rw [show shB need len starts = false by assumption]; decide)]; done) | (unfold fs2; rw [if_pos (by assumption), (sIdx_at i (by omega) hall (by unfold misL; omega)), if_neg (by omega)]; done) | (unfold fs2; rw [if_pos (by assumption), (sIdx_none (fun j hj => hall j (by omega))), if_pos (by omega)]; done)
   exact ⟨rfl, H1⟩
 · skip
   replace h1 := nbF h1
   refine wp_skip ?_
   refine then_normal ?_
   refine wp_seq ?_
   refine wsr ?_
   refine wv (.slice (some ⟨b, 0, none⟩) n cap) ?_
   refine wv (.int .i64 (n : Int)) ?_
   refine wv (.int .i64 0) ?_
   refine wpList_nil (then_normal ?_)
   refine wp_block ?_
   replace hb := hb.ext E1
   replace hb2 := hb2.ext E1
   have H2 := (Ext.refl w).trans E1
   refine wp_loop_k (fun m1 a wl1 => ∃ (i : Nat), m1 = n - i ∧ i ≤ n ∧ (∀ j, j < i → decide (0 < misL need len starts j) = false) ∧ Ext w wl1 ∧ Blk wl1 b 2 cs ∧ Blk wl1 b2 2 cs2 ∧ (∃ J1 : Nat → Value, a = ⟨#[.slice (some ⟨b, 0, none⟩) n cap, .int .i64 len, .slice (some ⟨b2, 0, none⟩) n2 cap2, undef, undef, undef, J1 6, J1 7, J1 8, J1 9, J1 10, J1 11, .slice (some ⟨b, 0, none⟩) n cap, .int .i64 len, .slice (some ⟨b2, 0, none⟩) n2 cap2, .bool (shB need len starts), .bool (!(shB need len starts)), .slice (some ⟨b, 0, none⟩) n cap, .int .i64 (n : Int), .int .i64 (i : Int), J1 20, J1 21, J1 22, J1 23, J1 24, J1 25, J1 26, J1 27, J1 28, J1 29, J1 30, J1 31, J1 32, J1 33, J1 34], []⟩)) (n) ?_ ?_
   · refine ⟨0, rfl, ?_, ?_, H2, hb, hb2, exJ (by kernel_rfl)⟩
     · omega
     · intro j hj; omega
   intro m1 a wl1 hI
   obtain ⟨i, rfl, hi_, hall, HL1, hb, hb2, J1, rfl⟩ := hI
   have nb_ := shB_b (need := need) (starts := starts) (len := len) (by assumption) i
   have ht_ := shB_t (need := need) (starts := starts) (len := len) (by assumption)
   refine wsr ?_
   refine wv (.bool (decide ((i : Int) < (n : Int)))) ?_
   refine wpList_nil (then_normal ?_)
   refine wp_seq ?_
   refine wsplit (decide ((i : Int) < (n : Int))) (fun h2 => ?_) (fun h2 => ?_)
   · skip
     have h2d := dT h2
     refine wp_skip ?_
     refine then_normal ?_
     refine wp_seq ?_
     refine wp_block ?_
     refine wsr ?_
     refine wv (.int .i64 (i : Int)) ?_
     refine wsix1 b 0 n cap i .i64 slit__int64 ?_
     refine wld b (0 + i) scal_int64 (hb.get (SlI.get hS (by omega))) ?_
     refine wv (.int .i64 (i : Int)) ?_
     refine wv (.int .i64 (atI need i)) ?_
     refine wpList_nil (then_normal ?_)
     refine wsr ?_
     refine wv (.int .i64 (atI need i)) ?_
     refine wv (.slice (some ⟨b2, 0, none⟩) n2 cap2) ?_
     refine wv (.int .i64 len) ?_
     refine wv (.int .i64 (i : Int)) ?_
     refine wcl (working_any starts n2 b2 cap2 cs2 hS2 len (i : Int) (by omega) (fun i_ h_ => shB_s (by assumption) i_ (by omega)) (by omega) _ hb2) ?_
     intro w2 E2
     have wb1 := wkL_b starts len (i : Int)
     refine wi64 ((atI need i) - (wkL starts len (i : Int))) ?_
     refine wv (.int .i64 ((atI need i) - (wkL starts len (i : Int)))) ?_
     refine wpList_nil (then_normal ?_)
     refine wsr ?_
     refine wv (.int .i64 ((atI need i) - (wkL starts len (i : Int)))) ?_
     refine wv (.bool (decide (0 < (atI need i) - (wkL starts len (i : Int))))) ?_
     refine wpList_nil (then_normal ?_)
     refine wsplit (decide (0 < (atI need i) - (wkL starts len (i : Int)))) (fun h3 => ?_) (fun h3 => ?_)
     · skip
       have h3d := dT h3
       refine wsr ?_
       refine wv (.int .i64 (i : Int)) ?_
       refine wv (.int .i64 ((atI need i) - (wkL starts len (i : Int)))) ?_
       refine wv (.int .i64 (i : Int)) ?_
       refine wv (.int .i64 ((atI need i) - (wkL starts len (i : Int)))) ?_
       refine wv (.int .i64 0) ?_
       refine wpList_nil (then_normal ?_)
       refine wp_ret ?_
       refine block_ret (then_ret (then_ret (block_ret (then_ret ?_))))
       have H3 := HL1.trans E2
       refine ret3 (.int .i64 (fs0 need len starts)) (.int .i64 (fs1 need len starts)) (.int .i64 (fs2 need len starts)) rfl ?_ ?_ ?_ rfl ?_
       · refine (resT (v := .int .i64 (i : Int)) (by kernel_rfl)).trans ?_
         refine congrArg (Value.int _) ?_
         first | (rw [show fs0 need len starts = 0 from if_neg (by rw [show shB need len starts = false by assumption]; decide)]; done) | (unfold fs0; rw [if_pos (by assumption), (sIdx_at i (by omega) hall (by unfold misL; omega)), if_neg (by omega)]; done) | (unfold fs0; rw [if_pos (by assumption), (sIdx_none (fun j hj => hall j (by omega))), if_pos (by omega)]; done)
       · refine (resT (v := .int .i64 ((atI need i) - (wkL starts len (i : Int)))) (by kernel_rfl)).trans ?_
         refine congrArg (Value.int _) ?_
         first | (rw [show fs1 need len starts = 0 from if_neg (by rw [show shB need len starts = false by assumption]; decide)]; done) | (unfold fs1 sMis; rw [if_pos (by assumption), (sIdx_at i (by omega) hall (by unfold misL; omega)), if_neg (by omega), Int.toNat_natCast]; unfold misL; rfl) | (unfold fs1 sMis; rw [if_pos (by assumption), (sIdx_none (fun j hj => hall j (by omega))), if_pos (by omega)]; done)
       · refine (resT (v := .int .i64 0) (by kernel_rfl)).trans ?_
         refine congrArg (Value.int _) ?_
         first | (rw [show fs2 need len starts = 2 from if_neg (by rw [show shB need len starts = false by assumption]; decide)]; done) | (unfold fs2; rw [if_pos (by assumption), (sIdx_at i (by omega) hall (by unfold misL; omega)), if_neg (by omega)]; done) | (unfold fs2; rw [if_pos (by assumption), (sIdx_none (fun j hj => hall j (by omega))), if_pos (by omega)]; done)
       exact ⟨rfl, H3⟩
     · skip
       have h3d := dF h3
       refine wp_skip ?_
       refine block_normal (then_normal ?_)
       refine wp_region_lit ?_
       refine wi64 ((i : Int) + 1) ?_
       refine wv (.int .i64 ((i : Int) + 1)) ?_
       refine wpList_nil (then_normal ?_)
       replace hb := hb.ext E2
       replace hb2 := hb2.ext E2
       have H4 := HL1.trans E2
       refine ⟨_, ?_, i + 1, rfl, ?_, ?_, H4, hb, hb2, exJ (by kernel_rfl)⟩
       · omega
       · omega
       · exact false_step hall (decide_eq_false (by unfold misL; omega))
   · skip
     have h2d := dF h2
     refine wp_exit ?_
     refine then_exit ?_
     refine then_exit ?_
     refine block_exit ?_
     refine then_normal ?_
     refine wsr ?_
     refine wv (.int .i64 0) ?_
     refine wv (.int .i64 0) ?_
     refine wv (.int .i64 6) ?_
     refine wpList_nil (then_normal ?_)
     refine wp_ret ?_
     refine ret3 (.int .i64 (fs0 need len starts)) (.int .i64 (fs1 need len starts)) (.int .i64 (fs2 need len starts)) rfl ?_ ?_ ?_ rfl ?_
     · refine (resT (v := .int .i64 0) (by kernel_rfl)).trans ?_
       refine congrArg (Value.int _) ?_
       first | (rw [show fs0 need len starts = 0 from if_neg (by rw [show shB need len starts = false by assumption]; decide)]; done) | (unfold fs0; rw [if_pos (by assumption), (sIdx_at i (by omega) hall (by unfold misL; omega)), if_neg (by omega)]; done) | (unfold fs0; rw [if_pos (by assumption), (sIdx_none (fun j hj => hall j (by omega))), if_pos (by omega)]; done)
     · refine (resT (v := .int .i64 0) (by kernel_rfl)).trans ?_
       refine congrArg (Value.int _) ?_
       first | (rw [show fs1 need len starts = 0 from if_neg (by rw [show shB need len starts = false by assumption]; decide)]; done) | (unfold fs1 sMis; rw [if_pos (by assumption), (sIdx_at i (by omega) hall (by unfold misL; omega)), if_neg (by omega), Int.toNat_natCast]; unfold misL; rfl) | (unfold fs1 sMis; rw [if_pos (by assumption), (sIdx_none (fun j hj => hall j (by omega))), if_pos (by omega)]; done)
     · refine (resT (v := .int .i64 6) (by kernel_rfl)).trans ?_
       refine congrArg (Value.int _) ?_
       first | (rw [show fs2 need len starts = 2 from if_neg (by rw [show shB need len starts = false by assumption]; decide)]; done) | (unfold fs2; rw [if_pos (by assumption), (sIdx_at i (by omega) hall (by unfold misL; omega)), if_neg (by omega)]; done) | (unfold fs2; rw [if_pos (by assumption), (sIdx_none (fun j hj => hall j (by omega))), if_pos (by omega)]; done)
     exact ⟨rfl, HL1⟩


--# sCheckShifts_any
theorem sCheckShifts_any (need : List Int) (n b cap : Nat) (cs : Array Value) (hS : SlI cs n cap .i64 need) (len : Int) (starts : List Int) (n2 b2 cap2 : Nat) (cs2 : Array Value) (hS2 : SlI cs2 n2 cap2 .i64 starts) (hn : n ≤ 1048576) (hn2 : n2 ≤ 1048576) (w : World) (hb : Blk w b 2 cs) (hb2 : Blk w b2 2 cs2) :
 Calls Try.prog 19 #[.slice (some ⟨b, 0, none⟩) n cap, .int .i64 len, .slice (some ⟨b2, 0, none⟩) n2 cap2] w fun e w' => e = .returned (.tuple #[.bool (ck0 need len starts), .int .i64 (shC need len starts)]) ∧ Ext w w' := by
 have hn_ := hS.len
 have hn2_ := hS2.len
 refine calls_of_wp Try.func19 rfl ?_
 refine wp_frame (a' := ⟨#[.slice (some ⟨b, 0, none⟩) n cap, .int .i64 len, .slice (some ⟨b2, 0, none⟩) n2 cap2, undef, undef, undef, undef, undef, undef, undef, undef, undef, undef, undef, undef, undef, undef, undef, undef, undef, undef, undef, undef, undef, undef, undef, undef], []⟩) (by kernel_rfl) ?_
 refine wsr ?_
 refine wv (.bool false) ?_
 refine wv (.int .i64 0) ?_
 refine wpList_nil (then_normal ?_)
 refine wp_seq ?_
 refine wsr ?_
 refine wv (.slice (some ⟨b, 0, none⟩) n cap) ?_
 refine wv (.int .i64 len) ?_
 refine wv (.slice (some ⟨b2, 0, none⟩) n2 cap2) ?_
 refine wcl (l05Needs_any need n b cap cs hS len starts n2 b2 cap2 cs2 hS2 (by omega) (by omega) _ hb hb2) ?_
 intro w1 E1
 refine wv (.int .i64 (shC need len starts)) ?_
 refine wpList_nil (then_normal ?_)
 refine wsr ?_
 refine wv (.int .i64 (shC need len starts)) ?_
 refine wv (.bool ((shC need len starts) != 0)) ?_
 refine wpList_nil (then_normal ?_)
 refine wsplit ((shC need len starts) != 0) (fun h1 => ?_) (fun h1 => ?_)
 · skip
   have h1d := nT h1
   refine wsr ?_
   refine wv (.int .i64 (shC need len starts)) ?_
   refine wv (.bool false) ?_
   refine wv (.int .i64 (shC need len starts)) ?_
   refine wpList_nil (then_normal ?_)
   refine wp_ret ?_
   refine then_ret ?_
   have H1 := (Ext.refl w).trans E1
   refine ret2 (.bool (ck0 need len starts)) (.int .i64 (shC need len starts)) rfl ?_ ?_ rfl ?_
   · refine (resT (v := .bool false) (by kernel_rfl)).trans ?_
     refine congrArg Value.bool ?_
     first | exact (ck0_f (shC_n (by assumption))).symm | exact (ck0_t (shC_0 (by assumption))).symm
   · exact resT (by kernel_rfl)
   exact ⟨rfl, H1⟩
 · skip
   have h1d := nF h1
   refine wp_skip ?_
   refine then_normal ?_
   refine wsr ?_
   refine wv (.slice (some ⟨b, 0, none⟩) n cap) ?_
   refine wv (.int .i64 len) ?_
   refine wv (.slice (some ⟨b2, 0, none⟩) n2 cap2) ?_
   replace hb := hb.ext E1
   replace hb2 := hb2.ext E1
   refine wcl (l05Short_any need n b cap cs hS len starts n2 b2 cap2 cs2 hS2 (by omega) (by omega) (by first | assumption | exact shC_0 (by assumption)) _ hb hb2) ?_
   intro w2 E2
   have si1 := sIdx_b need starts len
   refine wv (.tuple #[.int .i64 (sIdx need len starts), .int .i64 (sMis need len starts)]) ?_
   refine wv (.int .i64 (sIdx need len starts)) ?_
   refine wv (.int .i64 (sMis need len starts)) ?_
   refine wv (.int .i64 (sIdx need len starts)) ?_
   refine wv (.int .i64 (sMis need len starts)) ?_
   refine wpList_nil (then_normal ?_)
   refine wsr ?_
   refine wv (.int .i64 (sIdx need len starts)) ?_
   refine wv (.bool (decide ((sIdx need len starts) < 0))) ?_
   refine wv (.bool (decide ((sIdx need len starts) < 0))) ?_
   refine wv (.int .i64 0) ?_
   refine wpList_nil (then_normal ?_)
   refine wp_ret ?_
   have H2 := ((Ext.refl w).trans E1).trans E2
   refine ret2 (.bool (ck0 need len starts)) (.int .i64 (shC need len starts)) rfl ?_ ?_ rfl ?_
   · refine (resT (v := .bool (decide ((sIdx need len starts) < 0))) (by kernel_rfl)).trans ?_
     refine congrArg Value.bool ?_
     first | exact (ck0_f (shC_n (by assumption))).symm | exact (ck0_t (shC_0 (by assumption))).symm
   · refine (resT (v := .int .i64 0) (by kernel_rfl)).trans ?_
     refine congrArg (Value.int _) ?_
     first | rfl | exact (by assumption : shC need len starts = 0).symm
   exact ⟨rfl, H2⟩


--# iCheckShifts_any
theorem iCheckShifts_any (need : List Int) (n b cap : Nat) (cs : Array Value) (hS : SlI cs n cap .i64 need) (len : Int) (starts : List Int) (n2 b2 cap2 : Nat) (cs2 : Array Value) (hS2 : SlI cs2 n2 cap2 .i64 starts) (hn : n ≤ 1048576) (hn2 : n2 ≤ 1048576) (w : World) (hb : Blk w b 2 cs) (hb2 : Blk w b2 2 cs2) :
 Calls Try.prog 20 #[.slice (some ⟨b, 0, none⟩) n cap, .int .i64 len, .slice (some ⟨b2, 0, none⟩) n2 cap2] w fun e w' => e = .returned (.tuple #[.bool (ck0 need len starts), .int .i64 (shC need len starts)]) ∧ Ext w w' := by
 have hn_ := hS.len
 have hn2_ := hS2.len
 refine calls_of_wp Try.func20 rfl ?_
 refine wp_frame (a' := ⟨#[.slice (some ⟨b, 0, none⟩) n cap, .int .i64 len, .slice (some ⟨b2, 0, none⟩) n2 cap2, undef, undef, undef, undef, undef, undef, undef, undef, undef, undef, undef, undef, undef, undef, undef, undef, undef, undef, undef, undef, undef], []⟩) (by kernel_rfl) ?_
 refine wsr ?_
 refine wv (.bool false) ?_
 refine wv (.int .i64 0) ?_
 refine wpList_nil (then_normal ?_)
 refine wsr ?_
 refine wv (.slice (some ⟨b, 0, none⟩) n cap) ?_
 refine wv (.int .i64 len) ?_
 refine wv (.slice (some ⟨b2, 0, none⟩) n2 cap2) ?_
 refine wcl (iFirstShort_any need n b cap cs hS len starts n2 b2 cap2 cs2 hS2 (by omega) (by omega) _ hb hb2) ?_
 intro w1 E1
 refine wv (.tuple #[.int .i64 (fs0 need len starts), .int .i64 (fs1 need len starts), .int .i64 (fs2 need len starts)]) ?_
 refine wv (.int .i64 (fs0 need len starts)) ?_
 refine wv (.int .i64 (fs1 need len starts)) ?_
 refine wv (.int .i64 (fs2 need len starts)) ?_
 refine wv (.int .i64 (fs0 need len starts)) ?_
 refine wv (.int .i64 (fs1 need len starts)) ?_
 refine wv (.int .i64 (fs2 need len starts)) ?_
 refine wpList_nil (then_normal ?_)
 refine wp_seq ?_
 refine wsr ?_
 refine wv (.int .i64 (fs2 need len starts)) ?_
 refine wv (.bool ((fs2 need len starts) == 2)) ?_
 refine wpList_nil (then_normal ?_)
 refine wsplit ((fs2 need len starts) == 2) (fun h1 => ?_) (fun h1 => ?_)
 · skip
   have h1d := eT h1
   refine wsr ?_
   refine wv (.int .i64 (fs2 need len starts)) ?_
   refine wv (.bool false) ?_
   refine wv (.int .i64 (fs2 need len starts)) ?_
   refine wpList_nil (then_normal ?_)
   refine wp_ret ?_
   refine then_ret ?_
   have H1 := (Ext.refl w).trans E1
   refine ret2 (.bool (ck0 need len starts)) (.int .i64 (shC need len starts)) rfl ?_ ?_ rfl ?_
   · refine (resT (v := .bool false) (by kernel_rfl)).trans ?_
     refine congrArg Value.bool ?_
     first | exact (ck0_f (fs2_2 (by assumption))).symm | (rw [ck0_t (fs2_n (by assumption))]; exact fs2_e (fs2_n (by assumption)))
   · refine (resT (v := .int .i64 (fs2 need len starts)) (by kernel_rfl)).trans ?_
     refine congrArg (Value.int _) ?_
     first | (rw [shC_f (fs2_2 (by assumption))]; assumption) | exact (shC_t (fs2_n (by assumption))).symm
   exact ⟨rfl, H1⟩
 · skip
   have h1d := eF h1
   refine wp_skip ?_
   refine then_normal ?_
   refine wsr ?_
   refine wv (.int .i64 (fs2 need len starts)) ?_
   refine wv (.bool ((fs2 need len starts) == 6)) ?_
   refine wv (.bool ((fs2 need len starts) == 6)) ?_
   refine wv (.int .i64 0) ?_
   refine wpList_nil (then_normal ?_)
   refine wp_ret ?_
   have H2 := (Ext.refl w).trans E1
   refine ret2 (.bool (ck0 need len starts)) (.int .i64 (shC need len starts)) rfl ?_ ?_ rfl ?_
   · refine (resT (v := .bool ((fs2 need len starts) == 6)) (by kernel_rfl)).trans ?_
     refine congrArg Value.bool ?_
     first | exact (ck0_f (fs2_2 (by assumption))).symm | (rw [ck0_t (fs2_n (by assumption))]; exact fs2_e (fs2_n (by assumption)))
   · refine (resT (v := .int .i64 0) (by kernel_rfl)).trans ?_
     refine congrArg (Value.int _) ?_
     first | (rw [shC_f (fs2_2 (by assumption))]; assumption) | exact (shC_t (fs2_n (by assumption))).symm
   exact ⟨rfl, H2⟩


--# iFewestShifts_any
theorem iFewestShifts_any (need : List Int) (n b cap : Nat) (cs : Array Value) (hS : SlI cs n cap .i64 need) (len : Int) (hn : n ≤ 1048576) (w : World) (hb : Blk w b 2 cs) :
 Calls Try.prog 22 #[.slice (some ⟨b, 0, none⟩) n cap, .int .i64 len] w fun e w' => (shC need len [] = 0 ∧ RetI w 2 .i64 (fewL need len) (fun v => .tuple #[v, .int .i64 0]) e w') ∨ (shC need len [] ≠ 0 ∧ e = .returned (.tuple #[.slice none 0 0, .int .i64 (shC need len [])]) ∧ Ext w w') := by
 have hn_ := hS.len
 refine calls_of_wp Try.func22 rfl ?_
 refine wp_frame (a' := ⟨#[.slice (some ⟨b, 0, none⟩) n cap, .int .i64 len, undef, undef, undef, undef, undef, undef, undef, undef, undef, undef, undef, undef, undef, undef, undef, undef, undef, undef, undef, undef, undef, undef, undef, undef, undef, undef, undef, undef, undef, undef, undef, undef, undef, undef], []⟩) (by kernel_rfl) ?_
 refine wsr ?_
 refine wv (.slice none 0 0) ?_
 refine wv (.int .i64 0) ?_
 refine wpList_nil (then_normal ?_)
 refine wp_seq ?_
 refine wsr ?_
 refine wv (.slice (some ⟨b, 0, none⟩) n cap) ?_
 refine wv (.int .i64 len) ?_
 refine wcl (areShifts_nil need n b cap cs hS len (by omega) _ hb) ?_
 intro w1 E1
 refine wv (.bool (!(shB need len []))) ?_
 refine wpList_nil (then_normal ?_)
 have H1 := (Ext.refl w).trans E1
 refine wsplit (!(shB need len [])) (fun h1 => ?_) (fun h1 => ?_)
 · skip
   replace h1 := nbT h1
   refine wsr ?_
   refine wv (.slice none 0 0) ?_
   refine wv (.int .i64 2) ?_
   refine wpList_nil (then_normal ?_)
   refine wp_ret ?_
   refine then_ret ?_
   refine ret2 (.slice none 0 0) (.int .i64 2) rfl ?_ ?_ rfl ?_
   · exact resT (by kernel_rfl)
   · exact resT (by kernel_rfl)
   have ec_ : (2 : Int) = shC need len [] := by first | rfl | exact (shC_f (by assumption)).symm
   rw [ec_]
   exact .inr ⟨(by rw [shC_f (by assumption)]; decide), rfl, H1⟩
 · skip
   replace h1 := nbF h1
   refine wp_skip ?_
   refine then_normal ?_
   refine wsr ?_
   replace hb := hb.ext E1
   refine wbsl 0 #[] slt__int64 ?_
   intro g1 w2 B1 E2 hg_
   have q_b_g1 := Nat.ne_of_lt (Nat.lt_of_lt_of_le hb.lt hg_)
   have lo_g1 := Nat.le_trans (H1).size hg_
   have S1 : SlI #[] 0 0 .i64 [] := SlI.nil
   refine wv (.slice (some ⟨g1, 0, none⟩) 0 0) ?_
   refine wpList_nil (then_normal ?_)
   refine wp_seq ?_
   refine wsr ?_
   refine wv (.slice (some ⟨b, 0, none⟩) n cap) ?_
   refine wv (.int .i64 (n : Int)) ?_
   refine wv (.int .i64 0) ?_
   refine wpList_nil (then_normal ?_)
   refine wp_block ?_
   replace hb := hb.ext E2
   have H2 := H1.trans E2
   refine wp_loop_k (fun m1 a wl1 => ∃ (i : Nat) (go : Nat) (no : Nat) (capo : Nat) (cso : Array Value), m1 = n - i ∧ i ≤ n ∧ SlI cso no capo .i64 (fewN need len i) ∧ w.heap.size ≤ go ∧ b ≠ go ∧ Ext w wl1 ∧ Blk wl1 b 2 cs ∧ Blk wl1 go 2 cso ∧ (∃ J1 : Nat → Value, a = ⟨#[.slice (some ⟨b, 0, none⟩) n cap, .int .i64 len, undef, undef, .slice none 0 0, .int .i64 0, .slice (some ⟨go, 0, none⟩) no capo, J1 7, J1 8, .slice (some ⟨b, 0, none⟩) n cap, .int .i64 len, .bool (shB need len []), .bool (!(shB need len [])), .slice (some ⟨g1, 0, none⟩) 0 0, .slice (some ⟨b, 0, none⟩) n cap, .int .i64 (n : Int), .int .i64 (i : Int), J1 17, J1 18, J1 19, J1 20, J1 21, J1 22, J1 23, J1 24, J1 25, J1 26, J1 27, J1 28, J1 29, J1 30, J1 31, J1 32, J1 33, J1 34, undef], []⟩)) (n) ?_ ?_
   · refine ⟨0, g1, 0, 0, #[], rfl, ?_, ?_, ?_, ?_, H2, hb, B1, exJ (by kernel_rfl)⟩
     · omega
     · refine S1.of_eq ?_
       exact fewN_0.symm
     · exact lo_g1
     · exact q_b_g1
   intro m1 a wl1 hI
   obtain ⟨i, go, no, capo, cso, rfl, hi_, So, lo_go, n_b_go, HL1, hb, Bo, J1, rfl⟩ := hI
   have nb_ := shB_b (need := need) (starts := []) (len := len) (by first | assumption | exact shC_0 (by assumption)) i
   have ht_ := (shB_t (need := need) (starts := []) (len := len) (by first | assumption | exact shC_0 (by assumption)))
   have fb_ := fewN_b (len := len) ht_.2.2.1 i (by omega)
   have len_So := So.len
   refine wsr ?_
   refine wv (.bool (decide ((i : Int) < (n : Int)))) ?_
   refine wpList_nil (then_normal ?_)
   refine wp_seq ?_
   refine wsplit (decide ((i : Int) < (n : Int))) (fun h2 => ?_) (fun h2 => ?_)
   · skip
     have h2d := dT h2
     refine wp_skip ?_
     refine then_normal ?_
     refine wp_seq ?_
     refine wp_block ?_
     refine wsr ?_
     refine wv (.int .i64 (i : Int)) ?_
     refine wsix1 b 0 n cap i .i64 slit__int64 ?_
     refine wld b (0 + i) scal_int64 (hb.get (SlI.get hS (by omega))) ?_
     refine wv (.int .i64 (i : Int)) ?_
     refine wv (.int .i64 (atI need i)) ?_
     refine wpList_nil (then_normal ?_)
     refine wsr ?_
     refine wv (.int .i64 (atI need i)) ?_
     refine wv (.slice (some ⟨go, 0, none⟩) no capo) ?_
     refine wv (.int .i64 len) ?_
     refine wv (.int .i64 (i : Int)) ?_
     refine wcl (working_any (fewN need len i) no go capo cso So len (i : Int) (by omega) (fun i_ h_ => by have fi_ := fewN_in (need := need) (len := len) i i_ (by omega); omega) (by omega) _ Bo) ?_
     intro w3 E3
     have wb1 := wkL_b (fewN need len i) len (i : Int)
     refine wi64 ((atI need i) - (wkL (fewN need len i) len (i : Int))) ?_
     refine wv (.int .i64 0) ?_
     refine wpList_nil (then_normal ?_)
     refine wp_block ?_
     replace Bo := Bo.ext E3
     replace hb := hb.ext E3
     have H3 := HL1.trans E3
     refine wp_loop_k (fun m2 a wl2 => ∃ (k : Nat) (gp : Nat) (np : Nat) (capp : Nat) (csp : Array Value), m2 = (misL need len (fewN need len i) i).toNat - k ∧ k ≤ (misL need len (fewN need len i) i).toNat ∧ SlI csp np capp .i64 (fewK need len i k) ∧ w.heap.size ≤ gp ∧ b ≠ gp ∧ Ext w wl2 ∧ Blk wl2 b 2 cs ∧ Blk wl2 gp 2 csp ∧ (∃ J2 : Nat → Value, a = ⟨#[.slice (some ⟨b, 0, none⟩) n cap, .int .i64 len, undef, undef, .slice none 0 0, .int .i64 0, .slice (some ⟨gp, 0, none⟩) np capp, .int .i64 (i : Int), .int .i64 (atI need i), .slice (some ⟨b, 0, none⟩) n cap, .int .i64 len, .bool (shB need len []), .bool (!(shB need len [])), .slice (some ⟨g1, 0, none⟩) 0 0, .slice (some ⟨b, 0, none⟩) n cap, .int .i64 (n : Int), .int .i64 (i : Int), .bool (decide ((i : Int) < (n : Int))), .int .i64 (i : Int), .pointer (some ⟨b, 0 + i, none⟩), .int .i64 (atI need i), .int .i64 (atI need i), .slice (some ⟨go, 0, none⟩) no capo, .int .i64 len, .int .i64 (i : Int), .int .i64 (wkL (fewN need len i) len (i : Int)), .int .i64 ((atI need i) - (wkL (fewN need len i) len (i : Int))), .int .i64 (k : Int), J2 28, J2 29, J2 30, J2 31, J2 32, J2 33, J1 34, undef], []⟩)) ((misL need len (fewN need len i) i).toNat) ?_ ?_
     · refine ⟨0, go, no, capo, cso, rfl, ?_, ?_, ?_, ?_, H3, hb, Bo, exJ (by kernel_rfl)⟩
       · omega
       · refine So.of_eq ?_
         exact fewK_0 i
       · exact lo_go
       · exact n_b_go
     intro m2 a wl2 hI
     obtain ⟨k, gp, np, capp, csp, rfl, hk_, Sp, lo_gp, n_b_gp, HL2, hb, Bp, J2, rfl⟩ := hI
     have kl_ := fewK_length (need := need) (len := len) i k
     have em_ : misL need len (fewN need len i) i = atI need i - wkL (fewN need len i) len i := by unfold misL; rfl
     have len_Sp := Sp.len
     refine wsr ?_
     refine wv (.bool (decide ((k : Int) < (atI need i) - (wkL (fewN need len i) len (i : Int))))) ?_
     refine wpList_nil (then_normal ?_)
     refine wp_seq ?_
     refine wsplit (decide ((k : Int) < (atI need i) - (wkL (fewN need len i) len (i : Int)))) (fun h3 => ?_) (fun h3 => ?_)
     · skip
       have h3d := dT h3
       refine wp_skip ?_
       refine then_normal ?_
       refine wp_seq ?_
       refine wp_block ?_
       refine wp_region_lit ?_
       refine wv (.slice (some ⟨gp, 0, none⟩) np capp) ?_
       refine wv (.int .i64 (i : Int)) ?_
       refine wbsl 1 #[.int .i64 (i : Int)] slt__int64 ?_
       intro g2 w4 B2 E4 hg_
       have q_b_g2 := Nat.ne_of_lt (Nat.lt_of_lt_of_le hb.lt hg_)
       have q_gp_g2 := Nat.ne_of_lt (Nat.lt_of_lt_of_le Bp.lt hg_)
       have lo_g2 := Nat.le_trans (HL2).size hg_
       replace hb := hb.ext E4
       replace Bp := Bp.ext E4
       have H4 := HL2.trans E4
       refine wappi (i : Int) slt__int64 Bp Sp B2 ?_
       intro g3 cap1 cs1 w5 B3 S2 X1 or1
       have n_b_g3 := ne_app hb n_b_gp or1
       have n_g2_g3 := ne_app B2 (Ne.symm q_gp_g2) or1
       have lo_g3 := Wr.lo or1 lo_gp (H4).size
       refine wv (.slice (some ⟨g3, 0, none⟩) (np + 1) cap1) ?_
       refine wpList_nil (block_normal (then_normal ?_))
       refine wp_region_lit ?_
       refine wi64 ((k : Int) + 1) ?_
       refine wv (.int .i64 ((k : Int) + 1)) ?_
       refine wpList_nil (then_normal ?_)
       replace hb := X1.blk hb n_b_gp
       have H5 := X1.ext w lo_gp H4
       refine ⟨_, ?_, k + 1, g3, np + 1, cap1, cs1, rfl, ?_, ?_, ?_, ?_, H5, hb, B3, exJ (by kernel_rfl)⟩
       · omega
       · have em_ : misL need len (fewN need len i) i = atI need i - wkL (fewN need len i) len i := by unfold misL; rfl
         omega
       · refine S2.of_eq ?_
         exact fewK_s i k
       · exact lo_g3
       · exact n_b_g3
     · skip
       have h3d := dF h3
       refine wp_exit ?_
       refine then_exit ?_
       refine then_exit ?_
       refine block_exit ?_
       refine block_normal (then_normal ?_)
       refine wp_region_lit ?_
       refine wi64 ((i : Int) + 1) ?_
       refine wv (.int .i64 ((i : Int) + 1)) ?_
       refine wpList_nil (then_normal ?_)
       refine ⟨_, ?_, i + 1, gp, np, capp, csp, rfl, ?_, ?_, ?_, ?_, HL2, hb, Bp, exJ (by kernel_rfl)⟩
       · omega
       · omega
       · refine Sp.of_eq ?_
         exact fewK_end (by omega) (by unfold misL; omega)
       · exact lo_gp
       · exact n_b_gp
   · skip
     have h2d := dF h2
     refine wp_exit ?_
     refine then_exit ?_
     refine then_exit ?_
     refine block_exit ?_
     refine then_normal ?_
     refine wsr ?_
     refine wv (.slice (some ⟨go, 0, none⟩) no capo) ?_
     refine wv (.slice (some ⟨go, 0, none⟩) no capo) ?_
     refine wv (.int .i64 0) ?_
     refine wpList_nil (then_normal ?_)
     refine wp_ret ?_
     refine ret2 (.slice (some ⟨go, 0, none⟩) no capo) (.int .i64 0) rfl ?_ ?_ rfl ?_
     · exact resT (by kernel_rfl)
     · exact resT (by kernel_rfl)
     have hq : fewN need len i = fewL need len := by exact fewN_end (by omega) (by omega)
     exact .inl ⟨(shC_t (by assumption)), go, no, capo, cso, rfl, Bo, So.of_eq hq, HL1, lo_go⟩


--# sFewestShifts_any
theorem sFewestShifts_any (need : List Int) (n b cap : Nat) (cs : Array Value) (hS : SlI cs n cap .i64 need) (len : Int) (hn : n ≤ 1048576) (w : World) (hb : Blk w b 2 cs) :
 Calls Try.prog 21 #[.slice (some ⟨b, 0, none⟩) n cap, .int .i64 len] w fun e w' => (shC need len [] = 0 ∧ RetI w 2 .i64 (fewL need len) (fun v => .tuple #[v, .int .i64 0]) e w') ∨ (shC need len [] ≠ 0 ∧ RetI w 2 .i64 [] (fun v => .tuple #[v, .int .i64 (shC need len [])]) e w') := by
 have hn_ := hS.len
 refine calls_of_wp Try.func21 rfl ?_
 refine wp_frame (a' := ⟨#[.slice (some ⟨b, 0, none⟩) n cap, .int .i64 len, undef, undef, undef, undef, undef, undef, undef, undef, undef, undef, undef, undef, undef, undef, undef, undef, undef, undef, undef, undef, undef, undef, undef, undef, undef, undef, undef, undef, undef, undef, undef, undef, undef, undef, undef, undef, undef, undef, undef, undef, undef, undef, undef], []⟩) (by kernel_rfl) ?_
 refine wsr ?_
 refine wv (.slice none 0 0) ?_
 refine wv (.int .i64 0) ?_
 refine wpList_nil (then_normal ?_)
 refine wsr ?_
 refine wbsl 0 #[] slt__int64 ?_
 intro g1 w1 B1 E1 hg_
 have q_b_g1 := Nat.ne_of_lt (Nat.lt_of_lt_of_le hb.lt hg_)
 have lo_g1 := Nat.le_trans ((Ext.refl w)).size hg_
 have S1 : SlI #[] 0 0 .i64 [] := SlI.nil
 refine wv (.slice (some ⟨g1, 0, none⟩) 0 0) ?_
 refine wpList_nil (then_normal ?_)
 refine wp_seq ?_
 refine wsr ?_
 refine wv (.slice (some ⟨b, 0, none⟩) n cap) ?_
 refine wv (.int .i64 len) ?_
 refine wv (.slice (some ⟨g1, 0, none⟩) 0 0) ?_
 replace hb := hb.ext E1
 refine wcl (l05Needs_any need n b cap cs hS len ([] : List Int) 0 g1 0 #[] S1 (by omega) (by omega) _ hb B1) ?_
 intro w2 E2
 refine wv (.int .i64 (shC need len ([] : List Int))) ?_
 refine wpList_nil (then_normal ?_)
 refine wsr ?_
 refine wv (.int .i64 (shC need len ([] : List Int))) ?_
 refine wv (.bool ((shC need len ([] : List Int)) != 0)) ?_
 refine wpList_nil (then_normal ?_)
 have H1 := ((Ext.refl w).trans E1).trans E2
 refine wsplit ((shC need len ([] : List Int)) != 0) (fun h1 => ?_) (fun h1 => ?_)
 · skip
   have h1d := nT h1
   refine wsr ?_
   refine wv (.slice (some ⟨g1, 0, none⟩) 0 0) ?_
   refine wv (.int .i64 (shC need len ([] : List Int))) ?_
   refine wv (.slice (some ⟨g1, 0, none⟩) 0 0) ?_
   refine wv (.int .i64 (shC need len ([] : List Int))) ?_
   refine wpList_nil (then_normal ?_)
   refine wp_ret ?_
   refine then_ret ?_
   refine ret2 (.slice (some ⟨g1, 0, none⟩) 0 0) (.int .i64 (shC need len ([] : List Int))) rfl ?_ ?_ rfl ?_
   · exact resT (by kernel_rfl)
   · exact resT (by kernel_rfl)
   replace B1 := B1.ext E2
   have ec_ : (shC need len ([] : List Int) : Int) = shC need len [] := by first | rfl | exact (shC_f (by assumption)).symm
   rw [ec_]
   exact .inr ⟨(by assumption), g1, 0, 0, #[], rfl, B1, S1, H1, lo_g1⟩
 · skip
   have h1d := nF h1
   refine wp_skip ?_
   refine then_normal ?_
   refine wp_seq ?_
   refine wsr ?_
   refine wv (.int .i64 0) ?_
   refine wpList_nil (then_normal ?_)
   refine wp_block ?_
   replace B1 := B1.ext E2
   replace hb := hb.ext E2
   refine wp_loop_k (fun m1 a wl1 => ∃ (i : Nat) (go : Nat) (no : Nat) (capo : Nat) (cso : Array Value), m1 = n - i ∧ i ≤ n ∧ SlI cso no capo .i64 (fewN need len i) ∧ w.heap.size ≤ go ∧ b ≠ go ∧ Ext w wl1 ∧ Blk wl1 b 2 cs ∧ Blk wl1 go 2 cso ∧ (∃ J1 : Nat → Value, a = ⟨#[.slice (some ⟨b, 0, none⟩) n cap, .int .i64 len, undef, undef, .slice none 0 0, .int .i64 0, .slice (some ⟨go, 0, none⟩) no capo, .int .i64 (shC need len ([] : List Int)), .int .i64 (i : Int), J1 9, J1 10, .slice (some ⟨g1, 0, none⟩) 0 0, .slice (some ⟨b, 0, none⟩) n cap, .int .i64 len, .slice (some ⟨g1, 0, none⟩) 0 0, .int .i64 (shC need len ([] : List Int)), .int .i64 (shC need len ([] : List Int)), .bool ((shC need len ([] : List Int)) != 0), undef, undef, J1 20, J1 21, J1 22, J1 23, J1 24, J1 25, J1 26, J1 27, J1 28, J1 29, J1 30, J1 31, J1 32, J1 33, J1 34, J1 35, J1 36, J1 37, J1 38, J1 39, J1 40, J1 41, J1 42, J1 43, undef], []⟩)) (n) ?_ ?_
   · refine ⟨0, g1, 0, 0, #[], rfl, ?_, ?_, ?_, ?_, H1, hb, B1, exJ (by kernel_rfl)⟩
     · omega
     · refine S1.of_eq ?_
       exact fewN_0.symm
     · exact lo_g1
     · exact q_b_g1
   intro m1 a wl1 hI
   obtain ⟨i, go, no, capo, cso, rfl, hi_, So, lo_go, n_b_go, HL1, hb, Bo, J1, rfl⟩ := hI
   have nb_ := shB_b (need := need) (starts := []) (len := len) (by first | assumption | exact shC_0 (by assumption)) i
   have ht_ := (shB_t (need := need) (starts := []) (len := len) (by first | assumption | exact shC_0 (by assumption)))
   have fb_ := fewN_b (len := len) ht_.2.2.1 i (by omega)
   have len_So := So.len
   refine wp_seq ?_
   refine wsr ?_
   refine wv (.int .i64 (i : Int)) ?_
   refine wv (.slice (some ⟨b, 0, none⟩) n cap) ?_
   refine wv (.int .i64 (n : Int)) ?_
   refine wv (.bool (decide ((i : Int) < (n : Int)))) ?_
   refine wpList_nil (then_normal ?_)
   refine wsplit (decide ((i : Int) < (n : Int))) (fun h2 => ?_) (fun h2 => ?_)
   · skip
     have h2d := dT h2
     refine wp_skip ?_
     refine then_normal ?_
     refine wp_seq ?_
     refine wp_block ?_
     refine wp_seq ?_
     refine wp_frame (a' := ⟨#[.slice (some ⟨b, 0, none⟩) n cap, .int .i64 len, undef, undef, .slice none 0 0, .int .i64 0, .slice (some ⟨go, 0, none⟩) no capo, .int .i64 (shC need len ([] : List Int)), .int .i64 (i : Int), J1 9, J1 10, .slice (some ⟨g1, 0, none⟩) 0 0, .slice (some ⟨b, 0, none⟩) n cap, .int .i64 len, .slice (some ⟨g1, 0, none⟩) 0 0, .int .i64 (shC need len ([] : List Int)), .int .i64 (shC need len ([] : List Int)), .bool ((shC need len ([] : List Int)) != 0), undef, undef, .int .i64 (i : Int), .slice (some ⟨b, 0, none⟩) n cap, .int .i64 (n : Int), .bool (decide ((i : Int) < (n : Int))), J1 24, J1 25, J1 26, J1 27, J1 28, J1 29, J1 30, J1 31, J1 32, J1 33, J1 34, J1 35, J1 36, J1 37, J1 38, J1 39, J1 40, J1 41, J1 42, J1 43, undef], []⟩) (by kernel_rfl) ?_
     have wb1 := wkL_b (fewN need len i) len (i : Int)
     refine region_go 10 [26, 27, 28, 29, 30, 31, 32, 33, 34, 9] [[], [], [0, 1], [2], [], [], [], [4, 5, 6], [3, 7], [8]]
      (fun i_ => ([.val (.slice (some ⟨b, 0, none⟩) n cap), .val (.int .i64 (i : Int)), .val (.pointer (some ⟨b, 0 + i, none⟩)), .val (.int .i64 (atI need i)), .val (.int .i64 len), .val (.slice (some ⟨go, 0, none⟩) no capo), .val (.int .i64 (i : Int)), .val (.int .i64 (wkL (fewN need len i) len (i : Int))), .val (.int .i64 ((atI need i) - (wkL (fewN need len i) len (i : Int)))), .val (.int .i64 ((atI need i) - (wkL (fewN need len i) len (i : Int))))] : List Fct).getD i_ .any)
      (by kernel_rfl) (by kernel_rfl) (by decide) (by simp) rfl (all_succ (all_succ (all_succ (all_succ (all_succ (all_succ (all_succ (all_succ (all_succ (all_succ all_zero ?_) ?_) ?_) ?_) ?_) ?_) ?_) ?_) ?_) ?_) ?_
     · refine step0 rfl rfl rfl (fun wr hw => ?_)
       exact OpRun.val (.slice (some ⟨b, 0, none⟩) n cap) (.slice (some ⟨b, 0, none⟩) n cap) (by kernel_rfl) rfl ⟨Ext.refl _, rfl⟩
     · refine step0 rfl rfl rfl (fun wr hw => ?_)
       exact OpRun.val (.int .i64 (i : Int)) (.int .i64 (i : Int)) (by kernel_rfl) rfl ⟨Ext.refl _, rfl⟩
     · refine step2 rfl rfl rfl rfl rfl (fun u0 u1 wr hw h0 h1 => ?_)
       cases h0
       cases h1
       exact OpRun.six1 (i := i) (k := .i64) (g := b) (off := 0) (n := n) (cap := cap) slit__int64 rfl (by kernel_rfl) (by kernel_rfl) (by omega) ⟨Ext.refl _, rfl⟩
     · refine step1 rfl rfl rfl rfl (fun u0 wr hw h0 => ?_)
       cases h0
       exact OpRun.cell (g := b) (off := 0 + i) (v := .int .i64 (atI need i)) scal_int64 rfl (by kernel_rfl) ((hb.ext hw).get (SlI.get hS (by omega))) ⟨Ext.refl _, rfl⟩
     · refine step0 rfl rfl rfl (fun wr hw => ?_)
       exact OpRun.val (.int .i64 len) (.int .i64 len) (by kernel_rfl) rfl ⟨Ext.refl _, rfl⟩
     · refine step0 rfl rfl rfl (fun wr hw => ?_)
       exact OpRun.val (.slice (some ⟨go, 0, none⟩) no capo) (.slice (some ⟨go, 0, none⟩) no capo) (by kernel_rfl) rfl ⟨Ext.refl _, rfl⟩
     · refine step0 rfl rfl rfl (fun wr hw => ?_)
       exact OpRun.val (.int .i64 (i : Int)) (.int .i64 (i : Int)) (by kernel_rfl) rfl ⟨Ext.refl _, rfl⟩
     · refine step3 rfl rfl rfl rfl rfl rfl (fun u0 u1 u2 wr hw h0 h1 h2 => ?_)
       cases h0
       cases h1
       cases h2
       exact OpRun.call 56 #[.int .i64 len, .slice (some ⟨go, 0, none⟩) no capo, .int .i64 (i : Int)] (by kernel_rfl) ((l05There_any len (fewN need len i) no go capo cso So (i : Int) (by omega) (fun i_ h_ => by have fi_ := fewN_in (need := need) (len := len) i i_ (by omega); omega) (by omega) _ (Bo.ext hw)).mono fun e w1 ⟨he, hb⟩ => ⟨_, he, hb, rfl⟩)
     · refine step2 rfl rfl rfl rfl rfl (fun u0 u1 wr hw h0 h1 => ?_)
       cases h0
       cases h1
       exact OpRun.val (.int .i64 (IntKind.i64.wrap ((atI need i) - (wkL (fewN need len i) len (i : Int))))) (.int .i64 ((atI need i) - (wkL (fewN need len i) len (i : Int)))) (by kernel_rfl) (by exact congrArg _ (IntWalk.i64_in _ (by omega))) ⟨Ext.refl _, rfl⟩
     · refine step1 rfl rfl rfl rfl (fun u0 wr hw h0 => ?_)
       cases h0
       exact OpRun.val (.int .i64 ((atI need i) - (wkL (fewN need len i) len (i : Int)))) (.int .i64 ((atI need i) - (wkL (fewN need len i) len (i : Int)))) (by kernel_rfl) rfl ⟨Ext.refl _, rfl⟩
     refine end10 (fun u0 u1 u2 u3 u4 u5 u6 u7 u8 u9 w3 E3 f0 f1 f2 f3 f4 f5 f6 f7 f8 f9 => ?_)
     cases f0
     cases f1
     cases f2
     cases f3
     cases f4
     cases f5
     cases f6
     cases f7
     cases f8
     cases f9
     refine wpList_nil (then_normal ?_)
     refine wsr ?_
     refine wv (.int .i64 0) ?_
     refine wpList_nil (then_normal ?_)
     refine wp_block ?_
     replace Bo := Bo.ext E3
     replace hb := hb.ext E3
     have H2 := HL1.trans E3
     refine wp_loop_k (fun m2 a wl2 => ∃ (k : Nat) (gp : Nat) (np : Nat) (capp : Nat) (csp : Array Value), m2 = (misL need len (fewN need len i) i).toNat - k ∧ k ≤ (misL need len (fewN need len i) i).toNat ∧ SlI csp np capp .i64 (fewK need len i k) ∧ w.heap.size ≤ gp ∧ b ≠ gp ∧ Ext w wl2 ∧ Blk wl2 b 2 cs ∧ Blk wl2 gp 2 csp ∧ (∃ J2 : Nat → Value, a = ⟨#[.slice (some ⟨b, 0, none⟩) n cap, .int .i64 len, undef, undef, .slice none 0 0, .int .i64 0, .slice (some ⟨gp, 0, none⟩) np capp, .int .i64 (shC need len ([] : List Int)), .int .i64 (i : Int), .int .i64 ((atI need i) - (wkL (fewN need len i) len (i : Int))), .int .i64 (k : Int), .slice (some ⟨g1, 0, none⟩) 0 0, .slice (some ⟨b, 0, none⟩) n cap, .int .i64 len, .slice (some ⟨g1, 0, none⟩) 0 0, .int .i64 (shC need len ([] : List Int)), .int .i64 (shC need len ([] : List Int)), .bool ((shC need len ([] : List Int)) != 0), undef, undef, .int .i64 (i : Int), .slice (some ⟨b, 0, none⟩) n cap, .int .i64 (n : Int), .bool (decide ((i : Int) < (n : Int))), J1 24, J1 25, .slice (some ⟨b, 0, none⟩) n cap, .int .i64 (i : Int), .pointer (some ⟨b, 0 + i, none⟩), .int .i64 (atI need i), .int .i64 len, .slice (some ⟨go, 0, none⟩) no capo, .int .i64 (i : Int), .int .i64 (wkL (fewN need len i) len (i : Int)), .int .i64 ((atI need i) - (wkL (fewN need len i) len (i : Int))), J2 35, J2 36, J2 37, J2 38, J2 39, J2 40, J2 41, J2 42, J2 43, undef], []⟩)) ((misL need len (fewN need len i) i).toNat) ?_ ?_
     · refine ⟨0, go, no, capo, cso, rfl, ?_, ?_, ?_, ?_, H2, hb, Bo, exJ (by kernel_rfl)⟩
       · omega
       · refine So.of_eq ?_
         exact fewK_0 i
       · exact lo_go
       · exact n_b_go
     intro m2 a wl2 hI
     obtain ⟨k, gp, np, capp, csp, rfl, hk_, Sp, lo_gp, n_b_gp, HL2, hb, Bp, J2, rfl⟩ := hI
     have kl_ := fewK_length (need := need) (len := len) i k
     have em_ : misL need len (fewN need len i) i = atI need i - wkL (fewN need len i) len i := by unfold misL; rfl
     have len_Sp := Sp.len
     refine wp_seq ?_
     refine wsr ?_
     refine wv (.int .i64 (k : Int)) ?_
     refine wv (.int .i64 ((atI need i) - (wkL (fewN need len i) len (i : Int)))) ?_
     refine wv (.bool (decide ((k : Int) < (atI need i) - (wkL (fewN need len i) len (i : Int))))) ?_
     refine wpList_nil (then_normal ?_)
     refine wsplit (decide ((k : Int) < (atI need i) - (wkL (fewN need len i) len (i : Int)))) (fun h3 => ?_) (fun h3 => ?_)
     · skip
       have h3d := dT h3
       refine wp_skip ?_
       refine then_normal ?_
       refine wp_seq ?_
       refine wp_block ?_
       refine wp_region_lit ?_
       refine wv (.slice (some ⟨gp, 0, none⟩) np capp) ?_
       refine wv (.int .i64 (i : Int)) ?_
       refine wbsl 1 #[.int .i64 (i : Int)] slt__int64 ?_
       intro g2 w4 B2 E4 hg_
       have q_b_g2 := Nat.ne_of_lt (Nat.lt_of_lt_of_le hb.lt hg_)
       have q_gp_g2 := Nat.ne_of_lt (Nat.lt_of_lt_of_le Bp.lt hg_)
       have lo_g2 := Nat.le_trans (HL2).size hg_
       replace hb := hb.ext E4
       replace Bp := Bp.ext E4
       have H3 := HL2.trans E4
       refine wappi (i : Int) slt__int64 Bp Sp B2 ?_
       intro g3 cap1 cs1 w5 B3 S2 X1 or1
       have n_b_g3 := ne_app hb n_b_gp or1
       have n_g2_g3 := ne_app B2 (Ne.symm q_gp_g2) or1
       have lo_g3 := Wr.lo or1 lo_gp (H3).size
       refine wv (.slice (some ⟨g3, 0, none⟩) (np + 1) cap1) ?_
       refine wpList_nil (block_normal (then_normal ?_))
       refine wp_region_lit ?_
       refine wv (.int .i64 (k : Int)) ?_
       refine wi64 ((k : Int) + 1) ?_
       refine wv (.int .i64 ((k : Int) + 1)) ?_
       refine wpList_nil (then_normal ?_)
       replace hb := X1.blk hb n_b_gp
       have H4 := X1.ext w lo_gp H3
       refine ⟨_, ?_, k + 1, g3, np + 1, cap1, cs1, rfl, ?_, ?_, ?_, ?_, H4, hb, B3, exJ (by kernel_rfl)⟩
       · omega
       · have em_ : misL need len (fewN need len i) i = atI need i - wkL (fewN need len i) len i := by unfold misL; rfl
         omega
       · refine S2.of_eq ?_
         exact fewK_s i k
       · exact lo_g3
       · exact n_b_g3
     · skip
       have h3d := dF h3
       refine wp_exit ?_
       refine then_exit ?_
       refine then_exit ?_
       refine block_exit ?_
       refine block_normal (then_normal ?_)
       refine wp_region_lit ?_
       refine wv (.int .i64 (i : Int)) ?_
       refine wi64 ((i : Int) + 1) ?_
       refine wv (.int .i64 ((i : Int) + 1)) ?_
       refine wpList_nil (then_normal ?_)
       refine ⟨_, ?_, i + 1, gp, np, capp, csp, rfl, ?_, ?_, ?_, ?_, HL2, hb, Bp, exJ (by kernel_rfl)⟩
       · omega
       · omega
       · refine Sp.of_eq ?_
         exact fewK_end (by omega) (by unfold misL; omega)
       · exact lo_gp
       · exact n_b_gp
   · skip
     have h2d := dF h2
     refine wp_exit ?_
     refine then_exit ?_
     refine then_exit ?_
     refine block_exit ?_
     refine then_normal ?_
     refine wsr ?_
     refine wv (.slice (some ⟨go, 0, none⟩) no capo) ?_
     refine wv (.slice (some ⟨go, 0, none⟩) no capo) ?_
     refine wv (.int .i64 0) ?_
     refine wpList_nil (then_normal ?_)
     refine wp_ret ?_
     refine ret2 (.slice (some ⟨go, 0, none⟩) no capo) (.int .i64 0) rfl ?_ ?_ rfl ?_
     · exact resT (by kernel_rfl)
     · exact resT (by kernel_rfl)
     have hq : fewN need len i = fewL need len := by exact fewN_end (by omega) (by omega)
     exact .inl ⟨(by assumption), go, no, capo, cso, rfl, Bo, So.of_eq hq, HL1, lo_go⟩


--# iFewestShifts_t
theorem iFewestShifts_t (need : List Int) (n b cap : Nat) (cs : Array Value) (hS : SlI cs n cap .i64 need) (len : Int) (hn : n ≤ 1048576) (w : World) (hb : Blk w b 2 cs) (hz : shC need len [] = 0) : Calls Try.prog 22 #[.slice (some ⟨b, 0, none⟩) n cap, .int .i64 len] w (RetI w 2 .i64 (fewL need len) (fun v => .tuple #[v, .int .i64 0])) := by
  refine (iFewestShifts_any need n b cap cs hS len hn w hb).mono fun e w' h => ?_
  rcases h with ⟨_, h⟩ | ⟨h, _⟩
  · exact h
  · exact absurd hz h

--# iFewestShifts_f
theorem iFewestShifts_f (need : List Int) (n b cap : Nat) (cs : Array Value) (hS : SlI cs n cap .i64 need) (len : Int) (hn : n ≤ 1048576) (w : World) (hb : Blk w b 2 cs) (hz : shC need len [] ≠ 0) : Calls Try.prog 22 #[.slice (some ⟨b, 0, none⟩) n cap, .int .i64 len] w fun e w' => e = .returned (.tuple #[.slice none 0 0, .int .i64 (shC need len [])]) ∧ Ext w w' := by
  refine (iFewestShifts_any need n b cap cs hS len hn w hb).mono fun e w' h => ?_
  rcases h with ⟨h, _⟩ | ⟨_, h⟩
  · exact absurd h hz
  · exact h

--# sFewestShifts_t
theorem sFewestShifts_t (need : List Int) (n b cap : Nat) (cs : Array Value) (hS : SlI cs n cap .i64 need) (len : Int) (hn : n ≤ 1048576) (w : World) (hb : Blk w b 2 cs) (hz : shC need len [] = 0) : Calls Try.prog 21 #[.slice (some ⟨b, 0, none⟩) n cap, .int .i64 len] w (RetI w 2 .i64 (fewL need len) (fun v => .tuple #[v, .int .i64 0])) := by
  refine (sFewestShifts_any need n b cap cs hS len hn w hb).mono fun e w' h => ?_
  rcases h with ⟨_, h⟩ | ⟨h, _⟩
  · exact h
  · exact absurd hz h

--# sFewestShifts_f
theorem sFewestShifts_f (need : List Int) (n b cap : Nat) (cs : Array Value) (hS : SlI cs n cap .i64 need) (len : Int) (hn : n ≤ 1048576) (w : World) (hb : Blk w b 2 cs) (hz : shC need len [] ≠ 0) : Calls Try.prog 21 #[.slice (some ⟨b, 0, none⟩) n cap, .int .i64 len] w fun e w' => RetI w 2 .i64 [] (fun v => .tuple #[v, .int .i64 (shC need len [])]) e w' := by
  refine (sFewestShifts_any need n b cap cs hS len hn w hb).mono fun e w' h => ?_
  rcases h with ⟨h, _⟩ | ⟨_, h⟩
  · exact absurd h hz
  · exact h
end Go.Proofs.Ytbjcloilcpoafaa
