/-
  Contracts: slices of structs. No conditions.
-/
import Derived.Test.YthiiampknelbjaaTy
import Derived.Test.YthiiampknelbjaaSl
import Derived.Test.YthiiampknelbjaaMth
import Derived.Test.YthiiampknelbjaaRw
namespace Go.Proofs.Ythiiampknelbjaa
open Go.RowKit
set_option linter.unusedSimpArgs false
set_option linter.unusedVariables false
set_option maxHeartbeats 4000000
set_option maxRecDepth 100000
attribute [local irreducible] wpList Code.wp
--# t13 Scarecrow
-- 49
theorem slt__impl_Scarecrow : SlT Try.prog 71 112 3 6 (.agg #[.int .i16 0, .int .i16 0, .int .i8 0]) := ⟨Try.underlying71, by kernel_rfl, by kernel_rfl, by kernel_rfl, by decide⟩
theorem slit__laws_Scarecrow : SliT Try.prog 68 3 := ⟨_, Try.underlying68, by kernel_rfl⟩
theorem rowe_impl_Scarecrow : RowE Try.prog 112 [.i16, .i16, .i8] := ⟨by kernel_rfl, by kernel_rfl, by kernel_rfl, by kernel_rfl⟩

--# toScarecrow_any
theorem toScarecrow_any (x0 x1 x2 : Int) (w : World) :
 Calls Try.prog 97 #[.agg #[.int .i16 x0, .int .i16 x1, .int .i8 x2]] w fun e w' => e = .returned (.agg #[.int .i16 x0, .int .i16 x1, .int .i8 x2]) ∧ Ext w w' := by
 refine calls_of_wp Try.func97 rfl ?_
 refine wp_frame (a' := ⟨#[.agg #[.int .i16 x0, .int .i16 x1, .int .i8 x2], undef, undef, undef, undef, undef, undef, undef, undef, undef, undef, undef, undef, undef], []⟩) (by kernel_rfl) ?_
 refine wsr ?_
 refine wbox #[.int .i16 x0, .int .i16 x1, .int .i8 x2] ?_
 intro g1 w1 B1 E1 hg_
 have lo_g1 := Nat.le_trans ((Ext.refl w)).size hg_
 have H1 := (Ext.refl w).trans E1
 refine wnew #[.int .i16 0, .int .i16 0, .int .i8 0] Try.zeroValue112 rfl ?_
 intro g2 w2 B2 E2 hg_
 have q_g1_g2 := Nat.ne_of_lt (Nat.lt_of_lt_of_le B1.lt hg_)
 have lo_g2 := Nat.le_trans (H1).size hg_
 refine wpList_nil (then_normal ?_)
 refine wsr ?_
 have H2 := H1.trans E2
 replace B1 := B1.ext E2
 refine wnew #[.int .i16 0, .int .i16 0, .int .i8 0] Try.zeroValue112 rfl ?_
 intro g3 w3 B3 E3 hg_
 have q_g1_g3 := Nat.ne_of_lt (Nat.lt_of_lt_of_le B1.lt hg_)
 have q_g2_g3 := Nat.ne_of_lt (Nat.lt_of_lt_of_le B2.lt hg_)
 have lo_g3 := Nat.le_trans (H2).size hg_
 refine wpList_nil (then_normal ?_)
 refine wsr ?_
 refine wv (.pointer (some ⟨g1, 0, none⟩)) ?_
 replace B1 := B1.ext E3
 refine wld (v := .int .i16 x0) g1 (0) scal_int16 (B1.get (rfl)) ?_
 refine wv (.pointer (some ⟨g3, 0, none⟩)) ?_
 refine wst g3 (0) (.int .i16 x0) scal_int16 B3 (rfl) (by simp) ?_
 intro w4 B3_ X1
 clear B3; have B3 := B3_; clear B3_
 refine wpList_nil (then_normal ?_)
 refine wsr ?_
 refine wv (.pointer (some ⟨g1, 1, none⟩)) ?_
 replace B1 := X1.blk B1 q_g1_g3
 refine wld (v := .int .i16 x1) g1 (1) scal_int16 (B1.get (rfl)) ?_
 refine wv (.pointer (some ⟨g3, 1, none⟩)) ?_
 refine wst g3 (1) (.int .i16 x1) scal_int16 B3 (rfl) (by simp) ?_
 intro w5 B3_ X2
 clear B3; have B3 := B3_; clear B3_
 refine wpList_nil (then_normal ?_)
 refine wsr ?_
 refine wv (.pointer (some ⟨g1, 2, none⟩)) ?_
 replace B1 := X2.blk B1 q_g1_g3
 refine wld (v := .int .i8 x2) g1 (2) scal_int8 (B1.get (rfl)) ?_
 refine wv (.pointer (some ⟨g3, 2, none⟩)) ?_
 refine wst g3 (2) (.int .i8 x2) scal_int8 B3 (rfl) (by simp) ?_
 intro w6 B3_ X3
 clear B3; have B3 := B3_; clear B3_
 refine wpList_nil (then_normal ?_)
 refine wsr ?_
 refine wrow row_impl_Scarecrow B3 (by rfl) ?_
 replace B2 := X3.blk (X2.blk (X1.blk (B2.ext E3) q_g2_g3) q_g2_g3) q_g2_g3
 refine wput #[.int .i16 x0, .int .i16 x1, .int .i8 x2] row_impl_Scarecrow B2 (by rfl) (by rfl) (by kernel_rfl) ?_
 intro w7 B2_ X4
 clear B2; have B2 := B2_; clear B2_
 refine wpList_nil (then_normal ?_)
 refine wp_ret ?_
 have H3 := X4.ext w lo_g2 (X3.ext w lo_g3 (X2.ext w lo_g3 (X1.ext w lo_g3 (H2.trans E3))))
 refine ret1 (.agg #[.int .i16 x0, .int .i16 x1, .int .i8 x2]) rfl ?_ rfl ?_
 · refine ⟨g2, 112, #[.int .i16 x0, .int .i16 x1, .int .i8 x2], _, by kernel_rfl, B2, row_impl_Scarecrow, ?_, ?_⟩
   · rfl
   · rfl
 exact ⟨rfl, H3⟩


--# eqScarecrow_same
theorem eqScarecrow_same (x0 x1 x2 : Int) (w : World) :
 Calls Try.prog 99 #[.agg #[.int .i16 x0, .int .i16 x1, .int .i8 x2], .agg #[.int .i16 x0, .int .i16 x1, .int .i8 x2]] w fun e w' => e = .returned (.bool true) ∧ Ext w w' := by
 refine calls_of_wp Try.func99 rfl ?_
 refine wp_frame (a' := ⟨#[.agg #[.int .i16 x0, .int .i16 x1, .int .i8 x2], .agg #[.int .i16 x0, .int .i16 x1, .int .i8 x2], undef, undef, undef, undef, undef, undef, undef, undef, undef, undef, undef, undef, undef, undef, undef, undef, undef, undef], []⟩) (by kernel_rfl) ?_
 refine wsr ?_
 refine wbox #[.int .i16 x0, .int .i16 x1, .int .i8 x2] ?_
 intro g1 w1 B1 E1 _
 refine wbox #[.int .i16 x0, .int .i16 x1, .int .i8 x2] ?_
 intro g2 w2 B2 E2 _
 refine wv (.bool false) ?_
 refine wpList_nil (then_normal ?_)
 refine wp_seq ?_
 refine wsr ?_
 refine wv (.pointer (some ⟨g1, 0, none⟩)) ?_
 replace B1 := B1.ext E2
 refine wld (v := .int .i16 x0) g1 (0) scal_int16 (B1.get (rfl)) ?_
 refine wv (.pointer (some ⟨g2, 0, none⟩)) ?_
 refine wld (v := .int .i16 x0) g2 (0) scal_int16 (B2.get (rfl)) ?_
 refine wvv (.bool (x0 != x0)) (.bool false) (by simp) ?_
 refine wpList_nil (then_normal ?_)
 refine wcf ?_
 refine wp_skip ?_
 refine then_normal ?_
 refine wp_seq ?_
 refine wsr ?_
 refine wv (.pointer (some ⟨g1, 1, none⟩)) ?_
 refine wld (v := .int .i16 x1) g1 (1) scal_int16 (B1.get (rfl)) ?_
 refine wv (.pointer (some ⟨g2, 1, none⟩)) ?_
 refine wld (v := .int .i16 x1) g2 (1) scal_int16 (B2.get (rfl)) ?_
 refine wvv (.bool (x1 != x1)) (.bool false) (by simp) ?_
 refine wpList_nil (then_normal ?_)
 refine wcf ?_
 refine wp_skip ?_
 refine then_normal ?_
 refine wp_seq ?_
 refine wsr ?_
 refine wv (.pointer (some ⟨g1, 2, none⟩)) ?_
 refine wld (v := .int .i8 x2) g1 (2) scal_int8 (B1.get (rfl)) ?_
 refine wv (.pointer (some ⟨g2, 2, none⟩)) ?_
 refine wld (v := .int .i8 x2) g2 (2) scal_int8 (B2.get (rfl)) ?_
 refine wvv (.bool (x2 != x2)) (.bool false) (by simp) ?_
 refine wpList_nil (then_normal ?_)
 refine wcf ?_
 refine wp_skip ?_
 refine then_normal ?_
 refine wsr ?_
 refine wv (.bool true) ?_
 refine wpList_nil (then_normal ?_)
 refine wp_ret ?_
 have H1 := ((Ext.refl w).trans E1).trans E2
 refine ret1 (.bool true) rfl ?_ rfl ?_
 · exact resT (by kernel_rfl)
 exact ⟨rfl, H1⟩


--# toScarecrowS_some
theorem toScarecrowS_some (n : Nat) (f : Nat → Nat → Int) (ad : Addr) (cap : Nat) (hx : n ≤ 1048576) (w : World) (hA : SlRA w ad n 3 [.i16, .i16, .i8] f) :
 Calls Try.prog 49 #[.slice (some ad) n cap] w fun e w' => RetR w 112 n 3 [.i16, .i16, .i8] f e w' := by
 refine calls_of_wp Try.func49 rfl ?_
 refine wp_frame (a' := ⟨#[.slice (some ad) n cap, undef, undef, undef, undef, undef, undef, undef, undef, undef, undef, undef, undef, undef, undef, undef, undef, undef, undef, undef, undef, undef, undef], []⟩) (by kernel_rfl) ?_
 refine wsr ?_
 refine wv (.slice none 0 0) ?_
 refine wpList_nil (then_normal ?_)
 refine wsr ?_
 refine wv (.slice (some ad) n cap) ?_
 refine wv (.int .i64 (n : Int)) ?_
 refine wmsl (k1 := .i64) (k2 := .i64) n slt__impl_Scarecrow ?_
 intro g1 w1 B1 E1 hg_
 have lo_g1 := Nat.le_trans ((Ext.refl w)).size hg_
 have S1 : SlR (madeCells (Value.agg #[.int .i16 0, .int .i16 0, .int .i8 0]).cells (n * 3)) n 3 [.i16, .i16, .i8] (fun _ _ => (0 : Int)) := madeR n rfl (by kernel_rfl) (by simp only [maxLen]; omega)
 refine wv (.slice (some ⟨g1, 0, none⟩) n n) ?_
 refine wpList_nil (then_normal ?_)
 refine wp_seq ?_
 refine wsr ?_
 refine wv (.int .i64 0) ?_
 refine wpList_nil (then_normal ?_)
 refine wp_block ?_
 have H1 := (Ext.refl w).trans E1
 refine wp_loop_k (fun m1 a wl1 => ∃ (i : Nat) (fs : Nat → Nat → Int) (cs_ : Array Value), m1 = n - i ∧ i ≤ n ∧ SlR cs_ n 3 [.i16, .i16, .i8] fs ∧ (∀ j, j < i → fs j = f j) ∧ Ext w wl1 ∧ Blk wl1 g1 112 cs_ ∧ (∃ J1 : Nat → Value, a = ⟨#[.slice (some ad) n cap, undef, .slice none 0 0, .slice (some ⟨g1, 0, none⟩) n n, .int .i64 (i : Int), .slice (some ad) n cap, .int .i64 (n : Int), .slice (some ⟨g1, 0, none⟩) n n, J1 8, J1 9, J1 10, J1 11, J1 12, J1 13, J1 14, J1 15, J1 16, J1 17, J1 18, J1 19, J1 20, J1 21, undef], []⟩)) (n) ?_ ?_
 · refine ⟨0, (fun _ _ => (0 : Int)), (madeCells (Value.agg #[.int .i16 0, .int .i16 0, .int .i8 0]).cells (n * 3)), rfl, ?_, ?_, ?_, H1, B1, exJ (by kernel_rfl)⟩
   · omega
   · exact S1
   · intro j hj; omega
 intro m1 a wl1 hI
 obtain ⟨i, fs, cs_, rfl, hi_, Sm, hys, HL1, B1, J1, rfl⟩ := hI
 refine wp_seq ?_
 refine wsr ?_
 refine wv (.int .i64 (i : Int)) ?_
 refine wv (.slice (some ad) n cap) ?_
 refine wv (.int .i64 (n : Int)) ?_
 refine wv (.bool (decide ((i : Int) < (n : Int)))) ?_
 refine wpList_nil (then_normal ?_)
 refine wsplit (decide ((i : Int) < (n : Int))) (fun h1 => ?_) (fun h1 => ?_)
 · skip
   have h1d := dT h1
   refine wp_skip ?_
   refine then_normal ?_
   refine wp_seq ?_
   refine wp_block ?_
   refine wp_region_lit ?_
   refine wv (.slice (some ⟨g1, 0, none⟩) n n) ?_
   refine wv (.int .i64 (i : Int)) ?_
   refine wv (.slice (some ad) n cap) ?_
   refine wv (.int .i64 (i : Int)) ?_
   refine wsixA ad n cap i .i64 slit__laws_Scarecrow ?_
   refine wrowA #[.int .i16 (f i 0), .int .i16 (f i 1), .int .i8 (f i 2)] ad i row_laws_Scarecrow (SlRA.ext hA HL1) ?_
   refine wcl (toScarecrow_any (f i 0) (f i 1) (f i 2) _) ?_
   intro w2 E2
   refine wsix g1 0 n n i .i64 slit__impl_Scarecrow ?_
   replace B1 := B1.ext E2
   have S2 : SlR (spliceAt cs_ (0 + i * 3) (#[.int .i16 (f i 0), .int .i16 (f i 1), .int .i8 (f i 2)] : Array Value).toList) n 3 [.i16, .i16, .i8] (updR fs i (f i)) := SlR.put Sm (by omega) (f i)
   refine wpmid (n := 3) (0 + i * 3) #[.int .i16 (f i 0), .int .i16 (f i 1), .int .i8 (f i 2)] row_impl_Scarecrow B1 rfl (SlR.lt Sm (by omega)) (by kernel_rfl) rfl ?_
   intro w3 B1_ X1
   clear B1; have B1 := B1_; clear B1_
   refine wpList_nil (block_normal (then_normal ?_))
   refine wp_region_lit ?_
   refine wv (.int .i64 (i : Int)) ?_
   refine wi64 ((i : Int) + 1) ?_
   refine wv (.int .i64 ((i : Int) + 1)) ?_
   refine wpList_nil (then_normal ?_)
   have H2 := X1.ext w lo_g1 (HL1.trans E2)
   refine ⟨_, ?_, i + 1, (updR fs i (f i)), (spliceAt cs_ (0 + i * 3) (#[.int .i16 (f i 0), .int .i16 (f i 1), .int .i8 (f i 2)] : Array Value).toList), rfl, ?_, ?_, ?_, H2, B1, exJ (by kernel_rfl)⟩
   · omega
   · omega
   · exact S2
   · intro j hj
     by_cases hji : j = i
     · rw [hji]; exact updR_self
     · rw [updR_ne hji]; exact hys j (by omega)
 · skip
   have h1d := dF h1
   refine wp_exit ?_
   refine then_exit ?_
   refine then_exit ?_
   refine block_exit ?_
   refine then_normal ?_
   refine wsr ?_
   refine wv (.slice (some ⟨g1, 0, none⟩) n n) ?_
   refine wv (.slice (some ⟨g1, 0, none⟩) n n) ?_
   refine wpList_nil (then_normal ?_)
   refine wp_ret ?_
   refine ret1 (.slice (some ⟨g1, 0, none⟩) n n) rfl ?_ rfl ?_
   · exact resT (by kernel_rfl)
   exact ⟨g1, cs_, rfl, B1, Sm.of (fun j hj => hys j (by omega)), HL1, lo_g1⟩


--# toScarecrowS_nil
theorem toScarecrowS_nil (f : Nat → Nat → Int) (w : World) :
 Calls Try.prog 49 #[.slice none 0 0] w fun e w' => RetR w 112 0 3 [.i16, .i16, .i8] f e w' := by
 refine calls_of_wp Try.func49 rfl ?_
 refine wp_frame (a' := ⟨#[.slice none 0 0, undef, undef, undef, undef, undef, undef, undef, undef, undef, undef, undef, undef, undef, undef, undef, undef, undef, undef, undef, undef, undef, undef], []⟩) (by kernel_rfl) ?_
 refine wsr ?_
 refine wv (.slice none 0 0) ?_
 refine wpList_nil (then_normal ?_)
 refine wsr ?_
 refine wv (.slice none 0 0) ?_
 refine wv (.int .i64 0) ?_
 refine wmsl (k1 := .i64) (k2 := .i64) 0 slt__impl_Scarecrow ?_
 intro g1 w1 B1 E1 hg_
 have lo_g1 := Nat.le_trans ((Ext.refl w)).size hg_
 have S1 : SlR (madeCells (Value.agg #[.int .i16 0, .int .i16 0, .int .i8 0]).cells (0 * 3)) 0 3 [.i16, .i16, .i8] (fun _ _ => (0 : Int)) := madeR 0 rfl (by kernel_rfl) (by simp only [maxLen]; omega)
 refine wv (.slice (some ⟨g1, 0, none⟩) 0 0) ?_
 refine wpList_nil (then_normal ?_)
 refine wp_seq ?_
 refine wsr ?_
 refine wv (.int .i64 0) ?_
 refine wpList_nil (then_normal ?_)
 refine wp_block ?_
 refine wp_loop_rounds 1 ?_
 refine rounds_s ?_
 refine wp_seq ?_
 refine wsr ?_
 refine wv (.int .i64 0) ?_
 refine wv (.slice none 0 0) ?_
 refine wv (.int .i64 0) ?_
 refine wv (.bool false) ?_
 refine wpList_nil (then_normal ?_)
 refine wcf ?_
 refine wp_exit ?_
 refine then_exit ?_
 refine then_exit ?_
 refine block_exit ?_
 refine then_normal ?_
 refine wsr ?_
 refine wv (.slice (some ⟨g1, 0, none⟩) 0 0) ?_
 refine wv (.slice (some ⟨g1, 0, none⟩) 0 0) ?_
 refine wpList_nil (then_normal ?_)
 refine wp_ret ?_
 refine ret1 (.slice (some ⟨g1, 0, none⟩) 0 0) rfl ?_ rfl ?_
 · exact resT (by kernel_rfl)
 have H1 := (Ext.refl w).trans E1
 exact ⟨g1, (madeCells (Value.agg #[.int .i16 0, .int .i16 0, .int .i8 0]).cells (0 * 3)), rfl, B1, S1.of (fun j hj => absurd hj (by omega)), H1, lo_g1⟩


--# toScarecrowS_any
-- 49
theorem toScarecrowS_any (v : Value) (n : Nat) (f : Nat → Nat → Int) (hx : n ≤ 1048576) (w : World) (h : SlRIn w v n 3 [.i16, .i16, .i8] f) : Calls Try.prog 49 #[v] w (RetR w 112 n 3 [.i16, .i16, .i8] f) := by
  rcases h with ⟨rfl, rfl⟩ | ⟨ad, cap, rfl, h⟩
  · exact toScarecrowS_nil f w
  · exact toScarecrowS_some n f ad cap hx w h

--# szScarecrowS_any
theorem szScarecrowS_any (v : Value) (n : Nat) (f : Nat → Nat → Int) (l : Int) (hl : 0 ≤ l ∧ l ≤ 1048576) (hn : n ≤ 9223372036854775807) (w : World) (hin : SlRIn w v n 3 [.i16, .i16, .i8] f) :
 Calls Try.prog 47 #[v, .int .i64 l] w fun e w' => e = .returned (.int .i64 (szL l n)) ∧ Ext w w' := by
 have sz_ := szL_b l n
 refine calls_of_wp Try.func47 rfl ?_
 refine wp_frame (a' := ⟨#[v, .int .i64 l, undef, undef, undef, undef, undef, undef, undef, undef, undef, undef], []⟩) (by kernel_rfl) ?_
 refine wsr ?_
 refine wv (.int .i64 0) ?_
 refine wpList_nil (then_normal ?_)
 refine wsr ?_
 refine wv (.int .i64 l) ?_
 refine wv v ?_
 refine wlenR (SlRIn.ext hin (Ext.refl w)) ⟨_, Try.underlying68⟩ ?_
 refine wi64 (l - (n : Int)) ?_
 refine wv (.int .i64 (l - (n : Int))) ?_
 refine wpList_nil (then_normal ?_)
 refine wp_seq ?_
 refine wsr ?_
 refine wv (.int .i64 (l - (n : Int))) ?_
 refine wv (.bool (decide ((l - (n : Int)) < 0))) ?_
 refine wpList_nil (then_normal ?_)
 refine wsplit (decide ((l - (n : Int)) < 0)) (fun h1 => ?_) (fun h1 => ?_)
 · skip
   have h1d := dT h1
   refine wsr ?_
   refine wv (.int .i64 (-1)) ?_
   refine wpList_nil (then_normal ?_)
   refine wp_ret ?_
   refine then_ret ?_
   refine ret1 (.int .i64 (szL l n)) rfl ?_ rfl ?_
   · refine (resT (v := .int .i64 (-1)) (by kernel_rfl)).trans ?_
     refine congrArg (Value.int _) ?_
     omega
   exact ⟨rfl, (Ext.refl w)⟩
 · skip
   have h1d := dF h1
   refine wp_skip ?_
   refine then_normal ?_
   refine wsr ?_
   refine wv (.int .i64 (l - (n : Int))) ?_
   refine wv (.int .i64 (l - (n : Int))) ?_
   refine wpList_nil (then_normal ?_)
   refine wp_ret ?_
   refine ret1 (.int .i64 (szL l n)) rfl ?_ rfl ?_
   · refine (resT (v := .int .i64 (l - (n : Int))) (by kernel_rfl)).trans ?_
     refine congrArg (Value.int _) ?_
     omega
   exact ⟨rfl, (Ext.refl w)⟩


--# equalSameScarecrow_any
theorem equalSameScarecrow_any (n : Nat) (f : Nat → Nat → Int) (b : Nat) (cs : Array Value) (hS : SlR cs n 3 [.i16, .i16, .i8] f) (n2 : Nat) (f2 : Nat → Nat → Int) (b2 : Nat) (cs2 : Array Value) (hS2 : SlR cs2 n2 3 [.i16, .i16, .i8] f2) (hx : n ≤ 1048576) (hx2 : n2 ≤ 1048576) (w : World) (hb : Blk w b 112 cs) (hb2 : Blk w b2 112 cs2) :
 Calls Try.prog 98 #[.slice (some ⟨b, 0, none⟩) n n, .slice (some ⟨b2, 0, none⟩) n2 n2] w fun e w' => e = .returned (.bool (eqS n n2 3 f f2)) ∧ Ext w w' := by
 refine calls_of_wp Try.func98 rfl ?_
 refine wp_frame (a' := ⟨#[.slice (some ⟨b, 0, none⟩) n n, .slice (some ⟨b2, 0, none⟩) n2 n2, undef, undef, undef, undef, undef, undef, undef, undef, undef, undef, undef, undef, undef, undef, undef, undef, undef, undef, undef, undef, undef, undef, undef, undef], []⟩) (by kernel_rfl) ?_
 refine wsr ?_
 refine wv (.bool false) ?_
 refine wpList_nil (then_normal ?_)
 refine wp_seq ?_
 refine wsr ?_
 refine wv (.slice (some ⟨b, 0, none⟩) n n) ?_
 refine wv (.int .i64 (n : Int)) ?_
 refine wv (.slice (some ⟨b2, 0, none⟩) n2 n2) ?_
 refine wv (.int .i64 (n2 : Int)) ?_
 refine wv (.bool ((n : Int) != (n2 : Int))) ?_
 refine wpList_nil (then_normal ?_)
 refine wsplit ((n : Int) != (n2 : Int)) (fun h1 => ?_) (fun h1 => ?_)
 · skip
   have h1d := nT h1
   refine wsr ?_
   refine wv (.bool false) ?_
   refine wpList_nil (then_normal ?_)
   refine wp_ret ?_
   refine then_ret ?_
   refine ret1 (.bool (eqS n n2 3 f f2)) rfl ?_ rfl ?_
   · refine (resT (v := .bool false) (by kernel_rfl)).trans ?_
     refine congrArg Value.bool ?_
     first | exact (eqS_len (by omega)).symm | exact (eqS_at i (by omega) (by assumption)).symm | exact (eqS_t (by omega) (fun j hj => hys j (by omega))).symm
   exact ⟨rfl, (Ext.refl w)⟩
 · skip
   have h1d := nF h1
   refine wp_skip ?_
   refine then_normal ?_
   refine wp_seq ?_
   refine wsr ?_
   refine wv (.slice (some ⟨b, 0, none⟩) n n) ?_
   refine wv (.int .i64 (n : Int)) ?_
   refine wv (.int .i64 0) ?_
   refine wpList_nil (then_normal ?_)
   refine wp_block ?_
   refine wp_loop_k (fun m1 a wl1 => ∃ (i : Nat), m1 = n - i ∧ i ≤ n ∧ (∀ j, j < i → eqR 3 (f j) (f2 j) = true) ∧ Ext w wl1 ∧ Blk wl1 b 112 cs ∧ Blk wl1 b2 112 cs2 ∧ (∃ J1 : Nat → Value, a = ⟨#[.slice (some ⟨b, 0, none⟩) n n, .slice (some ⟨b2, 0, none⟩) n2 n2, undef, undef, J1 4, J1 5, .slice (some ⟨b, 0, none⟩) n n, .int .i64 (n : Int), .slice (some ⟨b2, 0, none⟩) n2 n2, .int .i64 (n2 : Int), .bool ((n : Int) != (n2 : Int)), .slice (some ⟨b, 0, none⟩) n n, .int .i64 (n : Int), .int .i64 (i : Int), J1 14, J1 15, J1 16, J1 17, J1 18, J1 19, J1 20, J1 21, J1 22, J1 23, J1 24, J1 25], []⟩)) (n) ?_ ?_
   · refine ⟨0, rfl, ?_, ?_, (Ext.refl w), hb, hb2, exJ (by kernel_rfl)⟩
     · omega
     · intro j hj; omega
   intro m1 a wl1 hI
   obtain ⟨i, rfl, hi_, hys, HL1, hb, hb2, J1, rfl⟩ := hI
   refine wsr ?_
   refine wv (.bool (decide ((i : Int) < (n : Int)))) ?_
   refine wpList_nil (then_normal ?_)
   refine wp_seq ?_
   refine wsplit (decide ((i : Int) < (n : Int))) (fun h2 => ?_) (fun h2 => ?_)
   · skip
     have h2d := dT h2
     refine wp_skip ?_
     refine then_normal ?_
     refine wp_seq ?_
     refine wp_block ?_
     refine wsr ?_
     refine wv (.int .i64 (i : Int)) ?_
     refine wv (.int .i64 (i : Int)) ?_
     refine wpList_nil (then_normal ?_)
     refine wp_seq ?_
     refine wp_frame (a' := ⟨#[.slice (some ⟨b, 0, none⟩) n n, .slice (some ⟨b2, 0, none⟩) n2 n2, undef, undef, J1 4, .int .i64 (i : Int), .slice (some ⟨b, 0, none⟩) n n, .int .i64 (n : Int), .slice (some ⟨b2, 0, none⟩) n2 n2, .int .i64 (n2 : Int), .bool ((n : Int) != (n2 : Int)), .slice (some ⟨b, 0, none⟩) n n, .int .i64 (n : Int), .int .i64 (i : Int), .bool (decide ((i : Int) < (n : Int))), .int .i64 (i : Int), J1 16, J1 17, J1 18, J1 19, J1 20, J1 21, J1 22, J1 23, J1 24, J1 25], []⟩) (by kernel_rfl) ?_
     refine region_go 9 [16, 17, 18, 19, 20, 21, 22, 23, 24] [[], [], [0, 1], [2], [], [], [4, 5], [6], [3, 7]]
      (fun i_ => ([.val (.slice (some ⟨b, 0, none⟩) n n), .val (.int .i64 (i : Int)), .val (.pointer (some ⟨b, 0 + i * 3, none⟩)), .val (.agg #[.int .i16 (f i 0), .int .i16 (f i 1), .int .i8 (f i 2)]), .val (.slice (some ⟨b2, 0, none⟩) n2 n2), .val (.int .i64 (i : Int)), .val (.pointer (some ⟨b2, 0 + i * 3, none⟩)), .val (.agg #[.int .i16 (f2 i 0), .int .i16 (f2 i 1), .int .i8 (f2 i 2)]), .val (.bool (!(eqR 3 (f i) (f2 i))))] : List Fct).getD i_ .any)
      (by kernel_rfl) (by kernel_rfl) (by decide) (by simp) rfl (all_succ (all_succ (all_succ (all_succ (all_succ (all_succ (all_succ (all_succ (all_succ all_zero ?_) ?_) ?_) ?_) ?_) ?_) ?_) ?_) ?_) ?_
     · refine step0 rfl rfl rfl (fun wr hw => ?_)
       exact OpRun.val (.slice (some ⟨b, 0, none⟩) n n) (.slice (some ⟨b, 0, none⟩) n n) (by kernel_rfl) rfl ⟨Ext.refl _, rfl⟩
     · refine step0 rfl rfl rfl (fun wr hw => ?_)
       exact OpRun.val (.int .i64 (i : Int)) (.int .i64 (i : Int)) (by kernel_rfl) rfl ⟨Ext.refl _, rfl⟩
     · refine step2 rfl rfl rfl rfl rfl (fun u0 u1 wr hw h0 h1 => ?_)
       cases h0
       cases h1
       exact OpRun.six (i := i) (k := .i64) (g := b) (off := 0) (n := n) (cap := n) slit__impl_Scarecrow rfl (by kernel_rfl) (by kernel_rfl) (by omega) ⟨Ext.refl _, rfl⟩
     · refine step1 rfl rfl rfl rfl (fun u0 wr hw h0 => ?_)
       cases h0
       exact OpRun.mid (cs := [.int .i16 (f i 0), .int .i16 (f i 1), .int .i8 (f i 2)]) row_impl_Scarecrow rfl (SlR.range (i := i) hS (hb.ext hw) (by omega)) rfl (by kernel_rfl) ⟨Ext.refl _, rfl⟩
     · refine step0 rfl rfl rfl (fun wr hw => ?_)
       exact OpRun.val (.slice (some ⟨b2, 0, none⟩) n2 n2) (.slice (some ⟨b2, 0, none⟩) n2 n2) (by kernel_rfl) rfl ⟨Ext.refl _, rfl⟩
     · refine step0 rfl rfl rfl (fun wr hw => ?_)
       exact OpRun.val (.int .i64 (i : Int)) (.int .i64 (i : Int)) (by kernel_rfl) rfl ⟨Ext.refl _, rfl⟩
     · refine step2 rfl rfl rfl rfl rfl (fun u0 u1 wr hw h0 h1 => ?_)
       cases h0
       cases h1
       exact OpRun.six (i := i) (k := .i64) (g := b2) (off := 0) (n := n2) (cap := n2) slit__impl_Scarecrow rfl (by kernel_rfl) (by kernel_rfl) (by omega) ⟨Ext.refl _, rfl⟩
     · refine step1 rfl rfl rfl rfl (fun u0 wr hw h0 => ?_)
       cases h0
       exact OpRun.mid (cs := [.int .i16 (f2 i 0), .int .i16 (f2 i 1), .int .i8 (f2 i 2)]) row_impl_Scarecrow rfl (SlR.range (i := i) hS2 (hb2.ext hw) (by omega)) rfl (by kernel_rfl) ⟨Ext.refl _, rfl⟩
     · refine step2 rfl rfl rfl rfl rfl (fun u0 u1 wr hw h0 h1 => ?_)
       cases h0
       cases h1
       exact OpRun.neqA rfl (by kernel_rfl) (by kernel_rfl) rowe_impl_Scarecrow.eg (equalIn_row rowe_impl_Scarecrow 9998 (f i) (f2 i)) ⟨Ext.refl _, rfl⟩
     refine end9 (fun u0 u1 u2 u3 u4 u5 u6 u7 u8 w1 E1 f0 f1 f2 f3 f4 f5 f6 f7 f8 => ?_)
     cases f0
     cases f1
     cases f2
     cases f3
     cases f4
     cases f5
     cases f6
     cases f7
     cases f8
     refine wpList_nil (then_normal ?_)
     refine wsplit (!(eqR 3 (f i) (f2 i))) (fun h3 => ?_) (fun h3 => ?_)
     · skip
       replace h3 := nbT h3
       refine wsr ?_
       refine wv (.bool false) ?_
       refine wpList_nil (then_normal ?_)
       refine wp_ret ?_
       refine block_ret (then_ret (then_ret (block_ret (then_ret ?_))))
       have H1 := HL1.trans E1
       refine ret1 (.bool (eqS n n2 3 f f2)) rfl ?_ rfl ?_
       · refine (resT (v := .bool false) (by kernel_rfl)).trans ?_
         refine congrArg Value.bool ?_
         first | exact (eqS_len (by omega)).symm | exact (eqS_at i (by omega) (by assumption)).symm | exact (eqS_t (by omega) (fun j hj => hys j (by omega))).symm
       exact ⟨rfl, H1⟩
     · skip
       replace h3 := nbF h3
       refine wp_skip ?_
       refine block_normal (then_normal ?_)
       refine wp_region_lit ?_
       refine wi64 ((i : Int) + 1) ?_
       refine wv (.int .i64 ((i : Int) + 1)) ?_
       refine wpList_nil (then_normal ?_)
       replace hb := hb.ext E1
       replace hb2 := hb2.ext E1
       have H2 := HL1.trans E1
       refine ⟨_, ?_, i + 1, rfl, ?_, ?_, H2, hb, hb2, exJ (by kernel_rfl)⟩
       · omega
       · omega
       · intro j hj
         rcases (by omega : j < i ∨ j = i) with h_ | h_
         · exact hys j h_
         · rw [h_]; assumption
   · skip
     have h2d := dF h2
     refine wp_exit ?_
     refine then_exit ?_
     refine then_exit ?_
     refine block_exit ?_
     refine then_normal ?_
     refine wsr ?_
     refine wv (.bool true) ?_
     refine wpList_nil (then_normal ?_)
     refine wp_ret ?_
     refine ret1 (.bool (eqS n n2 3 f f2)) rfl ?_ rfl ?_
     · refine (resT (v := .bool true) (by kernel_rfl)).trans ?_
       refine congrArg Value.bool ?_
       first | exact (eqS_len (by omega)).symm | exact (eqS_at i (by omega) (by assumption)).symm | exact (eqS_t (by omega) (fun j hj => hys j (by omega))).symm
     exact ⟨rfl, HL1⟩


--# iSameScarecrow_any
theorem iSameScarecrow_any (n : Nat) (f : Nat → Nat → Int) (b : Nat) (cs : Array Value) (hS : SlR cs n 3 [.i16, .i16, .i8] f) (n2 : Nat) (f2 : Nat → Nat → Int) (b2 : Nat) (cs2 : Array Value) (hS2 : SlR cs2 n2 3 [.i16, .i16, .i8] f2) (hx : n ≤ 1048576) (hx2 : n2 ≤ 1048576) (w : World) (hb : Blk w b 112 cs) (hb2 : Blk w b2 112 cs2) :
 Calls Try.prog 50 #[.slice (some ⟨b, 0, none⟩) n n, .slice (some ⟨b2, 0, none⟩) n2 n2] w fun e w' => e = .returned (.bool (eqS n n2 3 f f2)) ∧ Ext w w' := by
 refine calls_of_wp Try.func50 rfl ?_
 refine wp_frame (a' := ⟨#[.slice (some ⟨b, 0, none⟩) n n, .slice (some ⟨b2, 0, none⟩) n2 n2, undef, undef, undef, undef, undef, undef], []⟩) (by kernel_rfl) ?_
 refine wsr ?_
 refine wv (.bool false) ?_
 refine wpList_nil (then_normal ?_)
 refine wsr ?_
 refine wv (.slice (some ⟨b, 0, none⟩) n n) ?_
 refine wv (.slice (some ⟨b2, 0, none⟩) n2 n2) ?_
 refine wcl (equalSameScarecrow_any n f b cs hS n2 f2 b2 cs2 hS2 (by omega) (by omega) _ hb hb2) ?_
 intro w1 E1
 refine wv (.bool (eqS n n2 3 f f2)) ?_
 refine wpList_nil (then_normal ?_)
 refine wp_ret ?_
 have H1 := (Ext.refl w).trans E1
 refine ret1 (.bool (eqS n n2 3 f f2)) rfl ?_ rfl ?_
 · exact resT (by kernel_rfl)
 exact ⟨rfl, H1⟩


--# sSameScarecrow_any
theorem sSameScarecrow_any (n : Nat) (f : Nat → Nat → Int) (b : Nat) (cs : Array Value) (hS : SlR cs n 3 [.i16, .i16, .i8] f) (n2 : Nat) (f2 : Nat → Nat → Int) (b2 : Nat) (cs2 : Array Value) (hS2 : SlR cs2 n2 3 [.i16, .i16, .i8] f2) (hx : n ≤ 1048576) (hx2 : n2 ≤ 1048576) (w : World) (hb : Blk w b 112 cs) (hb2 : Blk w b2 112 cs2) :
 Calls Try.prog 48 #[.slice (some ⟨b, 0, none⟩) n n, .slice (some ⟨b2, 0, none⟩) n2 n2] w fun e w' => e = .returned (.bool (eqS n n2 3 f f2)) ∧ Ext w w' := by
 refine calls_of_wp Try.func48 rfl ?_
 refine wp_frame (a' := ⟨#[.slice (some ⟨b, 0, none⟩) n n, .slice (some ⟨b2, 0, none⟩) n2 n2, undef, undef, undef, undef, undef, undef, undef, undef, undef, undef, undef, undef, undef, undef, undef, undef, undef, undef, undef, undef, undef, undef, undef, undef], []⟩) (by kernel_rfl) ?_
 refine wsr ?_
 refine wv (.bool false) ?_
 refine wpList_nil (then_normal ?_)
 refine wp_seq ?_
 refine wsr ?_
 refine wv (.slice (some ⟨b, 0, none⟩) n n) ?_
 refine wv (.int .i64 (n : Int)) ?_
 refine wv (.slice (some ⟨b2, 0, none⟩) n2 n2) ?_
 refine wv (.int .i64 (n2 : Int)) ?_
 refine wv (.bool ((n : Int) != (n2 : Int))) ?_
 refine wpList_nil (then_normal ?_)
 refine wsplit ((n : Int) != (n2 : Int)) (fun h1 => ?_) (fun h1 => ?_)
 · skip
   have h1d := nT h1
   refine wsr ?_
   refine wv (.bool false) ?_
   refine wpList_nil (then_normal ?_)
   refine wp_ret ?_
   refine then_ret ?_
   refine ret1 (.bool (eqS n n2 3 f f2)) rfl ?_ rfl ?_
   · refine (resT (v := .bool false) (by kernel_rfl)).trans ?_
     refine congrArg Value.bool ?_
     first | exact (eqS_len (by omega)).symm | exact (eqS_at i (by omega) (by assumption)).symm | exact (eqS_t (by omega) (fun j hj => hys j (by omega))).symm
   exact ⟨rfl, (Ext.refl w)⟩
 · skip
   have h1d := nF h1
   refine wp_skip ?_
   refine then_normal ?_
   refine wp_seq ?_
   refine wsr ?_
   refine wv (.int .i64 0) ?_
   refine wpList_nil (then_normal ?_)
   refine wp_block ?_
   refine wp_loop_k (fun m1 a wl1 => ∃ (i : Nat), m1 = n - i ∧ i ≤ n ∧ (∀ j, j < i → eqR 3 (f j) (f2 j) = true) ∧ Ext w wl1 ∧ Blk wl1 b 112 cs ∧ Blk wl1 b2 112 cs2 ∧ (∃ J1 : Nat → Value, a = ⟨#[.slice (some ⟨b, 0, none⟩) n n, .slice (some ⟨b2, 0, none⟩) n2 n2, undef, undef, J1 4, .int .i64 (i : Int), .slice (some ⟨b, 0, none⟩) n n, .int .i64 (n : Int), .slice (some ⟨b2, 0, none⟩) n2 n2, .int .i64 (n2 : Int), .bool ((n : Int) != (n2 : Int)), J1 11, J1 12, J1 13, J1 14, J1 15, J1 16, J1 17, J1 18, J1 19, J1 20, J1 21, J1 22, J1 23, J1 24, J1 25], []⟩)) (n) ?_ ?_
   · refine ⟨0, rfl, ?_, ?_, (Ext.refl w), hb, hb2, exJ (by kernel_rfl)⟩
     · omega
     · intro j hj; omega
   intro m1 a wl1 hI
   obtain ⟨i, rfl, hi_, hys, HL1, hb, hb2, J1, rfl⟩ := hI
   refine wp_seq ?_
   refine wsr ?_
   refine wv (.int .i64 (i : Int)) ?_
   refine wv (.slice (some ⟨b, 0, none⟩) n n) ?_
   refine wv (.int .i64 (n : Int)) ?_
   refine wv (.bool (decide ((i : Int) < (n : Int)))) ?_
   refine wpList_nil (then_normal ?_)
   refine wsplit (decide ((i : Int) < (n : Int))) (fun h2 => ?_) (fun h2 => ?_)
   · skip
     have h2d := dT h2
     refine wp_skip ?_
     refine then_normal ?_
     refine wp_seq ?_
     refine wp_block ?_
     refine wp_seq ?_
     refine wp_frame (a' := ⟨#[.slice (some ⟨b, 0, none⟩) n n, .slice (some ⟨b2, 0, none⟩) n2 n2, undef, undef, J1 4, .int .i64 (i : Int), .slice (some ⟨b, 0, none⟩) n n, .int .i64 (n : Int), .slice (some ⟨b2, 0, none⟩) n2 n2, .int .i64 (n2 : Int), .bool ((n : Int) != (n2 : Int)), .int .i64 (i : Int), .slice (some ⟨b, 0, none⟩) n n, .int .i64 (n : Int), .bool (decide ((i : Int) < (n : Int))), J1 15, J1 16, J1 17, J1 18, J1 19, J1 20, J1 21, J1 22, J1 23, J1 24, J1 25], []⟩) (by kernel_rfl) ?_
     refine region_go 9 [17, 18, 19, 20, 21, 22, 23, 24, 25] [[], [], [0, 1], [2], [], [], [4, 5], [6], [3, 7]]
      (fun i_ => ([.val (.slice (some ⟨b, 0, none⟩) n n), .val (.int .i64 (i : Int)), .val (.pointer (some ⟨b, 0 + i * 3, none⟩)), .val (.agg #[.int .i16 (f i 0), .int .i16 (f i 1), .int .i8 (f i 2)]), .val (.slice (some ⟨b2, 0, none⟩) n2 n2), .val (.int .i64 (i : Int)), .val (.pointer (some ⟨b2, 0 + i * 3, none⟩)), .val (.agg #[.int .i16 (f2 i 0), .int .i16 (f2 i 1), .int .i8 (f2 i 2)]), .val (.bool (!(eqR 3 (f i) (f2 i))))] : List Fct).getD i_ .any)
      (by kernel_rfl) (by kernel_rfl) (by decide) (by simp) rfl (all_succ (all_succ (all_succ (all_succ (all_succ (all_succ (all_succ (all_succ (all_succ all_zero ?_) ?_) ?_) ?_) ?_) ?_) ?_) ?_) ?_) ?_
     · refine step0 rfl rfl rfl (fun wr hw => ?_)
       exact OpRun.val (.slice (some ⟨b, 0, none⟩) n n) (.slice (some ⟨b, 0, none⟩) n n) (by kernel_rfl) rfl ⟨Ext.refl _, rfl⟩
     · refine step0 rfl rfl rfl (fun wr hw => ?_)
       exact OpRun.val (.int .i64 (i : Int)) (.int .i64 (i : Int)) (by kernel_rfl) rfl ⟨Ext.refl _, rfl⟩
     · refine step2 rfl rfl rfl rfl rfl (fun u0 u1 wr hw h0 h1 => ?_)
       cases h0
       cases h1
       exact OpRun.six (i := i) (k := .i64) (g := b) (off := 0) (n := n) (cap := n) slit__impl_Scarecrow rfl (by kernel_rfl) (by kernel_rfl) (by omega) ⟨Ext.refl _, rfl⟩
     · refine step1 rfl rfl rfl rfl (fun u0 wr hw h0 => ?_)
       cases h0
       exact OpRun.mid (cs := [.int .i16 (f i 0), .int .i16 (f i 1), .int .i8 (f i 2)]) row_impl_Scarecrow rfl (SlR.range (i := i) hS (hb.ext hw) (by omega)) rfl (by kernel_rfl) ⟨Ext.refl _, rfl⟩
     · refine step0 rfl rfl rfl (fun wr hw => ?_)
       exact OpRun.val (.slice (some ⟨b2, 0, none⟩) n2 n2) (.slice (some ⟨b2, 0, none⟩) n2 n2) (by kernel_rfl) rfl ⟨Ext.refl _, rfl⟩
     · refine step0 rfl rfl rfl (fun wr hw => ?_)
       exact OpRun.val (.int .i64 (i : Int)) (.int .i64 (i : Int)) (by kernel_rfl) rfl ⟨Ext.refl _, rfl⟩
     · refine step2 rfl rfl rfl rfl rfl (fun u0 u1 wr hw h0 h1 => ?_)
       cases h0
       cases h1
       exact OpRun.six (i := i) (k := .i64) (g := b2) (off := 0) (n := n2) (cap := n2) slit__impl_Scarecrow rfl (by kernel_rfl) (by kernel_rfl) (by omega) ⟨Ext.refl _, rfl⟩
     · refine step1 rfl rfl rfl rfl (fun u0 wr hw h0 => ?_)
       cases h0
       exact OpRun.mid (cs := [.int .i16 (f2 i 0), .int .i16 (f2 i 1), .int .i8 (f2 i 2)]) row_impl_Scarecrow rfl (SlR.range (i := i) hS2 (hb2.ext hw) (by omega)) rfl (by kernel_rfl) ⟨Ext.refl _, rfl⟩
     · refine step2 rfl rfl rfl rfl rfl (fun u0 u1 wr hw h0 h1 => ?_)
       cases h0
       cases h1
       exact OpRun.neqA rfl (by kernel_rfl) (by kernel_rfl) rowe_impl_Scarecrow.eg (equalIn_row rowe_impl_Scarecrow 9998 (f i) (f2 i)) ⟨Ext.refl _, rfl⟩
     refine end9 (fun u0 u1 u2 u3 u4 u5 u6 u7 u8 w1 E1 f0 f1 f2 f3 f4 f5 f6 f7 f8 => ?_)
     cases f0
     cases f1
     cases f2
     cases f3
     cases f4
     cases f5
     cases f6
     cases f7
     cases f8
     refine wpList_nil (then_normal ?_)
     refine wsplit (!(eqR 3 (f i) (f2 i))) (fun h3 => ?_) (fun h3 => ?_)
     · skip
       replace h3 := nbT h3
       refine wsr ?_
       refine wv (.bool false) ?_
       refine wpList_nil (then_normal ?_)
       refine wp_ret ?_
       refine block_ret (then_ret (then_ret (block_ret (then_ret ?_))))
       have H1 := HL1.trans E1
       refine ret1 (.bool (eqS n n2 3 f f2)) rfl ?_ rfl ?_
       · refine (resT (v := .bool false) (by kernel_rfl)).trans ?_
         refine congrArg Value.bool ?_
         first | exact (eqS_len (by omega)).symm | exact (eqS_at i (by omega) (by assumption)).symm | exact (eqS_t (by omega) (fun j hj => hys j (by omega))).symm
       exact ⟨rfl, H1⟩
     · skip
       replace h3 := nbF h3
       refine wp_skip ?_
       refine block_normal (then_normal ?_)
       refine wp_region_lit ?_
       refine wv (.int .i64 (i : Int)) ?_
       refine wi64 ((i : Int) + 1) ?_
       refine wv (.int .i64 ((i : Int) + 1)) ?_
       refine wpList_nil (then_normal ?_)
       replace hb := hb.ext E1
       replace hb2 := hb2.ext E1
       have H2 := HL1.trans E1
       refine ⟨_, ?_, i + 1, rfl, ?_, ?_, H2, hb, hb2, exJ (by kernel_rfl)⟩
       · omega
       · omega
       · intro j hj
         rcases (by omega : j < i ∨ j = i) with h_ | h_
         · exact hys j h_
         · rw [h_]; assumption
   · skip
     have h2d := dF h2
     refine wp_exit ?_
     refine then_exit ?_
     refine then_exit ?_
     refine block_exit ?_
     refine then_normal ?_
     refine wsr ?_
     refine wv (.bool true) ?_
     refine wpList_nil (then_normal ?_)
     refine wp_ret ?_
     refine ret1 (.bool (eqS n n2 3 f f2)) rfl ?_ rfl ?_
     · refine (resT (v := .bool true) (by kernel_rfl)).trans ?_
       refine congrArg Value.bool ?_
       first | exact (eqS_len (by omega)).symm | exact (eqS_at i (by omega) (by assumption)).symm | exact (eqS_t (by omega) (fun j hj => hys j (by omega))).symm
     exact ⟨rfl, HL1⟩


--# eqScarecrowS_same
theorem eqScarecrowS_same (n : Nat) (f : Nat → Nat → Int) (b : Nat) (cs : Array Value) (hS : SlR cs n 3 [.i16, .i16, .i8] f) (b2 : Nat) (cs2 : Array Value) (hS2 : SlR cs2 n 3 [.i16, .i16, .i8] f) (hx : n ≤ 1048576) (w : World) (hb : Blk w b 112 cs) (hb2 : Blk w b2 112 cs2) :
 Calls Try.prog 51 #[.slice (some ⟨b, 0, none⟩) n n, .slice (some ⟨b2, 0, none⟩) n n] w fun e w' => e = .returned (.bool true) ∧ Ext w w' := by
 refine calls_of_wp Try.func51 rfl ?_
 refine wp_frame (a' := ⟨#[.slice (some ⟨b, 0, none⟩) n n, .slice (some ⟨b2, 0, none⟩) n n, undef, undef, undef, undef, undef, undef, undef, undef, undef, undef, undef, undef, undef, undef, undef, undef, undef, undef, undef, undef, undef, undef, undef, undef, undef], []⟩) (by kernel_rfl) ?_
 refine wsr ?_
 refine wv (.bool false) ?_
 refine wpList_nil (then_normal ?_)
 refine wp_seq ?_
 refine wsr ?_
 refine wv (.slice (some ⟨b, 0, none⟩) n n) ?_
 refine wv (.int .i64 (n : Int)) ?_
 refine wv (.slice (some ⟨b2, 0, none⟩) n n) ?_
 refine wv (.int .i64 (n : Int)) ?_
 refine wvv (.bool ((n : Int) != (n : Int))) (.bool false) (by simp) ?_
 refine wpList_nil (then_normal ?_)
 refine wcf ?_
 refine wp_skip ?_
 refine then_normal ?_
 refine wp_seq ?_
 refine wsr ?_
 refine wv (.int .i64 0) ?_
 refine wpList_nil (then_normal ?_)
 refine wp_block ?_
 refine wp_loop_k (fun m1 a wl1 => ∃ (i : Nat), m1 = n - i ∧ i ≤ n ∧ Ext w wl1 ∧ Blk wl1 b 112 cs ∧ Blk wl1 b2 112 cs2 ∧ (∃ J1 : Nat → Value, a = ⟨#[.slice (some ⟨b, 0, none⟩) n n, .slice (some ⟨b2, 0, none⟩) n n, undef, undef, J1 4, .int .i64 (i : Int), .slice (some ⟨b, 0, none⟩) n n, .int .i64 (n : Int), .slice (some ⟨b2, 0, none⟩) n n, .int .i64 (n : Int), .bool false, J1 11, J1 12, J1 13, J1 14, J1 15, J1 16, J1 17, J1 18, J1 19, J1 20, J1 21, J1 22, J1 23, J1 24, J1 25, J1 26], []⟩)) (n) ?_ ?_
 · refine ⟨0, rfl, ?_, (Ext.refl w), hb, hb2, exJ (by kernel_rfl)⟩
   · omega
 intro m1 a wl1 hI
 obtain ⟨i, rfl, hi_, HL1, hb, hb2, J1, rfl⟩ := hI
 refine wp_seq ?_
 refine wsr ?_
 refine wv (.int .i64 (i : Int)) ?_
 refine wv (.slice (some ⟨b, 0, none⟩) n n) ?_
 refine wv (.int .i64 (n : Int)) ?_
 refine wv (.bool (decide ((i : Int) < (n : Int)))) ?_
 refine wpList_nil (then_normal ?_)
 refine wsplit (decide ((i : Int) < (n : Int))) (fun h1 => ?_) (fun h1 => ?_)
 · skip
   have h1d := dT h1
   refine wp_skip ?_
   refine then_normal ?_
   refine wp_seq ?_
   refine wp_block ?_
   refine wp_seq ?_
   refine wp_frame (a' := ⟨#[.slice (some ⟨b, 0, none⟩) n n, .slice (some ⟨b2, 0, none⟩) n n, undef, undef, J1 4, .int .i64 (i : Int), .slice (some ⟨b, 0, none⟩) n n, .int .i64 (n : Int), .slice (some ⟨b2, 0, none⟩) n n, .int .i64 (n : Int), .bool false, .int .i64 (i : Int), .slice (some ⟨b, 0, none⟩) n n, .int .i64 (n : Int), .bool (decide ((i : Int) < (n : Int))), J1 15, J1 16, J1 17, J1 18, J1 19, J1 20, J1 21, J1 22, J1 23, J1 24, J1 25, J1 26], []⟩) (by kernel_rfl) ?_
   refine region_go 10 [17, 18, 19, 20, 21, 22, 23, 24, 25, 26] [[], [], [0, 1], [2], [], [], [4, 5], [6], [3, 7], [8]]
    (fun i_ => ([.val (.slice (some ⟨b, 0, none⟩) n n), .val (.int .i64 (i : Int)), .val (.pointer (some ⟨b, 0 + i * 3, none⟩)), .val (.agg #[.int .i16 (f i 0), .int .i16 (f i 1), .int .i8 (f i 2)]), .val (.slice (some ⟨b2, 0, none⟩) n n), .val (.int .i64 (i : Int)), .val (.pointer (some ⟨b2, 0 + i * 3, none⟩)), .val (.agg #[.int .i16 (f i 0), .int .i16 (f i 1), .int .i8 (f i 2)]), .val (.bool true), .val (.bool false)] : List Fct).getD i_ .any)
    (by kernel_rfl) (by kernel_rfl) (by decide) (by simp) rfl (all_succ (all_succ (all_succ (all_succ (all_succ (all_succ (all_succ (all_succ (all_succ (all_succ all_zero ?_) ?_) ?_) ?_) ?_) ?_) ?_) ?_) ?_) ?_) ?_
   · refine step0 rfl rfl rfl (fun wr hw => ?_)
     exact OpRun.val (.slice (some ⟨b, 0, none⟩) n n) (.slice (some ⟨b, 0, none⟩) n n) (by kernel_rfl) rfl ⟨Ext.refl _, rfl⟩
   · refine step0 rfl rfl rfl (fun wr hw => ?_)
     exact OpRun.val (.int .i64 (i : Int)) (.int .i64 (i : Int)) (by kernel_rfl) rfl ⟨Ext.refl _, rfl⟩
   · refine step2 rfl rfl rfl rfl rfl (fun u0 u1 wr hw h0 h1 => ?_)
     cases h0
     cases h1
     exact OpRun.six (i := i) (k := .i64) (g := b) (off := 0) (n := n) (cap := n) slit__impl_Scarecrow rfl (by kernel_rfl) (by kernel_rfl) (by omega) ⟨Ext.refl _, rfl⟩
   · refine step1 rfl rfl rfl rfl (fun u0 wr hw h0 => ?_)
     cases h0
     exact OpRun.mid (cs := [.int .i16 (f i 0), .int .i16 (f i 1), .int .i8 (f i 2)]) row_impl_Scarecrow rfl (SlR.range (i := i) hS (hb.ext hw) (by omega)) rfl (by kernel_rfl) ⟨Ext.refl _, rfl⟩
   · refine step0 rfl rfl rfl (fun wr hw => ?_)
     exact OpRun.val (.slice (some ⟨b2, 0, none⟩) n n) (.slice (some ⟨b2, 0, none⟩) n n) (by kernel_rfl) rfl ⟨Ext.refl _, rfl⟩
   · refine step0 rfl rfl rfl (fun wr hw => ?_)
     exact OpRun.val (.int .i64 (i : Int)) (.int .i64 (i : Int)) (by kernel_rfl) rfl ⟨Ext.refl _, rfl⟩
   · refine step2 rfl rfl rfl rfl rfl (fun u0 u1 wr hw h0 h1 => ?_)
     cases h0
     cases h1
     exact OpRun.six (i := i) (k := .i64) (g := b2) (off := 0) (n := n) (cap := n) slit__impl_Scarecrow rfl (by kernel_rfl) (by kernel_rfl) (by omega) ⟨Ext.refl _, rfl⟩
   · refine step1 rfl rfl rfl rfl (fun u0 wr hw h0 => ?_)
     cases h0
     exact OpRun.mid (cs := [.int .i16 (f i 0), .int .i16 (f i 1), .int .i8 (f i 2)]) row_impl_Scarecrow rfl (SlR.range (i := i) hS2 (hb2.ext hw) (by omega)) rfl (by kernel_rfl) ⟨Ext.refl _, rfl⟩
   · refine step2 rfl rfl rfl rfl rfl (fun u0 u1 wr hw h0 h1 => ?_)
     cases h0
     cases h1
     exact OpRun.call 99 #[.agg #[.int .i16 (f i 0), .int .i16 (f i 1), .int .i8 (f i 2)], .agg #[.int .i16 (f i 0), .int .i16 (f i 1), .int .i8 (f i 2)]] (by kernel_rfl) ((eqScarecrow_same (f i 0) (f i 1) (f i 2) _).mono fun e w1 ⟨he, hb⟩ => ⟨_, he, hb, rfl⟩)
   · refine step1 rfl rfl rfl rfl (fun u0 wr hw h0 => ?_)
     cases h0
     exact OpRun.val (.bool false) (.bool false) (by kernel_rfl) rfl ⟨Ext.refl _, rfl⟩
   refine end10 (fun u0 u1 u2 u3 u4 u5 u6 u7 u8 u9 w1 E1 f0 f1 f2 f3 f4 f5 f6 f7 f8 f9 => ?_)
   cases f0
   cases f1
   cases f2
   cases f3
   cases f4
   cases f5
   cases f6
   cases f7
   cases f8
   cases f9
   refine wpList_nil (then_normal ?_)
   refine wcf ?_
   refine wp_skip ?_
   refine block_normal (then_normal ?_)
   refine wp_region_lit ?_
   refine wv (.int .i64 (i : Int)) ?_
   refine wi64 ((i : Int) + 1) ?_
   refine wv (.int .i64 ((i : Int) + 1)) ?_
   refine wpList_nil (then_normal ?_)
   replace hb := hb.ext E1
   replace hb2 := hb2.ext E1
   have H1 := HL1.trans E1
   refine ⟨_, ?_, i + 1, rfl, ?_, H1, hb, hb2, exJ (by kernel_rfl)⟩
   · omega
   · omega
 · skip
   have h1d := dF h1
   refine wp_exit ?_
   refine then_exit ?_
   refine then_exit ?_
   refine block_exit ?_
   refine then_normal ?_
   refine wsr ?_
   refine wv (.bool true) ?_
   refine wpList_nil (then_normal ?_)
   refine wp_ret ?_
   refine ret1 (.bool true) rfl ?_ rfl ?_
   · exact resT (by kernel_rfl)
   exact ⟨rfl, HL1⟩


--# t13 Flock
-- 54
theorem slt__impl_Flock : SlT Try.prog 77 117 6 12 (.agg #[.int .i16 0, .int .i16 0, .int .i16 0, .int .i16 0, .int .i16 0, .int .i8 0]) := ⟨Try.underlying77, by kernel_rfl, by kernel_rfl, by kernel_rfl, by decide⟩
theorem rowe_impl_Flock : RowE Try.prog 117 [.i16, .i16, .i16, .i16, .i16, .i8] := ⟨by kernel_rfl, by kernel_rfl, by kernel_rfl, by kernel_rfl⟩

--# toFlock_any
theorem toFlock_any (x0 x1 x2 x3 x4 x5 : Int) (w : World) :
 Calls Try.prog 100 #[.agg #[.int .i16 x0, .int .i16 x1, .int .i16 x2, .int .i16 x3, .int .i16 x4, .int .i8 x5]] w fun e w' => e = .returned (.agg #[.int .i16 x0, .int .i16 x1, .int .i16 x2, .int .i16 x3, .int .i16 x4, .int .i8 x5]) ∧ Ext w w' := by
 refine calls_of_wp Try.func100 rfl ?_
 refine wp_frame (a' := ⟨#[.agg #[.int .i16 x0, .int .i16 x1, .int .i16 x2, .int .i16 x3, .int .i16 x4, .int .i8 x5], undef, undef, undef, undef, undef, undef, undef, undef, undef, undef, undef, undef, undef, undef, undef, undef, undef, undef, undef, undef, undef, undef], []⟩) (by kernel_rfl) ?_
 refine wsr ?_
 refine wbox #[.int .i16 x0, .int .i16 x1, .int .i16 x2, .int .i16 x3, .int .i16 x4, .int .i8 x5] ?_
 intro g1 w1 B1 E1 hg_
 have lo_g1 := Nat.le_trans ((Ext.refl w)).size hg_
 have H1 := (Ext.refl w).trans E1
 refine wnew #[.int .i16 0, .int .i16 0, .int .i16 0, .int .i16 0, .int .i16 0, .int .i8 0] Try.zeroValue117 rfl ?_
 intro g2 w2 B2 E2 hg_
 have q_g1_g2 := Nat.ne_of_lt (Nat.lt_of_lt_of_le B1.lt hg_)
 have lo_g2 := Nat.le_trans (H1).size hg_
 refine wpList_nil (then_normal ?_)
 refine wsr ?_
 have H2 := H1.trans E2
 replace B1 := B1.ext E2
 refine wnew #[.int .i16 0, .int .i16 0, .int .i16 0, .int .i16 0, .int .i16 0, .int .i8 0] Try.zeroValue117 rfl ?_
 intro g3 w3 B3 E3 hg_
 have q_g1_g3 := Nat.ne_of_lt (Nat.lt_of_lt_of_le B1.lt hg_)
 have q_g2_g3 := Nat.ne_of_lt (Nat.lt_of_lt_of_le B2.lt hg_)
 have lo_g3 := Nat.le_trans (H2).size hg_
 refine wpList_nil (then_normal ?_)
 refine wsr ?_
 refine wv (.pointer (some ⟨g1, 0, none⟩)) ?_
 replace B1 := B1.ext E3
 refine wld (v := .int .i16 x0) g1 (0) scal_int16 (B1.get (rfl)) ?_
 refine wv (.pointer (some ⟨g3, 0, none⟩)) ?_
 refine wst g3 (0) (.int .i16 x0) scal_int16 B3 (rfl) (by simp) ?_
 intro w4 B3_ X1
 clear B3; have B3 := B3_; clear B3_
 refine wpList_nil (then_normal ?_)
 refine wsr ?_
 refine wv (.pointer (some ⟨g1, 1, none⟩)) ?_
 replace B1 := X1.blk B1 q_g1_g3
 refine wld (v := .int .i16 x1) g1 (1) scal_int16 (B1.get (rfl)) ?_
 refine wv (.pointer (some ⟨g3, 1, none⟩)) ?_
 refine wst g3 (1) (.int .i16 x1) scal_int16 B3 (rfl) (by simp) ?_
 intro w5 B3_ X2
 clear B3; have B3 := B3_; clear B3_
 refine wpList_nil (then_normal ?_)
 refine wsr ?_
 refine wv (.pointer (some ⟨g1, 2, none⟩)) ?_
 replace B1 := X2.blk B1 q_g1_g3
 refine wld (v := .int .i16 x2) g1 (2) scal_int16 (B1.get (rfl)) ?_
 refine wv (.pointer (some ⟨g3, 2, none⟩)) ?_
 refine wst g3 (2) (.int .i16 x2) scal_int16 B3 (rfl) (by simp) ?_
 intro w6 B3_ X3
 clear B3; have B3 := B3_; clear B3_
 refine wpList_nil (then_normal ?_)
 refine wsr ?_
 refine wv (.pointer (some ⟨g1, 3, none⟩)) ?_
 replace B1 := X3.blk B1 q_g1_g3
 refine wld (v := .int .i16 x3) g1 (3) scal_int16 (B1.get (rfl)) ?_
 refine wv (.pointer (some ⟨g3, 3, none⟩)) ?_
 refine wst g3 (3) (.int .i16 x3) scal_int16 B3 (rfl) (by simp) ?_
 intro w7 B3_ X4
 clear B3; have B3 := B3_; clear B3_
 refine wpList_nil (then_normal ?_)
 refine wsr ?_
 refine wv (.pointer (some ⟨g1, 4, none⟩)) ?_
 replace B1 := X4.blk B1 q_g1_g3
 refine wld (v := .int .i16 x4) g1 (4) scal_int16 (B1.get (rfl)) ?_
 refine wv (.pointer (some ⟨g3, 4, none⟩)) ?_
 refine wst g3 (4) (.int .i16 x4) scal_int16 B3 (rfl) (by simp) ?_
 intro w8 B3_ X5
 clear B3; have B3 := B3_; clear B3_
 refine wpList_nil (then_normal ?_)
 refine wsr ?_
 refine wv (.pointer (some ⟨g1, 5, none⟩)) ?_
 replace B1 := X5.blk B1 q_g1_g3
 refine wld (v := .int .i8 x5) g1 (5) scal_int8 (B1.get (rfl)) ?_
 refine wv (.pointer (some ⟨g3, 5, none⟩)) ?_
 refine wst g3 (5) (.int .i8 x5) scal_int8 B3 (rfl) (by simp) ?_
 intro w9 B3_ X6
 clear B3; have B3 := B3_; clear B3_
 refine wpList_nil (then_normal ?_)
 refine wsr ?_
 refine wrow row_impl_Flock B3 (by rfl) ?_
 replace B2 := X6.blk (X5.blk (X4.blk (X3.blk (X2.blk (X1.blk (B2.ext E3) q_g2_g3) q_g2_g3) q_g2_g3) q_g2_g3) q_g2_g3) q_g2_g3
 refine wput #[.int .i16 x0, .int .i16 x1, .int .i16 x2, .int .i16 x3, .int .i16 x4, .int .i8 x5] row_impl_Flock B2 (by rfl) (by rfl) (by kernel_rfl) ?_
 intro w10 B2_ X7
 clear B2; have B2 := B2_; clear B2_
 refine wpList_nil (then_normal ?_)
 refine wp_ret ?_
 have H3 := X7.ext w lo_g2 (X6.ext w lo_g3 (X5.ext w lo_g3 (X4.ext w lo_g3 (X3.ext w lo_g3 (X2.ext w lo_g3 (X1.ext w lo_g3 (H2.trans E3)))))))
 refine ret1 (.agg #[.int .i16 x0, .int .i16 x1, .int .i16 x2, .int .i16 x3, .int .i16 x4, .int .i8 x5]) rfl ?_ rfl ?_
 · refine ⟨g2, 117, #[.int .i16 x0, .int .i16 x1, .int .i16 x2, .int .i16 x3, .int .i16 x4, .int .i8 x5], _, by kernel_rfl, B2, row_impl_Flock, ?_, ?_⟩
   · rfl
   · rfl
 exact ⟨rfl, H3⟩


--# eqFlock_same
theorem eqFlock_same (x0 x1 x2 x3 x4 x5 : Int) (w : World) :
 Calls Try.prog 102 #[.agg #[.int .i16 x0, .int .i16 x1, .int .i16 x2, .int .i16 x3, .int .i16 x4, .int .i8 x5], .agg #[.int .i16 x0, .int .i16 x1, .int .i16 x2, .int .i16 x3, .int .i16 x4, .int .i8 x5]] w fun e w' => e = .returned (.bool true) ∧ Ext w w' := by
 refine calls_of_wp Try.func102 rfl ?_
 refine wp_frame (a' := ⟨#[.agg #[.int .i16 x0, .int .i16 x1, .int .i16 x2, .int .i16 x3, .int .i16 x4, .int .i8 x5], .agg #[.int .i16 x0, .int .i16 x1, .int .i16 x2, .int .i16 x3, .int .i16 x4, .int .i8 x5], undef, undef, undef, undef, undef, undef, undef, undef, undef, undef, undef, undef, undef, undef, undef, undef, undef, undef, undef, undef, undef, undef, undef, undef, undef, undef, undef, undef, undef, undef, undef, undef, undef], []⟩) (by kernel_rfl) ?_
 refine wsr ?_
 refine wbox #[.int .i16 x0, .int .i16 x1, .int .i16 x2, .int .i16 x3, .int .i16 x4, .int .i8 x5] ?_
 intro g1 w1 B1 E1 _
 refine wbox #[.int .i16 x0, .int .i16 x1, .int .i16 x2, .int .i16 x3, .int .i16 x4, .int .i8 x5] ?_
 intro g2 w2 B2 E2 _
 refine wv (.bool false) ?_
 refine wpList_nil (then_normal ?_)
 refine wp_seq ?_
 refine wsr ?_
 refine wv (.pointer (some ⟨g1, 0, none⟩)) ?_
 replace B1 := B1.ext E2
 refine wld (v := .int .i16 x0) g1 (0) scal_int16 (B1.get (rfl)) ?_
 refine wv (.pointer (some ⟨g2, 0, none⟩)) ?_
 refine wld (v := .int .i16 x0) g2 (0) scal_int16 (B2.get (rfl)) ?_
 refine wvv (.bool (x0 != x0)) (.bool false) (by simp) ?_
 refine wpList_nil (then_normal ?_)
 refine wcf ?_
 refine wp_skip ?_
 refine then_normal ?_
 refine wp_seq ?_
 refine wsr ?_
 refine wv (.pointer (some ⟨g1, 1, none⟩)) ?_
 refine wld (v := .int .i16 x1) g1 (1) scal_int16 (B1.get (rfl)) ?_
 refine wv (.pointer (some ⟨g2, 1, none⟩)) ?_
 refine wld (v := .int .i16 x1) g2 (1) scal_int16 (B2.get (rfl)) ?_
 refine wvv (.bool (x1 != x1)) (.bool false) (by simp) ?_
 refine wpList_nil (then_normal ?_)
 refine wcf ?_
 refine wp_skip ?_
 refine then_normal ?_
 refine wp_seq ?_
 refine wsr ?_
 refine wv (.pointer (some ⟨g1, 2, none⟩)) ?_
 refine wld (v := .int .i16 x2) g1 (2) scal_int16 (B1.get (rfl)) ?_
 refine wv (.pointer (some ⟨g2, 2, none⟩)) ?_
 refine wld (v := .int .i16 x2) g2 (2) scal_int16 (B2.get (rfl)) ?_
 refine wvv (.bool (x2 != x2)) (.bool false) (by simp) ?_
 refine wpList_nil (then_normal ?_)
 refine wcf ?_
 refine wp_skip ?_
 refine then_normal ?_
 refine wp_seq ?_
 refine wsr ?_
 refine wv (.pointer (some ⟨g1, 3, none⟩)) ?_
 refine wld (v := .int .i16 x3) g1 (3) scal_int16 (B1.get (rfl)) ?_
 refine wv (.pointer (some ⟨g2, 3, none⟩)) ?_
 refine wld (v := .int .i16 x3) g2 (3) scal_int16 (B2.get (rfl)) ?_
 refine wvv (.bool (x3 != x3)) (.bool false) (by simp) ?_
 refine wpList_nil (then_normal ?_)
 refine wcf ?_
 refine wp_skip ?_
 refine then_normal ?_
 refine wp_seq ?_
 refine wsr ?_
 refine wv (.pointer (some ⟨g1, 4, none⟩)) ?_
 refine wld (v := .int .i16 x4) g1 (4) scal_int16 (B1.get (rfl)) ?_
 refine wv (.pointer (some ⟨g2, 4, none⟩)) ?_
 refine wld (v := .int .i16 x4) g2 (4) scal_int16 (B2.get (rfl)) ?_
 refine wvv (.bool (x4 != x4)) (.bool false) (by simp) ?_
 refine wpList_nil (then_normal ?_)
 refine wcf ?_
 refine wp_skip ?_
 refine then_normal ?_
 refine wp_seq ?_
 refine wsr ?_
 refine wv (.pointer (some ⟨g1, 5, none⟩)) ?_
 refine wld (v := .int .i8 x5) g1 (5) scal_int8 (B1.get (rfl)) ?_
 refine wv (.pointer (some ⟨g2, 5, none⟩)) ?_
 refine wld (v := .int .i8 x5) g2 (5) scal_int8 (B2.get (rfl)) ?_
 refine wvv (.bool (x5 != x5)) (.bool false) (by simp) ?_
 refine wpList_nil (then_normal ?_)
 refine wp_frame (a' := ⟨#[.agg #[.int .i16 x0, .int .i16 x1, .int .i16 x2, .int .i16 x3, .int .i16 x4, .int .i8 x5], .agg #[.int .i16 x0, .int .i16 x1, .int .i16 x2, .int .i16 x3, .int .i16 x4, .int .i8 x5], .pointer (some ⟨g1, 0, none⟩), .pointer (some ⟨g2, 0, none⟩), .bool false, .pointer (some ⟨g1, 0, none⟩), .int .i16 x0, .pointer (some ⟨g2, 0, none⟩), .int .i16 x0, .bool false, .pointer (some ⟨g1, 1, none⟩), .int .i16 x1, .pointer (some ⟨g2, 1, none⟩), .int .i16 x1, .bool false, .pointer (some ⟨g1, 2, none⟩), .int .i16 x2, .pointer (some ⟨g2, 2, none⟩), .int .i16 x2, .bool false, .pointer (some ⟨g1, 3, none⟩), .int .i16 x3, .pointer (some ⟨g2, 3, none⟩), .int .i16 x3, .bool false, .pointer (some ⟨g1, 4, none⟩), .int .i16 x4, .pointer (some ⟨g2, 4, none⟩), .int .i16 x4, .bool false, .pointer (some ⟨g1, 5, none⟩), .int .i8 x5, .pointer (some ⟨g2, 5, none⟩), .int .i8 x5, .bool false], []⟩) (by kernel_rfl) ?_
 refine wcf ?_
 refine wp_skip ?_
 refine then_normal ?_
 refine wsr ?_
 refine wv (.bool true) ?_
 refine wpList_nil (then_normal ?_)
 refine wp_ret ?_
 have H1 := ((Ext.refl w).trans E1).trans E2
 refine ret1 (.bool true) rfl ?_ rfl ?_
 · exact resT (by kernel_rfl)
 exact ⟨rfl, H1⟩


--# toFlockS_some
theorem toFlockS_some (n : Nat) (f : Nat → Nat → Int) (ad : Addr) (cap : Nat) (hx : n ≤ 1048576) (w : World) (hA : SlRA w ad n 6 [.i16, .i16, .i16, .i16, .i16, .i8] f) :
 Calls Try.prog 54 #[.slice (some ad) n cap] w fun e w' => RetR w 117 n 6 [.i16, .i16, .i16, .i16, .i16, .i8] f e w' := by
 refine calls_of_wp Try.func54 rfl ?_
 refine wp_frame (a' := ⟨#[.slice (some ad) n cap, undef, undef, undef, undef, undef, undef, undef, undef, undef, undef, undef, undef, undef, undef, undef, undef, undef, undef, undef, undef, undef, undef], []⟩) (by kernel_rfl) ?_
 refine wsr ?_
 refine wv (.slice none 0 0) ?_
 refine wpList_nil (then_normal ?_)
 refine wsr ?_
 refine wv (.slice (some ad) n cap) ?_
 refine wv (.int .i64 (n : Int)) ?_
 refine wmsl (k1 := .i64) (k2 := .i64) n slt__impl_Flock ?_
 intro g1 w1 B1 E1 hg_
 have lo_g1 := Nat.le_trans ((Ext.refl w)).size hg_
 have S1 : SlR (madeCells (Value.agg #[.int .i16 0, .int .i16 0, .int .i16 0, .int .i16 0, .int .i16 0, .int .i8 0]).cells (n * 6)) n 6 [.i16, .i16, .i16, .i16, .i16, .i8] (fun _ _ => (0 : Int)) := madeR n rfl (by kernel_rfl) (by simp only [maxLen]; omega)
 refine wv (.slice (some ⟨g1, 0, none⟩) n n) ?_
 refine wpList_nil (then_normal ?_)
 refine wp_seq ?_
 refine wsr ?_
 refine wv (.int .i64 0) ?_
 refine wpList_nil (then_normal ?_)
 refine wp_block ?_
 have H1 := (Ext.refl w).trans E1
 refine wp_loop_k (fun m1 a wl1 => ∃ (i : Nat) (fs : Nat → Nat → Int) (cs_ : Array Value), m1 = n - i ∧ i ≤ n ∧ SlR cs_ n 6 [.i16, .i16, .i16, .i16, .i16, .i8] fs ∧ (∀ j, j < i → fs j = f j) ∧ Ext w wl1 ∧ Blk wl1 g1 117 cs_ ∧ (∃ J1 : Nat → Value, a = ⟨#[.slice (some ad) n cap, undef, .slice none 0 0, .slice (some ⟨g1, 0, none⟩) n n, .int .i64 (i : Int), .slice (some ad) n cap, .int .i64 (n : Int), .slice (some ⟨g1, 0, none⟩) n n, J1 8, J1 9, J1 10, J1 11, J1 12, J1 13, J1 14, J1 15, J1 16, J1 17, J1 18, J1 19, J1 20, J1 21, undef], []⟩)) (n) ?_ ?_
 · refine ⟨0, (fun _ _ => (0 : Int)), (madeCells (Value.agg #[.int .i16 0, .int .i16 0, .int .i16 0, .int .i16 0, .int .i16 0, .int .i8 0]).cells (n * 6)), rfl, ?_, ?_, ?_, H1, B1, exJ (by kernel_rfl)⟩
   · omega
   · exact S1
   · intro j hj; omega
 intro m1 a wl1 hI
 obtain ⟨i, fs, cs_, rfl, hi_, Sm, hys, HL1, B1, J1, rfl⟩ := hI
 refine wp_seq ?_
 refine wsr ?_
 refine wv (.int .i64 (i : Int)) ?_
 refine wv (.slice (some ad) n cap) ?_
 refine wv (.int .i64 (n : Int)) ?_
 refine wv (.bool (decide ((i : Int) < (n : Int)))) ?_
 refine wpList_nil (then_normal ?_)
 refine wsplit (decide ((i : Int) < (n : Int))) (fun h1 => ?_) (fun h1 => ?_)
 · skip
   have h1d := dT h1
   refine wp_skip ?_
   refine then_normal ?_
   refine wp_seq ?_
   refine wp_block ?_
   refine wp_region_lit ?_
   refine wv (.slice (some ⟨g1, 0, none⟩) n n) ?_
   refine wv (.int .i64 (i : Int)) ?_
   refine wv (.slice (some ad) n cap) ?_
   refine wv (.int .i64 (i : Int)) ?_
   refine wsixA ad n cap i .i64 slit__laws_Flock ?_
   refine wrowA #[.int .i16 (f i 0), .int .i16 (f i 1), .int .i16 (f i 2), .int .i16 (f i 3), .int .i16 (f i 4), .int .i8 (f i 5)] ad i row_laws_Flock (SlRA.ext hA HL1) ?_
   refine wcl (toFlock_any (f i 0) (f i 1) (f i 2) (f i 3) (f i 4) (f i 5) _) ?_
   intro w2 E2
   refine wsix g1 0 n n i .i64 slit__impl_Flock ?_
   replace B1 := B1.ext E2
   have S2 : SlR (spliceAt cs_ (0 + i * 6) (#[.int .i16 (f i 0), .int .i16 (f i 1), .int .i16 (f i 2), .int .i16 (f i 3), .int .i16 (f i 4), .int .i8 (f i 5)] : Array Value).toList) n 6 [.i16, .i16, .i16, .i16, .i16, .i8] (updR fs i (f i)) := SlR.put Sm (by omega) (f i)
   refine wpmid (n := 6) (0 + i * 6) #[.int .i16 (f i 0), .int .i16 (f i 1), .int .i16 (f i 2), .int .i16 (f i 3), .int .i16 (f i 4), .int .i8 (f i 5)] row_impl_Flock B1 rfl (SlR.lt Sm (by omega)) (by kernel_rfl) rfl ?_
   intro w3 B1_ X1
   clear B1; have B1 := B1_; clear B1_
   refine wpList_nil (block_normal (then_normal ?_))
   refine wp_region_lit ?_
   refine wv (.int .i64 (i : Int)) ?_
   refine wi64 ((i : Int) + 1) ?_
   refine wv (.int .i64 ((i : Int) + 1)) ?_
   refine wpList_nil (then_normal ?_)
   have H2 := X1.ext w lo_g1 (HL1.trans E2)
   refine ⟨_, ?_, i + 1, (updR fs i (f i)), (spliceAt cs_ (0 + i * 6) (#[.int .i16 (f i 0), .int .i16 (f i 1), .int .i16 (f i 2), .int .i16 (f i 3), .int .i16 (f i 4), .int .i8 (f i 5)] : Array Value).toList), rfl, ?_, ?_, ?_, H2, B1, exJ (by kernel_rfl)⟩
   · omega
   · omega
   · exact S2
   · intro j hj
     by_cases hji : j = i
     · rw [hji]; exact updR_self
     · rw [updR_ne hji]; exact hys j (by omega)
 · skip
   have h1d := dF h1
   refine wp_exit ?_
   refine then_exit ?_
   refine then_exit ?_
   refine block_exit ?_
   refine then_normal ?_
   refine wsr ?_
   refine wv (.slice (some ⟨g1, 0, none⟩) n n) ?_
   refine wv (.slice (some ⟨g1, 0, none⟩) n n) ?_
   refine wpList_nil (then_normal ?_)
   refine wp_ret ?_
   refine ret1 (.slice (some ⟨g1, 0, none⟩) n n) rfl ?_ rfl ?_
   · exact resT (by kernel_rfl)
   exact ⟨g1, cs_, rfl, B1, Sm.of (fun j hj => hys j (by omega)), HL1, lo_g1⟩


--# toFlockS_nil
theorem toFlockS_nil (f : Nat → Nat → Int) (w : World) :
 Calls Try.prog 54 #[.slice none 0 0] w fun e w' => RetR w 117 0 6 [.i16, .i16, .i16, .i16, .i16, .i8] f e w' := by
 refine calls_of_wp Try.func54 rfl ?_
 refine wp_frame (a' := ⟨#[.slice none 0 0, undef, undef, undef, undef, undef, undef, undef, undef, undef, undef, undef, undef, undef, undef, undef, undef, undef, undef, undef, undef, undef, undef], []⟩) (by kernel_rfl) ?_
 refine wsr ?_
 refine wv (.slice none 0 0) ?_
 refine wpList_nil (then_normal ?_)
 refine wsr ?_
 refine wv (.slice none 0 0) ?_
 refine wv (.int .i64 0) ?_
 refine wmsl (k1 := .i64) (k2 := .i64) 0 slt__impl_Flock ?_
 intro g1 w1 B1 E1 hg_
 have lo_g1 := Nat.le_trans ((Ext.refl w)).size hg_
 have S1 : SlR (madeCells (Value.agg #[.int .i16 0, .int .i16 0, .int .i16 0, .int .i16 0, .int .i16 0, .int .i8 0]).cells (0 * 6)) 0 6 [.i16, .i16, .i16, .i16, .i16, .i8] (fun _ _ => (0 : Int)) := madeR 0 rfl (by kernel_rfl) (by simp only [maxLen]; omega)
 refine wv (.slice (some ⟨g1, 0, none⟩) 0 0) ?_
 refine wpList_nil (then_normal ?_)
 refine wp_seq ?_
 refine wsr ?_
 refine wv (.int .i64 0) ?_
 refine wpList_nil (then_normal ?_)
 refine wp_block ?_
 refine wp_loop_rounds 1 ?_
 refine rounds_s ?_
 refine wp_seq ?_
 refine wsr ?_
 refine wv (.int .i64 0) ?_
 refine wv (.slice none 0 0) ?_
 refine wv (.int .i64 0) ?_
 refine wv (.bool false) ?_
 refine wpList_nil (then_normal ?_)
 refine wcf ?_
 refine wp_exit ?_
 refine then_exit ?_
 refine then_exit ?_
 refine block_exit ?_
 refine then_normal ?_
 refine wsr ?_
 refine wv (.slice (some ⟨g1, 0, none⟩) 0 0) ?_
 refine wv (.slice (some ⟨g1, 0, none⟩) 0 0) ?_
 refine wpList_nil (then_normal ?_)
 refine wp_ret ?_
 refine ret1 (.slice (some ⟨g1, 0, none⟩) 0 0) rfl ?_ rfl ?_
 · exact resT (by kernel_rfl)
 have H1 := (Ext.refl w).trans E1
 exact ⟨g1, (madeCells (Value.agg #[.int .i16 0, .int .i16 0, .int .i16 0, .int .i16 0, .int .i16 0, .int .i8 0]).cells (0 * 6)), rfl, B1, S1.of (fun j hj => absurd hj (by omega)), H1, lo_g1⟩


--# toFlockS_any
-- 54
theorem toFlockS_any (v : Value) (n : Nat) (f : Nat → Nat → Int) (hx : n ≤ 1048576) (w : World) (h : SlRIn w v n 6 [.i16, .i16, .i16, .i16, .i16, .i8] f) : Calls Try.prog 54 #[v] w (RetR w 117 n 6 [.i16, .i16, .i16, .i16, .i16, .i8] f) := by
  rcases h with ⟨rfl, rfl⟩ | ⟨ad, cap, rfl, h⟩
  · exact toFlockS_nil f w
  · exact toFlockS_some n f ad cap hx w h

--# szFlockS_any
theorem szFlockS_any (v : Value) (n : Nat) (f : Nat → Nat → Int) (l : Int) (hl : 0 ≤ l ∧ l ≤ 1048576) (hn : n ≤ 9223372036854775807) (w : World) (hin : SlRIn w v n 6 [.i16, .i16, .i16, .i16, .i16, .i8] f) :
 Calls Try.prog 52 #[v, .int .i64 l] w fun e w' => e = .returned (.int .i64 (szL l n)) ∧ Ext w w' := by
 have sz_ := szL_b l n
 refine calls_of_wp Try.func52 rfl ?_
 refine wp_frame (a' := ⟨#[v, .int .i64 l, undef, undef, undef, undef, undef, undef, undef, undef, undef, undef], []⟩) (by kernel_rfl) ?_
 refine wsr ?_
 refine wv (.int .i64 0) ?_
 refine wpList_nil (then_normal ?_)
 refine wsr ?_
 refine wv (.int .i64 l) ?_
 refine wv v ?_
 refine wlenR (SlRIn.ext hin (Ext.refl w)) ⟨_, Try.underlying74⟩ ?_
 refine wi64 (l - (n : Int)) ?_
 refine wv (.int .i64 (l - (n : Int))) ?_
 refine wpList_nil (then_normal ?_)
 refine wp_seq ?_
 refine wsr ?_
 refine wv (.int .i64 (l - (n : Int))) ?_
 refine wv (.bool (decide ((l - (n : Int)) < 0))) ?_
 refine wpList_nil (then_normal ?_)
 refine wsplit (decide ((l - (n : Int)) < 0)) (fun h1 => ?_) (fun h1 => ?_)
 · skip
   have h1d := dT h1
   refine wsr ?_
   refine wv (.int .i64 (-1)) ?_
   refine wpList_nil (then_normal ?_)
   refine wp_ret ?_
   refine then_ret ?_
   refine ret1 (.int .i64 (szL l n)) rfl ?_ rfl ?_
   · refine (resT (v := .int .i64 (-1)) (by kernel_rfl)).trans ?_
     refine congrArg (Value.int _) ?_
     omega
   exact ⟨rfl, (Ext.refl w)⟩
 · skip
   have h1d := dF h1
   refine wp_skip ?_
   refine then_normal ?_
   refine wsr ?_
   refine wv (.int .i64 (l - (n : Int))) ?_
   refine wv (.int .i64 (l - (n : Int))) ?_
   refine wpList_nil (then_normal ?_)
   refine wp_ret ?_
   refine ret1 (.int .i64 (szL l n)) rfl ?_ rfl ?_
   · refine (resT (v := .int .i64 (l - (n : Int))) (by kernel_rfl)).trans ?_
     refine congrArg (Value.int _) ?_
     omega
   exact ⟨rfl, (Ext.refl w)⟩


--# equalSameFlock_any
theorem equalSameFlock_any (n : Nat) (f : Nat → Nat → Int) (b : Nat) (cs : Array Value) (hS : SlR cs n 6 [.i16, .i16, .i16, .i16, .i16, .i8] f) (n2 : Nat) (f2 : Nat → Nat → Int) (b2 : Nat) (cs2 : Array Value) (hS2 : SlR cs2 n2 6 [.i16, .i16, .i16, .i16, .i16, .i8] f2) (hx : n ≤ 1048576) (hx2 : n2 ≤ 1048576) (w : World) (hb : Blk w b 117 cs) (hb2 : Blk w b2 117 cs2) :
 Calls Try.prog 101 #[.slice (some ⟨b, 0, none⟩) n n, .slice (some ⟨b2, 0, none⟩) n2 n2] w fun e w' => e = .returned (.bool (eqS n n2 6 f f2)) ∧ Ext w w' := by
 refine calls_of_wp Try.func101 rfl ?_
 refine wp_frame (a' := ⟨#[.slice (some ⟨b, 0, none⟩) n n, .slice (some ⟨b2, 0, none⟩) n2 n2, undef, undef, undef, undef, undef, undef, undef, undef, undef, undef, undef, undef, undef, undef, undef, undef, undef, undef, undef, undef, undef, undef, undef, undef], []⟩) (by kernel_rfl) ?_
 refine wsr ?_
 refine wv (.bool false) ?_
 refine wpList_nil (then_normal ?_)
 refine wp_seq ?_
 refine wsr ?_
 refine wv (.slice (some ⟨b, 0, none⟩) n n) ?_
 refine wv (.int .i64 (n : Int)) ?_
 refine wv (.slice (some ⟨b2, 0, none⟩) n2 n2) ?_
 refine wv (.int .i64 (n2 : Int)) ?_
 refine wv (.bool ((n : Int) != (n2 : Int))) ?_
 refine wpList_nil (then_normal ?_)
 refine wsplit ((n : Int) != (n2 : Int)) (fun h1 => ?_) (fun h1 => ?_)
 · skip
   have h1d := nT h1
   refine wsr ?_
   refine wv (.bool false) ?_
   refine wpList_nil (then_normal ?_)
   refine wp_ret ?_
   refine then_ret ?_
   refine ret1 (.bool (eqS n n2 6 f f2)) rfl ?_ rfl ?_
   · refine (resT (v := .bool false) (by kernel_rfl)).trans ?_
     refine congrArg Value.bool ?_
     first | exact (eqS_len (by omega)).symm | exact (eqS_at i (by omega) (by assumption)).symm | exact (eqS_t (by omega) (fun j hj => hys j (by omega))).symm
   exact ⟨rfl, (Ext.refl w)⟩
 · skip
   have h1d := nF h1
   refine wp_skip ?_
   refine then_normal ?_
   refine wp_seq ?_
   refine wsr ?_
   refine wv (.slice (some ⟨b, 0, none⟩) n n) ?_
   refine wv (.int .i64 (n : Int)) ?_
   refine wv (.int .i64 0) ?_
   refine wpList_nil (then_normal ?_)
   refine wp_block ?_
   refine wp_loop_k (fun m1 a wl1 => ∃ (i : Nat), m1 = n - i ∧ i ≤ n ∧ (∀ j, j < i → eqR 6 (f j) (f2 j) = true) ∧ Ext w wl1 ∧ Blk wl1 b 117 cs ∧ Blk wl1 b2 117 cs2 ∧ (∃ J1 : Nat → Value, a = ⟨#[.slice (some ⟨b, 0, none⟩) n n, .slice (some ⟨b2, 0, none⟩) n2 n2, undef, undef, J1 4, J1 5, .slice (some ⟨b, 0, none⟩) n n, .int .i64 (n : Int), .slice (some ⟨b2, 0, none⟩) n2 n2, .int .i64 (n2 : Int), .bool ((n : Int) != (n2 : Int)), .slice (some ⟨b, 0, none⟩) n n, .int .i64 (n : Int), .int .i64 (i : Int), J1 14, J1 15, J1 16, J1 17, J1 18, J1 19, J1 20, J1 21, J1 22, J1 23, J1 24, J1 25], []⟩)) (n) ?_ ?_
   · refine ⟨0, rfl, ?_, ?_, (Ext.refl w), hb, hb2, exJ (by kernel_rfl)⟩
     · omega
     · intro j hj; omega
   intro m1 a wl1 hI
   obtain ⟨i, rfl, hi_, hys, HL1, hb, hb2, J1, rfl⟩ := hI
   refine wsr ?_
   refine wv (.bool (decide ((i : Int) < (n : Int)))) ?_
   refine wpList_nil (then_normal ?_)
   refine wp_seq ?_
   refine wsplit (decide ((i : Int) < (n : Int))) (fun h2 => ?_) (fun h2 => ?_)
   · skip
     have h2d := dT h2
     refine wp_skip ?_
     refine then_normal ?_
     refine wp_seq ?_
     refine wp_block ?_
     refine wsr ?_
     refine wv (.int .i64 (i : Int)) ?_
     refine wv (.int .i64 (i : Int)) ?_
     refine wpList_nil (then_normal ?_)
     refine wp_seq ?_
     refine wp_frame (a' := ⟨#[.slice (some ⟨b, 0, none⟩) n n, .slice (some ⟨b2, 0, none⟩) n2 n2, undef, undef, J1 4, .int .i64 (i : Int), .slice (some ⟨b, 0, none⟩) n n, .int .i64 (n : Int), .slice (some ⟨b2, 0, none⟩) n2 n2, .int .i64 (n2 : Int), .bool ((n : Int) != (n2 : Int)), .slice (some ⟨b, 0, none⟩) n n, .int .i64 (n : Int), .int .i64 (i : Int), .bool (decide ((i : Int) < (n : Int))), .int .i64 (i : Int), J1 16, J1 17, J1 18, J1 19, J1 20, J1 21, J1 22, J1 23, J1 24, J1 25], []⟩) (by kernel_rfl) ?_
     refine region_go 9 [16, 17, 18, 19, 20, 21, 22, 23, 24] [[], [], [0, 1], [2], [], [], [4, 5], [6], [3, 7]]
      (fun i_ => ([.val (.slice (some ⟨b, 0, none⟩) n n), .val (.int .i64 (i : Int)), .val (.pointer (some ⟨b, 0 + i * 6, none⟩)), .val (.agg #[.int .i16 (f i 0), .int .i16 (f i 1), .int .i16 (f i 2), .int .i16 (f i 3), .int .i16 (f i 4), .int .i8 (f i 5)]), .val (.slice (some ⟨b2, 0, none⟩) n2 n2), .val (.int .i64 (i : Int)), .val (.pointer (some ⟨b2, 0 + i * 6, none⟩)), .val (.agg #[.int .i16 (f2 i 0), .int .i16 (f2 i 1), .int .i16 (f2 i 2), .int .i16 (f2 i 3), .int .i16 (f2 i 4), .int .i8 (f2 i 5)]), .val (.bool (!(eqR 6 (f i) (f2 i))))] : List Fct).getD i_ .any)
      (by kernel_rfl) (by kernel_rfl) (by decide) (by simp) rfl (all_succ (all_succ (all_succ (all_succ (all_succ (all_succ (all_succ (all_succ (all_succ all_zero ?_) ?_) ?_) ?_) ?_) ?_) ?_) ?_) ?_) ?_
     · refine step0 rfl rfl rfl (fun wr hw => ?_)
       exact OpRun.val (.slice (some ⟨b, 0, none⟩) n n) (.slice (some ⟨b, 0, none⟩) n n) (by kernel_rfl) rfl ⟨Ext.refl _, rfl⟩
     · refine step0 rfl rfl rfl (fun wr hw => ?_)
       exact OpRun.val (.int .i64 (i : Int)) (.int .i64 (i : Int)) (by kernel_rfl) rfl ⟨Ext.refl _, rfl⟩
     · refine step2 rfl rfl rfl rfl rfl (fun u0 u1 wr hw h0 h1 => ?_)
       cases h0
       cases h1
       exact OpRun.six (i := i) (k := .i64) (g := b) (off := 0) (n := n) (cap := n) slit__impl_Flock rfl (by kernel_rfl) (by kernel_rfl) (by omega) ⟨Ext.refl _, rfl⟩
     · refine step1 rfl rfl rfl rfl (fun u0 wr hw h0 => ?_)
       cases h0
       exact OpRun.mid (cs := [.int .i16 (f i 0), .int .i16 (f i 1), .int .i16 (f i 2), .int .i16 (f i 3), .int .i16 (f i 4), .int .i8 (f i 5)]) row_impl_Flock rfl (SlR.range (i := i) hS (hb.ext hw) (by omega)) rfl (by kernel_rfl) ⟨Ext.refl _, rfl⟩
     · refine step0 rfl rfl rfl (fun wr hw => ?_)
       exact OpRun.val (.slice (some ⟨b2, 0, none⟩) n2 n2) (.slice (some ⟨b2, 0, none⟩) n2 n2) (by kernel_rfl) rfl ⟨Ext.refl _, rfl⟩
     · refine step0 rfl rfl rfl (fun wr hw => ?_)
       exact OpRun.val (.int .i64 (i : Int)) (.int .i64 (i : Int)) (by kernel_rfl) rfl ⟨Ext.refl _, rfl⟩
     · refine step2 rfl rfl rfl rfl rfl (fun u0 u1 wr hw h0 h1 => ?_)
       cases h0
       cases h1
       exact OpRun.six (i := i) (k := .i64) (g := b2) (off := 0) (n := n2) (cap := n2) slit__impl_Flock rfl (by kernel_rfl) (by kernel_rfl) (by omega) ⟨Ext.refl _, rfl⟩
     · refine step1 rfl rfl rfl rfl (fun u0 wr hw h0 => ?_)
       cases h0
       exact OpRun.mid (cs := [.int .i16 (f2 i 0), .int .i16 (f2 i 1), .int .i16 (f2 i 2), .int .i16 (f2 i 3), .int .i16 (f2 i 4), .int .i8 (f2 i 5)]) row_impl_Flock rfl (SlR.range (i := i) hS2 (hb2.ext hw) (by omega)) rfl (by kernel_rfl) ⟨Ext.refl _, rfl⟩
     · refine step2 rfl rfl rfl rfl rfl (fun u0 u1 wr hw h0 h1 => ?_)
       cases h0
       cases h1
       exact OpRun.neqA rfl (by kernel_rfl) (by kernel_rfl) rowe_impl_Flock.eg (equalIn_row rowe_impl_Flock 9998 (f i) (f2 i)) ⟨Ext.refl _, rfl⟩
     refine end9 (fun u0 u1 u2 u3 u4 u5 u6 u7 u8 w1 E1 f0 f1 f2 f3 f4 f5 f6 f7 f8 => ?_)
     cases f0
     cases f1
     cases f2
     cases f3
     cases f4
     cases f5
     cases f6
     cases f7
     cases f8
     refine wpList_nil (then_normal ?_)
     refine wsplit (!(eqR 6 (f i) (f2 i))) (fun h3 => ?_) (fun h3 => ?_)
     · skip
       replace h3 := nbT h3
       refine wsr ?_
       refine wv (.bool false) ?_
       refine wpList_nil (then_normal ?_)
       refine wp_ret ?_
       refine block_ret (then_ret (then_ret (block_ret (then_ret ?_))))
       have H1 := HL1.trans E1
       refine ret1 (.bool (eqS n n2 6 f f2)) rfl ?_ rfl ?_
       · refine (resT (v := .bool false) (by kernel_rfl)).trans ?_
         refine congrArg Value.bool ?_
         first | exact (eqS_len (by omega)).symm | exact (eqS_at i (by omega) (by assumption)).symm | exact (eqS_t (by omega) (fun j hj => hys j (by omega))).symm
       exact ⟨rfl, H1⟩
     · skip
       replace h3 := nbF h3
       refine wp_skip ?_
       refine block_normal (then_normal ?_)
       refine wp_region_lit ?_
       refine wi64 ((i : Int) + 1) ?_
       refine wv (.int .i64 ((i : Int) + 1)) ?_
       refine wpList_nil (then_normal ?_)
       replace hb := hb.ext E1
       replace hb2 := hb2.ext E1
       have H2 := HL1.trans E1
       refine ⟨_, ?_, i + 1, rfl, ?_, ?_, H2, hb, hb2, exJ (by kernel_rfl)⟩
       · omega
       · omega
       · intro j hj
         rcases (by omega : j < i ∨ j = i) with h_ | h_
         · exact hys j h_
         · rw [h_]; assumption
   · skip
     have h2d := dF h2
     refine wp_exit ?_
     refine then_exit ?_
     refine then_exit ?_
     refine block_exit ?_
     refine then_normal ?_
     refine wsr ?_
     refine wv (.bool true) ?_
     refine wpList_nil (then_normal ?_)
     refine wp_ret ?_
     refine ret1 (.bool (eqS n n2 6 f f2)) rfl ?_ rfl ?_
     · refine (resT (v := .bool true) (by kernel_rfl)).trans ?_
       refine congrArg Value.bool ?_
       first | exact (eqS_len (by omega)).symm | exact (eqS_at i (by omega) (by assumption)).symm | exact (eqS_t (by omega) (fun j hj => hys j (by omega))).symm
     exact ⟨rfl, HL1⟩


--# iSameFlock_any
theorem iSameFlock_any (n : Nat) (f : Nat → Nat → Int) (b : Nat) (cs : Array Value) (hS : SlR cs n 6 [.i16, .i16, .i16, .i16, .i16, .i8] f) (n2 : Nat) (f2 : Nat → Nat → Int) (b2 : Nat) (cs2 : Array Value) (hS2 : SlR cs2 n2 6 [.i16, .i16, .i16, .i16, .i16, .i8] f2) (hx : n ≤ 1048576) (hx2 : n2 ≤ 1048576) (w : World) (hb : Blk w b 117 cs) (hb2 : Blk w b2 117 cs2) :
 Calls Try.prog 55 #[.slice (some ⟨b, 0, none⟩) n n, .slice (some ⟨b2, 0, none⟩) n2 n2] w fun e w' => e = .returned (.bool (eqS n n2 6 f f2)) ∧ Ext w w' := by
 refine calls_of_wp Try.func55 rfl ?_
 refine wp_frame (a' := ⟨#[.slice (some ⟨b, 0, none⟩) n n, .slice (some ⟨b2, 0, none⟩) n2 n2, undef, undef, undef, undef, undef, undef], []⟩) (by kernel_rfl) ?_
 refine wsr ?_
 refine wv (.bool false) ?_
 refine wpList_nil (then_normal ?_)
 refine wsr ?_
 refine wv (.slice (some ⟨b, 0, none⟩) n n) ?_
 refine wv (.slice (some ⟨b2, 0, none⟩) n2 n2) ?_
 refine wcl (equalSameFlock_any n f b cs hS n2 f2 b2 cs2 hS2 (by omega) (by omega) _ hb hb2) ?_
 intro w1 E1
 refine wv (.bool (eqS n n2 6 f f2)) ?_
 refine wpList_nil (then_normal ?_)
 refine wp_ret ?_
 have H1 := (Ext.refl w).trans E1
 refine ret1 (.bool (eqS n n2 6 f f2)) rfl ?_ rfl ?_
 · exact resT (by kernel_rfl)
 exact ⟨rfl, H1⟩


--# sSameFlock_any
theorem sSameFlock_any (n : Nat) (f : Nat → Nat → Int) (b : Nat) (cs : Array Value) (hS : SlR cs n 6 [.i16, .i16, .i16, .i16, .i16, .i8] f) (n2 : Nat) (f2 : Nat → Nat → Int) (b2 : Nat) (cs2 : Array Value) (hS2 : SlR cs2 n2 6 [.i16, .i16, .i16, .i16, .i16, .i8] f2) (hx : n ≤ 1048576) (hx2 : n2 ≤ 1048576) (w : World) (hb : Blk w b 117 cs) (hb2 : Blk w b2 117 cs2) :
 Calls Try.prog 53 #[.slice (some ⟨b, 0, none⟩) n n, .slice (some ⟨b2, 0, none⟩) n2 n2] w fun e w' => e = .returned (.bool (eqS n n2 6 f f2)) ∧ Ext w w' := by
 refine calls_of_wp Try.func53 rfl ?_
 refine wp_frame (a' := ⟨#[.slice (some ⟨b, 0, none⟩) n n, .slice (some ⟨b2, 0, none⟩) n2 n2, undef, undef, undef, undef, undef, undef, undef, undef, undef, undef, undef, undef, undef, undef, undef, undef, undef, undef, undef, undef, undef, undef, undef, undef], []⟩) (by kernel_rfl) ?_
 refine wsr ?_
 refine wv (.bool false) ?_
 refine wpList_nil (then_normal ?_)
 refine wp_seq ?_
 refine wsr ?_
 refine wv (.slice (some ⟨b, 0, none⟩) n n) ?_
 refine wv (.int .i64 (n : Int)) ?_
 refine wv (.slice (some ⟨b2, 0, none⟩) n2 n2) ?_
 refine wv (.int .i64 (n2 : Int)) ?_
 refine wv (.bool ((n : Int) != (n2 : Int))) ?_
 refine wpList_nil (then_normal ?_)
 refine wsplit ((n : Int) != (n2 : Int)) (fun h1 => ?_) (fun h1 => ?_)
 · skip
   have h1d := nT h1
   refine wsr ?_
   refine wv (.bool false) ?_
   refine wpList_nil (then_normal ?_)
   refine wp_ret ?_
   refine then_ret ?_
   refine ret1 (.bool (eqS n n2 6 f f2)) rfl ?_ rfl ?_
   · refine (resT (v := .bool false) (by kernel_rfl)).trans ?_
     refine congrArg Value.bool ?_
     first | exact (eqS_len (by omega)).symm | exact (eqS_at i (by omega) (by assumption)).symm | exact (eqS_t (by omega) (fun j hj => hys j (by omega))).symm
   exact ⟨rfl, (Ext.refl w)⟩
 · skip
   have h1d := nF h1
   refine wp_skip ?_
   refine then_normal ?_
   refine wp_seq ?_
   refine wsr ?_
   refine wv (.int .i64 0) ?_
   refine wpList_nil (then_normal ?_)
   refine wp_block ?_
   refine wp_loop_k (fun m1 a wl1 => ∃ (i : Nat), m1 = n - i ∧ i ≤ n ∧ (∀ j, j < i → eqR 6 (f j) (f2 j) = true) ∧ Ext w wl1 ∧ Blk wl1 b 117 cs ∧ Blk wl1 b2 117 cs2 ∧ (∃ J1 : Nat → Value, a = ⟨#[.slice (some ⟨b, 0, none⟩) n n, .slice (some ⟨b2, 0, none⟩) n2 n2, undef, undef, J1 4, .int .i64 (i : Int), .slice (some ⟨b, 0, none⟩) n n, .int .i64 (n : Int), .slice (some ⟨b2, 0, none⟩) n2 n2, .int .i64 (n2 : Int), .bool ((n : Int) != (n2 : Int)), J1 11, J1 12, J1 13, J1 14, J1 15, J1 16, J1 17, J1 18, J1 19, J1 20, J1 21, J1 22, J1 23, J1 24, J1 25], []⟩)) (n) ?_ ?_
   · refine ⟨0, rfl, ?_, ?_, (Ext.refl w), hb, hb2, exJ (by kernel_rfl)⟩
     · omega
     · intro j hj; omega
   intro m1 a wl1 hI
   obtain ⟨i, rfl, hi_, hys, HL1, hb, hb2, J1, rfl⟩ := hI
   refine wp_seq ?_
   refine wsr ?_
   refine wv (.int .i64 (i : Int)) ?_
   refine wv (.slice (some ⟨b, 0, none⟩) n n) ?_
   refine wv (.int .i64 (n : Int)) ?_
   refine wv (.bool (decide ((i : Int) < (n : Int)))) ?_
   refine wpList_nil (then_normal ?_)
   refine wsplit (decide ((i : Int) < (n : Int))) (fun h2 => ?_) (fun h2 => ?_)
   · skip
     have h2d := dT h2
     refine wp_skip ?_
     refine then_normal ?_
     refine wp_seq ?_
     refine wp_block ?_
     refine wp_seq ?_
     refine wp_frame (a' := ⟨#[.slice (some ⟨b, 0, none⟩) n n, .slice (some ⟨b2, 0, none⟩) n2 n2, undef, undef, J1 4, .int .i64 (i : Int), .slice (some ⟨b, 0, none⟩) n n, .int .i64 (n : Int), .slice (some ⟨b2, 0, none⟩) n2 n2, .int .i64 (n2 : Int), .bool ((n : Int) != (n2 : Int)), .int .i64 (i : Int), .slice (some ⟨b, 0, none⟩) n n, .int .i64 (n : Int), .bool (decide ((i : Int) < (n : Int))), J1 15, J1 16, J1 17, J1 18, J1 19, J1 20, J1 21, J1 22, J1 23, J1 24, J1 25], []⟩) (by kernel_rfl) ?_
     refine region_go 9 [17, 18, 19, 20, 21, 22, 23, 24, 25] [[], [], [0, 1], [2], [], [], [4, 5], [6], [3, 7]]
      (fun i_ => ([.val (.slice (some ⟨b, 0, none⟩) n n), .val (.int .i64 (i : Int)), .val (.pointer (some ⟨b, 0 + i * 6, none⟩)), .val (.agg #[.int .i16 (f i 0), .int .i16 (f i 1), .int .i16 (f i 2), .int .i16 (f i 3), .int .i16 (f i 4), .int .i8 (f i 5)]), .val (.slice (some ⟨b2, 0, none⟩) n2 n2), .val (.int .i64 (i : Int)), .val (.pointer (some ⟨b2, 0 + i * 6, none⟩)), .val (.agg #[.int .i16 (f2 i 0), .int .i16 (f2 i 1), .int .i16 (f2 i 2), .int .i16 (f2 i 3), .int .i16 (f2 i 4), .int .i8 (f2 i 5)]), .val (.bool (!(eqR 6 (f i) (f2 i))))] : List Fct).getD i_ .any)
      (by kernel_rfl) (by kernel_rfl) (by decide) (by simp) rfl (all_succ (all_succ (all_succ (all_succ (all_succ (all_succ (all_succ (all_succ (all_succ all_zero ?_) ?_) ?_) ?_) ?_) ?_) ?_) ?_) ?_) ?_
     · refine step0 rfl rfl rfl (fun wr hw => ?_)
       exact OpRun.val (.slice (some ⟨b, 0, none⟩) n n) (.slice (some ⟨b, 0, none⟩) n n) (by kernel_rfl) rfl ⟨Ext.refl _, rfl⟩
     · refine step0 rfl rfl rfl (fun wr hw => ?_)
       exact OpRun.val (.int .i64 (i : Int)) (.int .i64 (i : Int)) (by kernel_rfl) rfl ⟨Ext.refl _, rfl⟩
     · refine step2 rfl rfl rfl rfl rfl (fun u0 u1 wr hw h0 h1 => ?_)
       cases h0
       cases h1
       exact OpRun.six (i := i) (k := .i64) (g := b) (off := 0) (n := n) (cap := n) slit__impl_Flock rfl (by kernel_rfl) (by kernel_rfl) (by omega) ⟨Ext.refl _, rfl⟩
     · refine step1 rfl rfl rfl rfl (fun u0 wr hw h0 => ?_)
       cases h0
       exact OpRun.mid (cs := [.int .i16 (f i 0), .int .i16 (f i 1), .int .i16 (f i 2), .int .i16 (f i 3), .int .i16 (f i 4), .int .i8 (f i 5)]) row_impl_Flock rfl (SlR.range (i := i) hS (hb.ext hw) (by omega)) rfl (by kernel_rfl) ⟨Ext.refl _, rfl⟩
     · refine step0 rfl rfl rfl (fun wr hw => ?_)
       exact OpRun.val (.slice (some ⟨b2, 0, none⟩) n2 n2) (.slice (some ⟨b2, 0, none⟩) n2 n2) (by kernel_rfl) rfl ⟨Ext.refl _, rfl⟩
     · refine step0 rfl rfl rfl (fun wr hw => ?_)
       exact OpRun.val (.int .i64 (i : Int)) (.int .i64 (i : Int)) (by kernel_rfl) rfl ⟨Ext.refl _, rfl⟩
     · refine step2 rfl rfl rfl rfl rfl (fun u0 u1 wr hw h0 h1 => ?_)
       cases h0
       cases h1
       exact OpRun.six (i := i) (k := .i64) (g := b2) (off := 0) (n := n2) (cap := n2) slit__impl_Flock rfl (by kernel_rfl) (by kernel_rfl) (by omega) ⟨Ext.refl _, rfl⟩
     · refine step1 rfl rfl rfl rfl (fun u0 wr hw h0 => ?_)
       cases h0
       exact OpRun.mid (cs := [.int .i16 (f2 i 0), .int .i16 (f2 i 1), .int .i16 (f2 i 2), .int .i16 (f2 i 3), .int .i16 (f2 i 4), .int .i8 (f2 i 5)]) row_impl_Flock rfl (SlR.range (i := i) hS2 (hb2.ext hw) (by omega)) rfl (by kernel_rfl) ⟨Ext.refl _, rfl⟩
     · refine step2 rfl rfl rfl rfl rfl (fun u0 u1 wr hw h0 h1 => ?_)
       cases h0
       cases h1
       exact OpRun.neqA rfl (by kernel_rfl) (by kernel_rfl) rowe_impl_Flock.eg (equalIn_row rowe_impl_Flock 9998 (f i) (f2 i)) ⟨Ext.refl _, rfl⟩
     refine end9 (fun u0 u1 u2 u3 u4 u5 u6 u7 u8 w1 E1 f0 f1 f2 f3 f4 f5 f6 f7 f8 => ?_)
     cases f0
     cases f1
     cases f2
     cases f3
     cases f4
     cases f5
     cases f6
     cases f7
     cases f8
     refine wpList_nil (then_normal ?_)
     refine wsplit (!(eqR 6 (f i) (f2 i))) (fun h3 => ?_) (fun h3 => ?_)
     · skip
       replace h3 := nbT h3
       refine wsr ?_
       refine wv (.bool false) ?_
       refine wpList_nil (then_normal ?_)
       refine wp_ret ?_
       refine block_ret (then_ret (then_ret (block_ret (then_ret ?_))))
       have H1 := HL1.trans E1
       refine ret1 (.bool (eqS n n2 6 f f2)) rfl ?_ rfl ?_
       · refine (resT (v := .bool false) (by kernel_rfl)).trans ?_
         refine congrArg Value.bool ?_
         first | exact (eqS_len (by omega)).symm | exact (eqS_at i (by omega) (by assumption)).symm | exact (eqS_t (by omega) (fun j hj => hys j (by omega))).symm
       exact ⟨rfl, H1⟩
     · skip
       replace h3 := nbF h3
       refine wp_skip ?_
       refine block_normal (then_normal ?_)
       refine wp_region_lit ?_
       refine wv (.int .i64 (i : Int)) ?_
       refine wi64 ((i : Int) + 1) ?_
       refine wv (.int .i64 ((i : Int) + 1)) ?_
       refine wpList_nil (then_normal ?_)
       replace hb := hb.ext E1
       replace hb2 := hb2.ext E1
       have H2 := HL1.trans E1
       refine ⟨_, ?_, i + 1, rfl, ?_, ?_, H2, hb, hb2, exJ (by kernel_rfl)⟩
       · omega
       · omega
       · intro j hj
         rcases (by omega : j < i ∨ j = i) with h_ | h_
         · exact hys j h_
         · rw [h_]; assumption
   · skip
     have h2d := dF h2
     refine wp_exit ?_
     refine then_exit ?_
     refine then_exit ?_
     refine block_exit ?_
     refine then_normal ?_
     refine wsr ?_
     refine wv (.bool true) ?_
     refine wpList_nil (then_normal ?_)
     refine wp_ret ?_
     refine ret1 (.bool (eqS n n2 6 f f2)) rfl ?_ rfl ?_
     · refine (resT (v := .bool true) (by kernel_rfl)).trans ?_
       refine congrArg Value.bool ?_
       first | exact (eqS_len (by omega)).symm | exact (eqS_at i (by omega) (by assumption)).symm | exact (eqS_t (by omega) (fun j hj => hys j (by omega))).symm
     exact ⟨rfl, HL1⟩


--# eqFlockS_same
theorem eqFlockS_same (n : Nat) (f : Nat → Nat → Int) (b : Nat) (cs : Array Value) (hS : SlR cs n 6 [.i16, .i16, .i16, .i16, .i16, .i8] f) (b2 : Nat) (cs2 : Array Value) (hS2 : SlR cs2 n 6 [.i16, .i16, .i16, .i16, .i16, .i8] f) (hx : n ≤ 1048576) (w : World) (hb : Blk w b 117 cs) (hb2 : Blk w b2 117 cs2) :
 Calls Try.prog 56 #[.slice (some ⟨b, 0, none⟩) n n, .slice (some ⟨b2, 0, none⟩) n n] w fun e w' => e = .returned (.bool true) ∧ Ext w w' := by
 refine calls_of_wp Try.func56 rfl ?_
 refine wp_frame (a' := ⟨#[.slice (some ⟨b, 0, none⟩) n n, .slice (some ⟨b2, 0, none⟩) n n, undef, undef, undef, undef, undef, undef, undef, undef, undef, undef, undef, undef, undef, undef, undef, undef, undef, undef, undef, undef, undef, undef, undef, undef, undef], []⟩) (by kernel_rfl) ?_
 refine wsr ?_
 refine wv (.bool false) ?_
 refine wpList_nil (then_normal ?_)
 refine wp_seq ?_
 refine wsr ?_
 refine wv (.slice (some ⟨b, 0, none⟩) n n) ?_
 refine wv (.int .i64 (n : Int)) ?_
 refine wv (.slice (some ⟨b2, 0, none⟩) n n) ?_
 refine wv (.int .i64 (n : Int)) ?_
 refine wvv (.bool ((n : Int) != (n : Int))) (.bool false) (by simp) ?_
 refine wpList_nil (then_normal ?_)
 refine wcf ?_
 refine wp_skip ?_
 refine then_normal ?_
 refine wp_seq ?_
 refine wsr ?_
 refine wv (.int .i64 0) ?_
 refine wpList_nil (then_normal ?_)
 refine wp_block ?_
 refine wp_loop_k (fun m1 a wl1 => ∃ (i : Nat), m1 = n - i ∧ i ≤ n ∧ Ext w wl1 ∧ Blk wl1 b 117 cs ∧ Blk wl1 b2 117 cs2 ∧ (∃ J1 : Nat → Value, a = ⟨#[.slice (some ⟨b, 0, none⟩) n n, .slice (some ⟨b2, 0, none⟩) n n, undef, undef, J1 4, .int .i64 (i : Int), .slice (some ⟨b, 0, none⟩) n n, .int .i64 (n : Int), .slice (some ⟨b2, 0, none⟩) n n, .int .i64 (n : Int), .bool false, J1 11, J1 12, J1 13, J1 14, J1 15, J1 16, J1 17, J1 18, J1 19, J1 20, J1 21, J1 22, J1 23, J1 24, J1 25, J1 26], []⟩)) (n) ?_ ?_
 · refine ⟨0, rfl, ?_, (Ext.refl w), hb, hb2, exJ (by kernel_rfl)⟩
   · omega
 intro m1 a wl1 hI
 obtain ⟨i, rfl, hi_, HL1, hb, hb2, J1, rfl⟩ := hI
 refine wp_seq ?_
 refine wsr ?_
 refine wv (.int .i64 (i : Int)) ?_
 refine wv (.slice (some ⟨b, 0, none⟩) n n) ?_
 refine wv (.int .i64 (n : Int)) ?_
 refine wv (.bool (decide ((i : Int) < (n : Int)))) ?_
 refine wpList_nil (then_normal ?_)
 refine wsplit (decide ((i : Int) < (n : Int))) (fun h1 => ?_) (fun h1 => ?_)
 · skip
   have h1d := dT h1
   refine wp_skip ?_
   refine then_normal ?_
   refine wp_seq ?_
   refine wp_block ?_
   refine wp_seq ?_
   refine wp_frame (a' := ⟨#[.slice (some ⟨b, 0, none⟩) n n, .slice (some ⟨b2, 0, none⟩) n n, undef, undef, J1 4, .int .i64 (i : Int), .slice (some ⟨b, 0, none⟩) n n, .int .i64 (n : Int), .slice (some ⟨b2, 0, none⟩) n n, .int .i64 (n : Int), .bool false, .int .i64 (i : Int), .slice (some ⟨b, 0, none⟩) n n, .int .i64 (n : Int), .bool (decide ((i : Int) < (n : Int))), J1 15, J1 16, J1 17, J1 18, J1 19, J1 20, J1 21, J1 22, J1 23, J1 24, J1 25, J1 26], []⟩) (by kernel_rfl) ?_
   refine region_go 10 [17, 18, 19, 20, 21, 22, 23, 24, 25, 26] [[], [], [0, 1], [2], [], [], [4, 5], [6], [3, 7], [8]]
    (fun i_ => ([.val (.slice (some ⟨b, 0, none⟩) n n), .val (.int .i64 (i : Int)), .val (.pointer (some ⟨b, 0 + i * 6, none⟩)), .val (.agg #[.int .i16 (f i 0), .int .i16 (f i 1), .int .i16 (f i 2), .int .i16 (f i 3), .int .i16 (f i 4), .int .i8 (f i 5)]), .val (.slice (some ⟨b2, 0, none⟩) n n), .val (.int .i64 (i : Int)), .val (.pointer (some ⟨b2, 0 + i * 6, none⟩)), .val (.agg #[.int .i16 (f i 0), .int .i16 (f i 1), .int .i16 (f i 2), .int .i16 (f i 3), .int .i16 (f i 4), .int .i8 (f i 5)]), .val (.bool true), .val (.bool false)] : List Fct).getD i_ .any)
    (by kernel_rfl) (by kernel_rfl) (by decide) (by simp) rfl (all_succ (all_succ (all_succ (all_succ (all_succ (all_succ (all_succ (all_succ (all_succ (all_succ all_zero ?_) ?_) ?_) ?_) ?_) ?_) ?_) ?_) ?_) ?_) ?_
   · refine step0 rfl rfl rfl (fun wr hw => ?_)
     exact OpRun.val (.slice (some ⟨b, 0, none⟩) n n) (.slice (some ⟨b, 0, none⟩) n n) (by kernel_rfl) rfl ⟨Ext.refl _, rfl⟩
   · refine step0 rfl rfl rfl (fun wr hw => ?_)
     exact OpRun.val (.int .i64 (i : Int)) (.int .i64 (i : Int)) (by kernel_rfl) rfl ⟨Ext.refl _, rfl⟩
   · refine step2 rfl rfl rfl rfl rfl (fun u0 u1 wr hw h0 h1 => ?_)
     cases h0
     cases h1
     exact OpRun.six (i := i) (k := .i64) (g := b) (off := 0) (n := n) (cap := n) slit__impl_Flock rfl (by kernel_rfl) (by kernel_rfl) (by omega) ⟨Ext.refl _, rfl⟩
   · refine step1 rfl rfl rfl rfl (fun u0 wr hw h0 => ?_)
     cases h0
     exact OpRun.mid (cs := [.int .i16 (f i 0), .int .i16 (f i 1), .int .i16 (f i 2), .int .i16 (f i 3), .int .i16 (f i 4), .int .i8 (f i 5)]) row_impl_Flock rfl (SlR.range (i := i) hS (hb.ext hw) (by omega)) rfl (by kernel_rfl) ⟨Ext.refl _, rfl⟩
   · refine step0 rfl rfl rfl (fun wr hw => ?_)
     exact OpRun.val (.slice (some ⟨b2, 0, none⟩) n n) (.slice (some ⟨b2, 0, none⟩) n n) (by kernel_rfl) rfl ⟨Ext.refl _, rfl⟩
   · refine step0 rfl rfl rfl (fun wr hw => ?_)
     exact OpRun.val (.int .i64 (i : Int)) (.int .i64 (i : Int)) (by kernel_rfl) rfl ⟨Ext.refl _, rfl⟩
   · refine step2 rfl rfl rfl rfl rfl (fun u0 u1 wr hw h0 h1 => ?_)
     cases h0
     cases h1
     exact OpRun.six (i := i) (k := .i64) (g := b2) (off := 0) (n := n) (cap := n) slit__impl_Flock rfl (by kernel_rfl) (by kernel_rfl) (by omega) ⟨Ext.refl _, rfl⟩
   · refine step1 rfl rfl rfl rfl (fun u0 wr hw h0 => ?_)
     cases h0
     exact OpRun.mid (cs := [.int .i16 (f i 0), .int .i16 (f i 1), .int .i16 (f i 2), .int .i16 (f i 3), .int .i16 (f i 4), .int .i8 (f i 5)]) row_impl_Flock rfl (SlR.range (i := i) hS2 (hb2.ext hw) (by omega)) rfl (by kernel_rfl) ⟨Ext.refl _, rfl⟩
   · refine step2 rfl rfl rfl rfl rfl (fun u0 u1 wr hw h0 h1 => ?_)
     cases h0
     cases h1
     exact OpRun.call 102 #[.agg #[.int .i16 (f i 0), .int .i16 (f i 1), .int .i16 (f i 2), .int .i16 (f i 3), .int .i16 (f i 4), .int .i8 (f i 5)], .agg #[.int .i16 (f i 0), .int .i16 (f i 1), .int .i16 (f i 2), .int .i16 (f i 3), .int .i16 (f i 4), .int .i8 (f i 5)]] (by kernel_rfl) ((eqFlock_same (f i 0) (f i 1) (f i 2) (f i 3) (f i 4) (f i 5) _).mono fun e w1 ⟨he, hb⟩ => ⟨_, he, hb, rfl⟩)
   · refine step1 rfl rfl rfl rfl (fun u0 wr hw h0 => ?_)
     cases h0
     exact OpRun.val (.bool false) (.bool false) (by kernel_rfl) rfl ⟨Ext.refl _, rfl⟩
   refine end10 (fun u0 u1 u2 u3 u4 u5 u6 u7 u8 u9 w1 E1 f0 f1 f2 f3 f4 f5 f6 f7 f8 f9 => ?_)
   cases f0
   cases f1
   cases f2
   cases f3
   cases f4
   cases f5
   cases f6
   cases f7
   cases f8
   cases f9
   refine wpList_nil (then_normal ?_)
   refine wcf ?_
   refine wp_skip ?_
   refine block_normal (then_normal ?_)
   refine wp_region_lit ?_
   refine wv (.int .i64 (i : Int)) ?_
   refine wi64 ((i : Int) + 1) ?_
   refine wv (.int .i64 ((i : Int) + 1)) ?_
   refine wpList_nil (then_normal ?_)
   replace hb := hb.ext E1
   replace hb2 := hb2.ext E1
   have H1 := HL1.trans E1
   refine ⟨_, ?_, i + 1, rfl, ?_, H1, hb, hb2, exJ (by kernel_rfl)⟩
   · omega
   · omega
 · skip
   have h1d := dF h1
   refine wp_exit ?_
   refine then_exit ?_
   refine then_exit ?_
   refine block_exit ?_
   refine then_normal ?_
   refine wsr ?_
   refine wv (.bool true) ?_
   refine wpList_nil (then_normal ?_)
   refine wp_ret ?_
   refine ret1 (.bool true) rfl ?_ rfl ?_
   · exact resT (by kernel_rfl)
   exact ⟨rfl, HL1⟩

end Go.Proofs.Ythiiampknelbjaa
