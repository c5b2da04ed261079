/-
  Contracts: the fewest places, the reference. No conditions.
-/
import Derived.Test.YtldlaohefgianaaTy
import Derived.Test.YtldlaohefgianaaSl
import Derived.Test.YtldlaohefgianaaMth
import Derived.Test.YtldlaohefgianaaFn24
namespace Go.Proofs.Ytldlaohefgianaa
open Go.RowKit
set_option linter.unusedSimpArgs false
set_option linter.unusedVariables false
set_option maxHeartbeats 4000000
set_option maxRecDepth 100000
attribute [local irreducible] wpList Code.wp
--# sCellsOf_tg
-- 27
theorem sCellsOf_tg (F : Fld) (x y : Int) (hx : wrd x) (hy : wrd y) (b cap : Nat) (cs : Array Value) (hS : SlI cs (tgL F x y 100).length cap .i64 (tgL F x y 100)) (w : World) (hb : Blk w b 2 cs) :
    Calls Try.prog 27 #[.slice (some ⟨b, 0, none⟩) (tgL F x y 100).length cap] w fun e w' => e = .returned (.tuple #[.agg #[.int .u64 (gr0 F x y).1, .int .u64 (gr0 F x y).2], .int .i64 (ofC (tgL F x y 100))]) ∧ Ext w w' := by
  have := sCellsOf_any (tgL F x y 100) b cap cs hS (by have := tgL_length F x y 100; omega) w hb
  rw [ofL_tg hx hy] at this
  exact this

--# sFewestPlaces_any
theorem sFewestPlaces_any (F : Fld) (hF : F.wf) (w0 : Int) (l : Int) (x y : Int) (B : Int) (hwx : wrd x) (hwy : wrd y) (w : World) :
 Calls Try.prog 12 #[.agg F.cells, .int .i64 w0, .int .i64 l, .agg #[.int .u64 x, .int .u64 y], .int .i64 B] w fun e w' => (fwK F w0 l B x y = 0 ∧ RetI w 2 .i64 (fwX F w0 l B x y) (fun v => .tuple #[v, .int .i64 (fwL F w0 l B x y), .int .i64 0]) e w') ∨ (fwK F w0 l B x y ≠ 0 ∧ RetI w 2 .i64 [] (fun v => .tuple #[v, .int .i64 0, .int .i64 (fwK F w0 l B x y)]) e w') := by
 refine calls_of_wp Try.func12 rfl ?_
 refine wp_frame (a' := ⟨#[.agg F.cells, .int .i64 w0, .int .i64 l, .agg #[.int .u64 x, .int .u64 y], .int .i64 B, undef, undef, undef, undef, undef, undef, undef, undef, undef, undef, undef, undef, undef, undef, undef, undef, undef, undef, undef, undef, undef, undef, undef, undef, undef, undef, undef, undef, undef, undef, undef, undef, undef, undef, undef, undef, undef, undef, undef, undef, undef, undef, undef, undef, undef, undef, undef, undef, undef, undef, undef, undef, undef, undef, undef, undef, undef, undef, undef, undef, undef, undef, undef, undef, undef, undef, undef, undef, undef, undef, undef, undef, undef, undef, undef], []⟩) (by kernel_rfl) ?_
 refine wsr ?_
 refine wbox F.cells ?_
 intro g1 w1 B1 E1 hg_
 have lo_g1 := Nat.le_trans ((Ext.refl w)).size hg_
 have H1 := (Ext.refl w).trans E1
 refine wbox #[.int .u64 x, .int .u64 y] ?_
 intro g2 w2 B2 E2 hg_
 have q_g1_g2 := Nat.ne_of_lt (Nat.lt_of_lt_of_le B1.lt hg_)
 have lo_g2 := Nat.le_trans (H1).size hg_
 refine wv (.slice none 0 0) ?_
 refine wv (.int .i64 0) ?_
 refine wv (.int .i64 0) ?_
 refine wpList_nil (then_normal ?_)
 refine wsr ?_
 refine wv (.int .i64 w0) ?_
 refine wv (.int .i64 l) ?_
 replace B1 := B1.ext E2
 refine wcl (l03Game_any F hF g1 _ w0 l _ B1) ?_
 intro w3 E3
 refine wv (.int .i64 (code F (inB w0 1 1000 && inB l 1 1000))) ?_
 refine wpList_nil (then_normal ?_)
 refine wp_seq ?_
 refine wsr ?_
 refine wv (.int .i64 (code F (inB w0 1 1000 && inB l 1 1000))) ?_
 refine wv (.bool ((code F (inB w0 1 1000 && inB l 1 1000)) == 0)) ?_
 refine wv (.bool ((code F (inB w0 1 1000 && inB l 1 1000)) == 0)) ?_
 have H2 := (H1.trans E2).trans E3
 refine split_bool ((code F (inB w0 1 1000 && inB l 1 1000)) == 0) (fun h1 => ?_) (fun h1 => ?_)
 · skip
   refine wbl 26 true h1 ?_
   have h1d := eT h1
   have h1o := (code_zero h1d).1
   have h1z := (code_zero h1d).2
   obtain ⟨h1za, h1zb⟩ := andT h1z
   have h1zad := inT h1za
   have h1zbd := inT h1zb
   refine wv (.int .i64 B) ?_
   refine wcl (l00In_any B 0 20000 _) ?_
   intro w4 E4
   refine wv (.bool (!(inB B 0 20000))) ?_
   refine wv (.bool (!(inB B 0 20000))) ?_
   refine wpList_nil (then_normal ?_)
   have H3 := H2.trans E4
   refine wsplit (!(inB B 0 20000)) (fun h2 => ?_) (fun h2 => ?_)
   · skip
     replace h2 := nbT h2
     have h2d := inF h2
     refine wp_region_lit ?_
     refine wv (.int .i64 2) ?_
     refine wpList_nil (then_normal ?_)
     refine wp_seq ?_
     refine wsr ?_
     refine wv (.int .i64 2) ?_
     refine wv (.bool true) ?_
     refine wpList_nil (then_normal ?_)
     refine wct ?_
     refine wsr ?_
     replace B1 := (B1.ext E3).ext E4
     replace B2 := (B2.ext E3).ext E4
     refine wbsl 0 #[] slt__int64 ?_
     intro g3 w5 B3 E5 hg_
     have q_g1_g3 := Nat.ne_of_lt (Nat.lt_of_lt_of_le B1.lt hg_)
     have q_g2_g3 := Nat.ne_of_lt (Nat.lt_of_lt_of_le B2.lt hg_)
     have lo_g3 := Nat.le_trans (H3).size hg_
     have S1 : SlI #[] 0 0 .i64 [] := SlI.nil
     refine wv (.int .i64 2) ?_
     refine wv (.slice (some ⟨g3, 0, none⟩) 0 0) ?_
     refine wv (.int .i64 0) ?_
     refine wv (.int .i64 2) ?_
     refine wpList_nil (then_normal ?_)
     refine wp_ret ?_
     refine then_ret ?_
     refine ret3 (.slice (some ⟨g3, 0, none⟩) 0 0) (.int .i64 0) (.int .i64 2) rfl ?_ ?_ ?_ rfl ?_
     · exact resT (by kernel_rfl)
     · exact resT (by kernel_rfl)
     · exact resT (by kernel_rfl)
     have H4 := H3.trans E5
     have ec_ : (2 : Int) = fwK F w0 l B x y := fwS_2 (by assumption) (by assumption)
     have en_ : fwK F w0 l B x y ≠ 0 := by rw [← ec_]; decide
     rw [ec_]
     exact .inr ⟨en_, g3, 0, 0, #[], rfl, B3, S1, H4, lo_g3⟩
   · skip
     replace h2 := nbF h2
     have h2d := inT h2
     refine wp_skip ?_
     refine then_normal ?_
     refine wp_seq ?_
     refine wsr ?_
     refine wv (.int .i64 (code F (inB w0 1 1000 && inB l 1 1000))) ?_
     refine wv (.bool ((code F (inB w0 1 1000 && inB l 1 1000)) != 0)) ?_
     refine wpList_nil (then_normal ?_)
     refine wsplit ((code F (inB w0 1 1000 && inB l 1 1000)) != 0) (fun h3 => ?_) (fun h3 => ?_)
     · skip
       have h3d := nT h3
       refine wsr ?_
       replace B1 := (B1.ext E3).ext E4
       replace B2 := (B2.ext E3).ext E4
       refine wbsl 0 #[] slt__int64 ?_
       intro g4 w6 B4 E6 hg_
       have q_g1_g4 := Nat.ne_of_lt (Nat.lt_of_lt_of_le B1.lt hg_)
       have q_g2_g4 := Nat.ne_of_lt (Nat.lt_of_lt_of_le B2.lt hg_)
       have lo_g4 := Nat.le_trans (H3).size hg_
       have S2 : SlI #[] 0 0 .i64 [] := SlI.nil
       refine wv (.int .i64 (code F (inB w0 1 1000 && inB l 1 1000))) ?_
       refine wv (.slice (some ⟨g4, 0, none⟩) 0 0) ?_
       refine wv (.int .i64 0) ?_
       refine wv (.int .i64 (code F (inB w0 1 1000 && inB l 1 1000))) ?_
       refine wpList_nil (then_normal ?_)
       refine wp_ret ?_
       refine then_ret ?_
       refine ret3 (.slice (some ⟨g4, 0, none⟩) 0 0) (.int .i64 0) (.int .i64 (code F (inB w0 1 1000 && inB l 1 1000))) rfl ?_ ?_ ?_ rfl ?_
       · exact resT (by kernel_rfl)
       · exact resT (by kernel_rfl)
       · exact resT (by kernel_rfl)
       have H5 := H3.trans E6
       have ec_ : (code F (inB w0 1 1000 && inB l 1 1000) : Int) = fwK F w0 l B x y := fwS_1 (by assumption)
       have en_ : fwK F w0 l B x y ≠ 0 := by rw [← ec_]; assumption
       rw [ec_]
       exact .inr ⟨en_, g4, 0, 0, #[], rfl, B4, S2, H5, lo_g4⟩
     · skip
       have h3d := nF h3
       have h3o := (code_zero h3d).1
       have h3z := (code_zero h3d).2
       obtain ⟨h3za, h3zb⟩ := andT h3z
       have h3zad := inT h3za
       have h3zbd := inT h3zb
       refine wp_skip ?_
       refine then_normal ?_
       refine wsr ?_
       refine wv (.int .i64 B) ?_
       refine wv (.agg (srC (fun _ => (0, 0)) B 0 false)) ?_
       replace B1 := (B1.ext E3).ext E4
       replace B2 := (B2.ext E3).ext E4
       refine wbox (srC (fun _ => (0, 0)) B 0 false) ?_
       intro g5 w7 B5 E7 hg_
       have q_g1_g5 := Nat.ne_of_lt (Nat.lt_of_lt_of_le B1.lt hg_)
       have q_g2_g5 := Nat.ne_of_lt (Nat.lt_of_lt_of_le B2.lt hg_)
       have lo_g5 := Nat.le_trans (H3).size hg_
       refine wv (.pointer (some ⟨g5, 0, none⟩)) ?_
       refine wpList_nil (then_normal ?_)
       refine wp_seq ?_
       refine wsr ?_
       refine wv (.int .i64 0) ?_
       refine wpList_nil (then_normal ?_)
       refine wp_block ?_
       replace B1 := B1.ext E7
       replace B2 := B2.ext E7
       have H6 := H3.trans E7
       refine wp_loop_k (fun m1 a wl1 => ∃ (k : Nat), m1 = 100 - k ∧ k ≤ 100 ∧ Ext w wl1 ∧ Blk wl1 g1 32 F.cells ∧ Blk wl1 g2 43 #[.int .u64 x, .int .u64 y] ∧ Blk wl1 g5 60 (srC (vK F w0 l k) B 0 false) ∧ (∃ J1 : Nat → Value, a = ⟨#[.agg F.cells, .int .i64 w0, .int .i64 l, .agg #[.int .u64 x, .int .u64 y], .int .i64 B, .pointer (some ⟨g1, 0, none⟩), undef, undef, .pointer (some ⟨g2, 0, none⟩), undef, .slice none 0 0, .int .i64 0, .int .i64 0, .int .i64 (code F (inB w0 1 1000 && inB l 1 1000)), .pointer (some ⟨g5, 0, none⟩), .int .i64 (k : Int), undef, undef, undef, undef, undef, .int .i64 w0, .int .i64 l, .int .i64 (code F (inB w0 1 1000 && inB l 1 1000)), .int .i64 (code F (inB w0 1 1000 && inB l 1 1000)), .bool ((code F (inB w0 1 1000 && inB l 1 1000)) == 0), .bool true, .int .i64 B, .bool (inB B 0 20000), .bool (!(inB B 0 20000)), .bool (!(inB B 0 20000)), .int .i64 (code F (inB w0 1 1000 && inB l 1 1000)), .bool ((code F (inB w0 1 1000 && inB l 1 1000)) != 0), undef, undef, .int .i64 B, .agg (srC (fun _ => (0, 0)) B 0 false), .pointer (some ⟨g5, 0, none⟩), J1 38, J1 39, J1 40, J1 41, J1 42, J1 43, J1 44, J1 45, J1 46, J1 47, J1 48, J1 49, J1 50, undef, undef, undef, undef, undef, undef, undef, undef, undef, undef, undef, undef, undef, undef, undef, undef, undef, undef, undef, undef, undef, undef, undef, undef, undef, undef, undef, undef, undef], []⟩)) (100) ?_ ?_
       · refine ⟨0, rfl, ?_, H6, B1, B2, ?_, exJ (by kernel_rfl)⟩
         · omega
         · rw [vK_0]; exact B5
       intro m1 a wl1 hI
       obtain ⟨k, rfl, hi_, HL1, B1, B2, B5, J1, rfl⟩ := hI
       refine wp_seq ?_
       refine wsr ?_
       refine wv (.int .i64 (k : Int)) ?_
       refine wv (.bool (decide ((k : Int) < 100))) ?_
       refine wpList_nil (then_normal ?_)
       refine wsplit (decide ((k : Int) < 100)) (fun h4 => ?_) (fun h4 => ?_)
       · skip
         have h4d := dT h4
         refine wp_skip ?_
         refine then_normal ?_
         refine wp_seq ?_
         refine wp_block ?_
         refine wp_frame (a' := ⟨#[.agg F.cells, .int .i64 w0, .int .i64 l, .agg #[.int .u64 x, .int .u64 y], .int .i64 B, .pointer (some ⟨g1, 0, none⟩), undef, undef, .pointer (some ⟨g2, 0, none⟩), undef, .slice none 0 0, .int .i64 0, .int .i64 0, .int .i64 (code F (inB w0 1 1000 && inB l 1 1000)), .pointer (some ⟨g5, 0, none⟩), .int .i64 (k : Int), undef, undef, undef, undef, undef, .int .i64 w0, .int .i64 l, .int .i64 (code F (inB w0 1 1000 && inB l 1 1000)), .int .i64 (code F (inB w0 1 1000 && inB l 1 1000)), .bool ((code F (inB w0 1 1000 && inB l 1 1000)) == 0), .bool true, .int .i64 B, .bool (inB B 0 20000), .bool (!(inB B 0 20000)), .bool (!(inB B 0 20000)), .int .i64 (code F (inB w0 1 1000 && inB l 1 1000)), .bool ((code F (inB w0 1 1000 && inB l 1 1000)) != 0), undef, undef, .int .i64 B, .agg (srC (fun _ => (0, 0)) B 0 false), .pointer (some ⟨g5, 0, none⟩), .int .i64 (k : Int), .bool (decide ((k : Int) < 100)), J1 40, J1 41, J1 42, J1 43, J1 44, J1 45, J1 46, J1 47, J1 48, J1 49, J1 50, undef, undef, undef, undef, undef, undef, undef, undef, undef, undef, undef, undef, undef, undef, undef, undef, undef, undef, undef, undef, undef, undef, undef, undef, undef, undef, undef, undef, undef], []⟩) (by kernel_rfl) ?_
         refine region_go 9 [42, 43, 44, 45, 46, 47, 48, 49, 50] [[], [], [], [], [], [2, 3, 4], [0], [6], [7, 1]]
          (fun i_ => ([.val (.pointer (some ⟨g5, 0, none⟩)), .val (.int .i64 (k : Int)), .val (.int .i64 (k : Int)), .val (.int .i64 w0), .val (.int .i64 l), .val (.agg #[.int .u64 ((cvP F w0 l (k : Int)).1), .int .u64 ((cvP F w0 l (k : Int)).2)]), .val (.pointer (some ⟨g5, 0, none⟩)), .val (.pointer (some ⟨g5, 0, none⟩)), .val (.pointer (some ⟨g5, 0 + k * 2, none⟩))] : List Fct).getD i_ .any)
          (by kernel_rfl) (by kernel_rfl) (by decide) (by simp) rfl (all_succ (all_succ (all_succ (all_succ (all_succ (all_succ (all_succ (all_succ (all_succ all_zero ?_) ?_) ?_) ?_) ?_) ?_) ?_) ?_) ?_) ?_
         · refine step0 rfl rfl rfl (fun wr hw => ?_)
           exact OpRun.val (.pointer (some ⟨g5, 0, none⟩)) (.pointer (some ⟨g5, 0, none⟩)) (by kernel_rfl) rfl ⟨Ext.refl _, rfl⟩
         · refine step0 rfl rfl rfl (fun wr hw => ?_)
           exact OpRun.val (.int .i64 (k : Int)) (.int .i64 (k : Int)) (by kernel_rfl) rfl ⟨Ext.refl _, rfl⟩
         · refine step0 rfl rfl rfl (fun wr hw => ?_)
           exact OpRun.val (.int .i64 (k : Int)) (.int .i64 (k : Int)) (by kernel_rfl) rfl ⟨Ext.refl _, rfl⟩
         · refine step0 rfl rfl rfl (fun wr hw => ?_)
           exact OpRun.val (.int .i64 w0) (.int .i64 w0) (by kernel_rfl) rfl ⟨Ext.refl _, rfl⟩
         · refine step0 rfl rfl rfl (fun wr hw => ?_)
           exact OpRun.val (.int .i64 l) (.int .i64 l) (by kernel_rfl) rfl ⟨Ext.refl _, rfl⟩
         · refine step3 rfl rfl rfl rfl rfl rfl (fun u0 u1 u2 wr hw h0 h1 h2 => ?_)
           cases h0
           cases h1
           cases h2
           exact OpRun.call 26 #[.pointer (some ⟨g1, 0, none⟩), .int .i64 (k : Int), .int .i64 w0, .int .i64 l] (by kernel_rfl) ((l03Cover_all F hF g1 _ (k : Int) w0 l (by omega) (by omega) _ (B1.ext hw)).mono fun e w1 ⟨he, hb⟩ => ⟨_, he, hb, rfl⟩)
         · refine step1 rfl rfl rfl rfl (fun u0 wr hw h0 => ?_)
           cases h0
           exact OpRun.val (.pointer (some ⟨g5, 0, none⟩)) (.pointer (some ⟨g5, 0, none⟩)) (by kernel_rfl) rfl ⟨Ext.refl _, rfl⟩
         · refine step1 rfl rfl rfl rfl (fun u0 wr hw h0 => ?_)
           cases h0
           exact OpRun.val (.pointer (some ⟨g5, 0, none⟩)) (.pointer (some ⟨g5, 0, none⟩)) (by kernel_rfl) rfl ⟨Ext.refl _, rfl⟩
         · refine step2 rfl rfl rfl rfl rfl (fun u0 u1 wr hw h0 h1 => ?_)
           cases h0
           cases h1
           exact OpRun.ixm (i := k) (k := .i64) (g := g5) (off := 0) arrm__100_impl_Cells rfl (by kernel_rfl) (by kernel_rfl) (by omega) ⟨Ext.refl _, rfl⟩
         refine end9 (fun u0 u1 u2 u3 u4 u5 u6 u7 u8 w8 E8 f0 f1 f2 f3 f4 f5 f6 f7 f8 => ?_)
         cases f0
         cases f1
         cases f2
         cases f3
         cases f4
         cases f5
         cases f6
         cases f7
         cases f8
         replace B5 := B5.ext E8
         refine wpmid (n := 2) (0 + k * 2) #[.int .u64 ((cvP F w0 l (k : Int)).1), .int .u64 ((cvP F w0 l (k : Int)).2)] row_impl_Cells B5 rfl (by rw [srC_size]; omega) (by kernel_rfl) (srC_put (by omega) ((cvP F w0 l (k : Int)).1, (cvP F w0 l (k : Int)).2)) ?_
         intro w9 B5_ X1
         clear B5; have B5 := B5_; clear B5_
         refine wpList_nil (block_normal (then_normal ?_))
         refine wp_region_lit ?_
         refine wv (.int .i64 (k : Int)) ?_
         refine wi64 ((k : Int) + 1) ?_
         refine wv (.int .i64 ((k : Int) + 1)) ?_
         refine wpList_nil (then_normal ?_)
         replace B1 := X1.blk (B1.ext E8) q_g1_g5
         replace B2 := X1.blk (B2.ext E8) q_g2_g5
         have H7 := X1.ext w lo_g5 (HL1.trans E8)
         refine ⟨_, ?_, k + 1, rfl, ?_, H7, B1, B2, ?_, exJ (by kernel_rfl)⟩
         · omega
         · omega
         · rw [← vK_s]; exact B5
       · skip
         have h4d := dF h4
         refine wp_exit ?_
         refine then_exit ?_
         refine then_exit ?_
         refine block_exit ?_
         refine then_normal ?_
         refine wsr ?_
         refine wcli (l03Targets_any F hF g1 _ x y g2 _ _ B1 B2) ?_
         intro g6 cap1 cs1 w10 B6 S3 E9 hg_
         have q_g1_g6 := Nat.ne_of_lt (Nat.lt_of_lt_of_le B1.lt hg_)
         have q_g2_g6 := Nat.ne_of_lt (Nat.lt_of_lt_of_le B2.lt hg_)
         have q_g5_g6 := Nat.ne_of_lt (Nat.lt_of_lt_of_le B5.lt hg_)
         have lo_g6 := Nat.le_trans (HL1).size hg_
         have tl1 := tgL_length F x y 100
         refine wcl (sCellsOf_tg F x y hwx hwy g6 cap1 cs1 S3 _ B6) ?_
         intro w11 E10
         refine wv (.tuple #[.agg #[.int .u64 ((gr0 F x y).1), .int .u64 ((gr0 F x y).2)], .int .i64 (ofC (tgL F x y 100))]) ?_
         refine wv (.agg #[.int .u64 ((gr0 F x y).1), .int .u64 ((gr0 F x y).2)]) ?_
         refine wv (.int .i64 (ofC (tgL F x y 100))) ?_
         have H8 := (HL1.trans E9).trans E10
         replace B1 := (B1.ext E9).ext E10
         replace B2 := (B2.ext E9).ext E10
         replace B5 := (B5.ext E9).ext E10
         replace B6 := B6.ext E10
         refine wnew #[.int .u64 0, .int .u64 0] Try.zeroValue43 rfl ?_
         intro g7 w12 B7 E11 hg_
         have q_g1_g7 := Nat.ne_of_lt (Nat.lt_of_lt_of_le B1.lt hg_)
         have q_g2_g7 := Nat.ne_of_lt (Nat.lt_of_lt_of_le B2.lt hg_)
         have q_g5_g7 := Nat.ne_of_lt (Nat.lt_of_lt_of_le B5.lt hg_)
         have q_g6_g7 := Nat.ne_of_lt (Nat.lt_of_lt_of_le B6.lt hg_)
         have lo_g7 := Nat.le_trans (H8).size hg_
         refine wput #[.int .u64 ((gr0 F x y).1), .int .u64 ((gr0 F x y).2)] row_impl_Cells B7 (by rfl) (by rfl) (by kernel_rfl) ?_
         intro w13 B7_ X2
         clear B7; have B7 := B7_; clear B7_
         refine wv (.int .i64 (ofC (tgL F x y 100))) ?_
         refine wpList_nil (then_normal ?_)
         refine wp_seq ?_
         refine wsr ?_
         refine wv (.int .i64 0) ?_
         refine wpList_nil (then_normal ?_)
         refine wp_block ?_
         replace B5 := X2.blk (B5.ext E11) q_g5_g7
         replace B1 := X2.blk (B1.ext E11) q_g1_g7
         replace B2 := X2.blk (B2.ext E11) q_g2_g7
         replace B6 := X2.blk (B6.ext E11) q_g6_g7
         have H9 := X2.ext w lo_g7 (H8.trans E11)
         refine wp_loop_k (fun m2 a wl2 => ∃ (q : Nat) (lk_ : Int), m2 = 21 - q ∧ q ≤ 21 ∧ fwI F w0 l B x y q lk_ ∧ Ext w wl2 ∧ Blk wl2 g1 32 F.cells ∧ Blk wl2 g2 43 #[.int .u64 x, .int .u64 y] ∧ Blk wl2 g5 60 (srC (cvP F w0 l) B lk_ false) ∧ Blk wl2 g6 2 cs1 ∧ Blk wl2 g7 43 #[.int .u64 ((gr0 F x y).1), .int .u64 ((gr0 F x y).2)] ∧ (∃ J2 : Nat → Value, a = ⟨#[.agg F.cells, .int .i64 w0, .int .i64 l, .agg #[.int .u64 x, .int .u64 y], .int .i64 B, .pointer (some ⟨g1, 0, none⟩), undef, undef, .pointer (some ⟨g2, 0, none⟩), undef, J2 10, J2 11, J2 12, .int .i64 (code F (inB w0 1 1000 && inB l 1 1000)), .pointer (some ⟨g5, 0, none⟩), .int .i64 (k : Int), .pointer (some ⟨g7, 0, none⟩), .int .i64 (ofC (tgL F x y 100)), .int .i64 (q : Int), J2 19, J2 20, .int .i64 w0, .int .i64 l, .int .i64 (code F (inB w0 1 1000 && inB l 1 1000)), .int .i64 (code F (inB w0 1 1000 && inB l 1 1000)), .bool ((code F (inB w0 1 1000 && inB l 1 1000)) == 0), .bool true, .int .i64 B, .bool (inB B 0 20000), .bool (!(inB B 0 20000)), .bool (!(inB B 0 20000)), .int .i64 (code F (inB w0 1 1000 && inB l 1 1000)), .bool ((code F (inB w0 1 1000 && inB l 1 1000)) != 0), undef, undef, .int .i64 B, .agg (srC (fun _ => (0, 0)) B 0 false), .pointer (some ⟨g5, 0, none⟩), .int .i64 (k : Int), .bool (decide ((k : Int) < 100)), J1 40, J1 41, J1 42, J1 43, J1 44, J1 45, J1 46, J1 47, J1 48, J1 49, J1 50, .tuple #[.agg #[.int .u64 ((gr0 F x y).1), .int .u64 ((gr0 F x y).2)], .int .i64 (ofC (tgL F x y 100))], .slice (some ⟨g6, 0, none⟩) ((tgL F x y 100).length) cap1, .tuple #[.agg #[.int .u64 ((gr0 F x y).1), .int .u64 ((gr0 F x y).2)], .int .i64 (ofC (tgL F x y 100))], .agg #[.int .u64 ((gr0 F x y).1), .int .u64 ((gr0 F x y).2)], .int .i64 (ofC (tgL F x y 100)), J2 56, J2 57, J2 58, J2 59, J2 60, J2 61, J2 62, J2 63, J2 64, J2 65, J2 66, J2 67, J2 68, J2 69, J2 70, J2 71, J2 72, J2 73, J2 74, J2 75, J2 76, J2 77, J2 78, undef], []⟩)) (21) ?_ ?_
         · refine ⟨0, 0, rfl, ?_, ?_, H9, B1, B2, ?_, B6, B7, exJ (by kernel_rfl)⟩
           · omega
           · exact fwI_0 (by omega)
           · rw [← vK_e (k := k) (by omega)]; exact B5
         intro m2 a wl2 hI
         obtain ⟨q, lk_, rfl, hi_, hI, HL2, B1, B2, B5, B6, B7, J2, rfl⟩ := hI
         refine wp_seq ?_
         refine wsr ?_
         refine wv (.int .i64 (q : Int)) ?_
         refine wv (.bool (decide ((q : Int) ≤ 20))) ?_
         refine wpList_nil (then_normal ?_)
         refine wsplit (decide ((q : Int) ≤ 20)) (fun h5 => ?_) (fun h5 => ?_)
         · skip
           have h5d := dT h5
           refine wp_skip ?_
           refine then_normal ?_
           refine wp_seq ?_
           refine wp_block ?_
           refine wsr ?_
           refine wv (.pointer (some ⟨g5, 0, none⟩)) ?_
           refine wrow row_impl_Cells B7 (by rfl) ?_
           refine wbsl 0 #[] slt__int64 ?_
           intro g8 w14 B8 E12 hg_
           have q_g1_g8 := Nat.ne_of_lt (Nat.lt_of_lt_of_le B1.lt hg_)
           have q_g2_g8 := Nat.ne_of_lt (Nat.lt_of_lt_of_le B2.lt hg_)
           have q_g5_g8 := Nat.ne_of_lt (Nat.lt_of_lt_of_le B5.lt hg_)
           have q_g6_g8 := Nat.ne_of_lt (Nat.lt_of_lt_of_le B6.lt hg_)
           have q_g7_g8 := Nat.ne_of_lt (Nat.lt_of_lt_of_le B7.lt hg_)
           have lo_g8 := Nat.le_trans (HL2).size hg_
           have S4 : SlI #[] 0 0 .i64 [] := SlI.nil
           refine wv (.int .i64 (q : Int)) ?_
           have H10 := HL2.trans E12
           refine split_bool ((seekF F w0 l B q (gr0 F x y) [] lk_).fd.isSome) (fun h6 => ?_) (fun h6 => ?_)
           · skip
             replace B5 := B5.ext E12
             replace B1 := B1.ext E12
             replace B2 := B2.ext E12
             replace B6 := B6.ext E12
             replace B7 := B7.ext E12
             refine wfdT (r := seekF F w0 l B q (gr0 F x y) [] lk_) (find_any F w0 l B (by omega) q _ g5 ((gr0 F x y).1) ((gr0 F x y).2) ([] : List Int) 0 g8 0 #[] (q : Int) lk_ rfl (gr0_ok hwx hwy) S4 (by omega) (Ne.symm q_g5_g8) hI.1 hI.2.1 B5 B8) h6 ?_
             intro g9 n1 cap2 cs2 w15 B5_ X3 B9 S5 n2 or1
             clear B5; have B5 := B5_; clear B5_
             have lo_g9 := Wr.lo or1 lo_g8 (H10).size
             refine wv (.tuple #[.slice (some ⟨g9, 0, none⟩) n1 cap2, .bool ((seekF F w0 l B q (gr0 F x y) [] lk_).fd.isSome)]) ?_
             refine wv (.slice (some ⟨g9, 0, none⟩) n1 cap2) ?_
             refine wv (.bool ((seekF F w0 l B q (gr0 F x y) [] lk_).fd.isSome)) ?_
             refine wbl 67 true h6 ?_
             refine wv (.slice (some ⟨g9, 0, none⟩) n1 cap2) ?_
             refine wv (.bool true) ?_
             refine wpList_nil (then_normal ?_)
             refine wp_seq ?_
             refine wsr ?_
             refine wv (.bool true) ?_
             refine wpList_nil (then_normal ?_)
             refine wct ?_
             refine wp_seq ?_
             refine wp_frame (a' := ⟨#[.agg F.cells, .int .i64 w0, .int .i64 l, .agg #[.int .u64 x, .int .u64 y], .int .i64 B, .pointer (some ⟨g1, 0, none⟩), undef, undef, .pointer (some ⟨g2, 0, none⟩), undef, J2 10, J2 11, J2 12, .int .i64 (code F (inB w0 1 1000 && inB l 1 1000)), .pointer (some ⟨g5, 0, none⟩), .int .i64 (k : Int), .pointer (some ⟨g7, 0, none⟩), .int .i64 (ofC (tgL F x y 100)), .int .i64 (q : Int), .slice (some ⟨g9, 0, none⟩) n1 cap2, .bool true, .int .i64 w0, .int .i64 l, .int .i64 (code F (inB w0 1 1000 && inB l 1 1000)), .int .i64 (code F (inB w0 1 1000 && inB l 1 1000)), .bool ((code F (inB w0 1 1000 && inB l 1 1000)) == 0), .bool true, .int .i64 B, .bool (inB B 0 20000), .bool (!(inB B 0 20000)), .bool (!(inB B 0 20000)), .int .i64 (code F (inB w0 1 1000 && inB l 1 1000)), .bool ((code F (inB w0 1 1000 && inB l 1 1000)) != 0), undef, undef, .int .i64 B, .agg (srC (fun _ => (0, 0)) B 0 false), .pointer (some ⟨g5, 0, none⟩), .int .i64 (k : Int), .bool (decide ((k : Int) < 100)), J1 40, J1 41, J1 42, J1 43, J1 44, J1 45, J1 46, J1 47, J1 48, J1 49, J1 50, .tuple #[.agg #[.int .u64 ((gr0 F x y).1), .int .u64 ((gr0 F x y).2)], .int .i64 (ofC (tgL F x y 100))], .slice (some ⟨g6, 0, none⟩) ((tgL F x y 100).length) cap1, .tuple #[.agg #[.int .u64 ((gr0 F x y).1), .int .u64 ((gr0 F x y).2)], .int .i64 (ofC (tgL F x y 100))], .agg #[.int .u64 ((gr0 F x y).1), .int .u64 ((gr0 F x y).2)], .int .i64 (ofC (tgL F x y 100)), .int .i64 (q : Int), .bool (decide ((q : Int) ≤ 20)), J2 58, J2 59, .tuple #[.slice (some ⟨g9, 0, none⟩) n1 cap2, .bool ((seekF F w0 l B q (gr0 F x y) [] lk_).fd.isSome)], .pointer (some ⟨g5, 0, none⟩), .agg #[.int .u64 ((gr0 F x y).1), .int .u64 ((gr0 F x y).2)], .slice (some ⟨g8, 0, none⟩) 0 0, .int .i64 (q : Int), .tuple #[.slice (some ⟨g9, 0, none⟩) n1 cap2, .bool ((seekF F w0 l B q (gr0 F x y) [] lk_).fd.isSome)], .slice (some ⟨g9, 0, none⟩) n1 cap2, .bool true, .bool true, J2 69, J2 70, J2 71, J2 72, J2 73, J2 74, J2 75, J2 76, J2 77, J2 78, undef], []⟩) (by kernel_rfl) ?_
             refine region_go 8 [69, 70, 71, 72, 73, 10, 11, 12] [[], [], [1], [2], [3], [0], [4], []]
              (fun i_ => ([.val (.slice (some ⟨g9, 0, none⟩) n1 cap2), .val (.pointer (some ⟨g5, 0, none⟩)), .val (.pointer (some ⟨g5, 0, none⟩)), .val (.pointer (some ⟨g5, 201, none⟩)), .val (.int .i64 ((seekF F w0 l B q (gr0 F x y) [] lk_).lk)), .val (.slice (some ⟨g9, 0, none⟩) n1 cap2), .val (.int .i64 ((seekF F w0 l B q (gr0 F x y) [] lk_).lk)), .val (.int .i64 0)] : List Fct).getD i_ .any)
              (by kernel_rfl) (by kernel_rfl) (by decide) (by simp) rfl (all_succ (all_succ (all_succ (all_succ (all_succ (all_succ (all_succ (all_succ all_zero ?_) ?_) ?_) ?_) ?_) ?_) ?_) ?_) ?_
             · refine step0 rfl rfl rfl (fun wr hw => ?_)
               exact OpRun.val (.slice (some ⟨g9, 0, none⟩) n1 cap2) (.slice (some ⟨g9, 0, none⟩) n1 cap2) (by kernel_rfl) rfl ⟨Ext.refl _, rfl⟩
             · refine step0 rfl rfl rfl (fun wr hw => ?_)
               exact OpRun.val (.pointer (some ⟨g5, 0, none⟩)) (.pointer (some ⟨g5, 0, none⟩)) (by kernel_rfl) rfl ⟨Ext.refl _, rfl⟩
             · refine step1 rfl rfl rfl rfl (fun u0 wr hw h0 => ?_)
               cases h0
               exact OpRun.val (.pointer (some ⟨g5, 0, none⟩)) (.pointer (some ⟨g5, 0, none⟩)) (by kernel_rfl) rfl ⟨Ext.refl _, rfl⟩
             · refine step1 rfl rfl rfl rfl (fun u0 wr hw h0 => ?_)
               cases h0
               exact OpRun.val (.pointer (some ⟨g5, 201, none⟩)) (.pointer (some ⟨g5, 201, none⟩)) (by kernel_rfl) rfl ⟨Ext.refl _, rfl⟩
             · refine step1 rfl rfl rfl rfl (fun u0 wr hw h0 => ?_)
               cases h0
               exact OpRun.cell (g := g5) (off := 201) (v := .int .i64 ((seekF F w0 l B q (gr0 F x y) [] lk_).lk)) scal_int64 rfl (by kernel_rfl) ((B5.ext hw).get (srC_l)) ⟨Ext.refl _, rfl⟩
             · refine step1 rfl rfl rfl rfl (fun u0 wr hw h0 => ?_)
               cases h0
               exact OpRun.val (.slice (some ⟨g9, 0, none⟩) n1 cap2) (.slice (some ⟨g9, 0, none⟩) n1 cap2) (by kernel_rfl) rfl ⟨Ext.refl _, rfl⟩
             · refine step1 rfl rfl rfl rfl (fun u0 wr hw h0 => ?_)
               cases h0
               exact OpRun.val (.int .i64 ((seekF F w0 l B q (gr0 F x y) [] lk_).lk)) (.int .i64 ((seekF F w0 l B q (gr0 F x y) [] lk_).lk)) (by kernel_rfl) rfl ⟨Ext.refl _, rfl⟩
             · refine step0 rfl rfl rfl (fun wr hw => ?_)
               exact OpRun.val (.int .i64 0) (.int .i64 0) (by kernel_rfl) rfl ⟨Ext.refl _, rfl⟩
             refine end8 (fun u0 u1 u2 u3 u4 u5 u6 u7 w16 E13 f0 f1 f2 f3 f4 f5 f6 f7 => ?_)
             cases f0
             cases f1
             cases f2
             cases f3
             cases f4
             cases f5
             cases f6
             cases f7
             refine wpList_nil (then_normal ?_)
             refine wp_ret ?_
             refine then_ret (block_ret (then_ret (then_ret (block_ret (then_ret ?_)))))
             refine ret3 (.slice (some ⟨g9, 0, none⟩) n1 cap2) (.int .i64 ((seekF F w0 l B q (gr0 F x y) [] lk_).lk)) (.int .i64 0) rfl ?_ ?_ ?_ rfl ?_
             · exact resT (by kernel_rfl)
             · exact resT (by kernel_rfl)
             · exact resT (by kernel_rfl)
             have H11 := (X3.ext w lo_g5 H10).trans E13
             replace B9 := B9.ext E13
             have ht_ := fwI_f hI (by omega) (seek_ov (by assumption)) (by assumption)
             exact .inl ⟨fwK_t (fwS_0 (by assumption) (by first | assumption | contradiction)) ht_, g9, n1, cap2, cs2, congrArg (fun z_ => Ending.returned (.tuple #[_, .int .i64 z_, _])) (fwL_t ht_), B9, S5.of_eq (fwX_t ht_), H11, lo_g9⟩
           · skip
             replace B5 := B5.ext E12
             replace B1 := B1.ext E12
             replace B2 := B2.ext E12
             replace B6 := B6.ext E12
             replace B7 := B7.ext E12
             refine wfdF (r := seekF F w0 l B q (gr0 F x y) [] lk_) (find_any F w0 l B (by omega) q _ g5 ((gr0 F x y).1) ((gr0 F x y).2) ([] : List Int) 0 g8 0 #[] (q : Int) lk_ rfl (gr0_ok hwx hwy) S4 (by omega) (Ne.symm q_g5_g8) hI.1 hI.2.1 B5 B8) ?_
             intro u1 w17 B5_ X4
             clear B5; have B5 := B5_; clear B5_
             refine wv (.tuple #[u1, .bool ((seekF F w0 l B q (gr0 F x y) [] lk_).fd.isSome)]) ?_
             refine wv u1 ?_
             refine wv (.bool ((seekF F w0 l B q (gr0 F x y) [] lk_).fd.isSome)) ?_
             refine wbl 67 false h6 ?_
             refine wv u1 ?_
             refine wv (.bool false) ?_
             refine wpList_nil (then_normal ?_)
             refine wp_seq ?_
             refine wsr ?_
             refine wv (.bool false) ?_
             refine wpList_nil (then_normal ?_)
             refine wcf ?_
             refine wp_skip ?_
             refine then_normal ?_
             refine wsr ?_
             refine wv (.pointer (some ⟨g5, 0, none⟩)) ?_
             refine wv (.pointer (some ⟨g5, 0, none⟩)) ?_
             refine wv (.pointer (some ⟨g5, 202, none⟩)) ?_
             refine wld g5 (202) scal_bool (B5.get (srC_o)) ?_
             refine wpList_nil (then_normal ?_)
             have H12 := X4.ext w lo_g5 H10
             refine wsplit ((seekF F w0 l B q (gr0 F x y) [] lk_).ov) (fun h7 => ?_) (fun h7 => ?_)
             · skip
               refine wsr ?_
               replace B1 := X4.blk B1 q_g1_g5
               replace B2 := X4.blk B2 q_g2_g5
               replace B6 := X4.blk B6 (Ne.symm q_g5_g6)
               replace B7 := X4.blk B7 (Ne.symm q_g5_g7)
               replace B8 := X4.blk B8 (Ne.symm q_g5_g8)
               refine wbsl 0 #[] slt__int64 ?_
               intro g10 w18 B10 E14 hg_
               have q_g1_g10 := Nat.ne_of_lt (Nat.lt_of_lt_of_le B1.lt hg_)
               have q_g2_g10 := Nat.ne_of_lt (Nat.lt_of_lt_of_le B2.lt hg_)
               have q_g5_g10 := Nat.ne_of_lt (Nat.lt_of_lt_of_le B5.lt hg_)
               have q_g6_g10 := Nat.ne_of_lt (Nat.lt_of_lt_of_le B6.lt hg_)
               have q_g7_g10 := Nat.ne_of_lt (Nat.lt_of_lt_of_le B7.lt hg_)
               have q_g8_g10 := Nat.ne_of_lt (Nat.lt_of_lt_of_le B8.lt hg_)
               have lo_g10 := Nat.le_trans (H12).size hg_
               have S6 : SlI #[] 0 0 .i64 [] := SlI.nil
               refine wv (.slice (some ⟨g10, 0, none⟩) 0 0) ?_
               refine wv (.int .i64 0) ?_
               refine wv (.int .i64 7) ?_
               refine wpList_nil (then_normal ?_)
               refine wp_ret ?_
               refine block_ret (then_ret (then_ret (block_ret (then_ret ?_))))
               refine ret3 (.slice (some ⟨g10, 0, none⟩) 0 0) (.int .i64 0) (.int .i64 7) rfl ?_ ?_ ?_ rfl ?_
               · exact resT (by kernel_rfl)
               · exact resT (by kernel_rfl)
               · exact resT (by kernel_rfl)
               have H13 := H12.trans E14
               have ec_ : (7 : Int) = fwK F w0 l B x y := (fwK_t (fwS_0 (by assumption) (by first | assumption | contradiction)) (fwI_o hI (by omega) (by assumption))).symm
               have en_ : fwK F w0 l B x y ≠ 0 := by rw [← ec_]; decide
               rw [ec_]
               exact .inr ⟨en_, g10, 0, 0, #[], rfl, B10, S6, H13, lo_g10⟩
             · skip
               refine wp_skip ?_
               refine block_normal (then_normal ?_)
               refine wp_region_lit ?_
               refine wv (.int .i64 (q : Int)) ?_
               refine wi64 ((q : Int) + 1) ?_
               refine wv (.int .i64 ((q : Int) + 1)) ?_
               refine wpList_nil (then_normal ?_)
               replace B1 := X4.blk B1 q_g1_g5
               replace B2 := X4.blk B2 q_g2_g5
               replace B6 := X4.blk B6 (Ne.symm q_g5_g6)
               replace B7 := X4.blk B7 (Ne.symm q_g5_g7)
               refine ⟨_, ?_, q + 1, (seekF F w0 l B q (gr0 F x y) [] lk_).lk, rfl, ?_, ?_, H12, B1, B2, ?_, B6, B7, exJ (by kernel_rfl)⟩
               · omega
               · omega
               · exact fwI_s hI (by omega) (by assumption) (by assumption)
               · rw [show (seekF F w0 l B q (gr0 F x y) [] lk_).ov = false by assumption] at B5; exact B5
         · skip
           have h5d := dF h5
           refine wp_exit ?_
           refine then_exit ?_
           refine then_exit ?_
           refine block_exit ?_
           refine then_normal ?_
           refine wsr ?_
           refine wbsl 0 #[] slt__int64 ?_
           intro g11 w19 B11 E15 hg_
           have q_g1_g11 := Nat.ne_of_lt (Nat.lt_of_lt_of_le B1.lt hg_)
           have q_g2_g11 := Nat.ne_of_lt (Nat.lt_of_lt_of_le B2.lt hg_)
           have q_g5_g11 := Nat.ne_of_lt (Nat.lt_of_lt_of_le B5.lt hg_)
           have q_g6_g11 := Nat.ne_of_lt (Nat.lt_of_lt_of_le B6.lt hg_)
           have q_g7_g11 := Nat.ne_of_lt (Nat.lt_of_lt_of_le B7.lt hg_)
           have lo_g11 := Nat.le_trans (HL2).size hg_
           have S7 : SlI #[] 0 0 .i64 [] := SlI.nil
           refine wv (.slice (some ⟨g11, 0, none⟩) 0 0) ?_
           refine wv (.int .i64 0) ?_
           refine wv (.int .i64 6) ?_
           refine wpList_nil (then_normal ?_)
           refine wp_ret ?_
           refine ret3 (.slice (some ⟨g11, 0, none⟩) 0 0) (.int .i64 0) (.int .i64 6) rfl ?_ ?_ ?_ rfl ?_
           · exact resT (by kernel_rfl)
           · exact resT (by kernel_rfl)
           · exact resT (by kernel_rfl)
           have H14 := HL2.trans E15
           have ec_ : (6 : Int) = fwK F w0 l B x y := (fwK_t (fwS_0 (by assumption) (by first | assumption | contradiction)) (fwI_e hI (by omega))).symm
           have en_ : fwK F w0 l B x y ≠ 0 := by rw [← ec_]; decide
           rw [ec_]
           exact .inr ⟨en_, g11, 0, 0, #[], rfl, B11, S7, H14, lo_g11⟩
 · skip
   refine wbl 26 false h1 ?_
   have h1d := eF h1
   refine wsk ?_
   refine wsk ?_
   refine wsk ?_
   refine wv (.bool false) ?_
   refine wpList_nil (then_normal ?_)
   refine wcf ?_
   refine wp_skip ?_
   refine then_normal ?_
   refine wp_seq ?_
   refine wsr ?_
   refine wv (.int .i64 (code F (inB w0 1 1000 && inB l 1 1000))) ?_
   refine wv (.bool ((code F (inB w0 1 1000 && inB l 1 1000)) != 0)) ?_
   refine wpList_nil (then_normal ?_)
   refine wsplit ((code F (inB w0 1 1000 && inB l 1 1000)) != 0) (fun h8 => ?_) (fun h8 => ?_)
   · skip
     have h8d := nT h8
     refine wsr ?_
     replace B1 := B1.ext E3
     replace B2 := B2.ext E3
     refine wbsl 0 #[] slt__int64 ?_
     intro g12 w20 B12 E16 hg_
     have q_g1_g12 := Nat.ne_of_lt (Nat.lt_of_lt_of_le B1.lt hg_)
     have q_g2_g12 := Nat.ne_of_lt (Nat.lt_of_lt_of_le B2.lt hg_)
     have lo_g12 := Nat.le_trans (H2).size hg_
     have S8 : SlI #[] 0 0 .i64 [] := SlI.nil
     refine wv (.int .i64 (code F (inB w0 1 1000 && inB l 1 1000))) ?_
     refine wv (.slice (some ⟨g12, 0, none⟩) 0 0) ?_
     refine wv (.int .i64 0) ?_
     refine wv (.int .i64 (code F (inB w0 1 1000 && inB l 1 1000))) ?_
     refine wpList_nil (then_normal ?_)
     refine wp_ret ?_
     refine then_ret ?_
     refine ret3 (.slice (some ⟨g12, 0, none⟩) 0 0) (.int .i64 0) (.int .i64 (code F (inB w0 1 1000 && inB l 1 1000))) rfl ?_ ?_ ?_ rfl ?_
     · exact resT (by kernel_rfl)
     · exact resT (by kernel_rfl)
     · exact resT (by kernel_rfl)
     have H15 := H2.trans E16
     have ec_ : (code F (inB w0 1 1000 && inB l 1 1000) : Int) = fwK F w0 l B x y := fwS_1 (by assumption)
     have en_ : fwK F w0 l B x y ≠ 0 := by rw [← ec_]; assumption
     rw [ec_]
     exact .inr ⟨en_, g12, 0, 0, #[], rfl, B12, S8, H15, lo_g12⟩
   · skip
     have h8d := nF h8
     have h8o := (code_zero h8d).1
     have h8z := (code_zero h8d).2
     obtain ⟨h8za, h8zb⟩ := andT h8z
     have h8zad := inT h8za
     have h8zbd := inT h8zb
     refine wp_skip ?_
     refine then_normal ?_
     refine wsr ?_
     refine wv (.int .i64 B) ?_
     refine wv (.agg (srC (fun _ => (0, 0)) B 0 false)) ?_
     replace B1 := B1.ext E3
     replace B2 := B2.ext E3
     refine wbox (srC (fun _ => (0, 0)) B 0 false) ?_
     intro g13 w21 B13 E17 hg_
     have q_g1_g13 := Nat.ne_of_lt (Nat.lt_of_lt_of_le B1.lt hg_)
     have q_g2_g13 := Nat.ne_of_lt (Nat.lt_of_lt_of_le B2.lt hg_)
     have lo_g13 := Nat.le_trans (H2).size hg_
     refine wv (.pointer (some ⟨g13, 0, none⟩)) ?_
     refine wpList_nil (then_normal ?_)
     refine wp_seq ?_
     refine wsr ?_
     refine wv (.int .i64 0) ?_
     refine wpList_nil (then_normal ?_)
     refine wp_block ?_
     replace B1 := B1.ext E17
     replace B2 := B2.ext E17
     have H16 := H2.trans E17
     refine wp_loop_k (fun m3 a wl3 => ∃ (k : Nat), m3 = 100 - k ∧ k ≤ 100 ∧ Ext w wl3 ∧ Blk wl3 g1 32 F.cells ∧ Blk wl3 g2 43 #[.int .u64 x, .int .u64 y] ∧ Blk wl3 g13 60 (srC (vK F w0 l k) B 0 false) ∧ (∃ J3 : Nat → Value, a = ⟨#[.agg F.cells, .int .i64 w0, .int .i64 l, .agg #[.int .u64 x, .int .u64 y], .int .i64 B, .pointer (some ⟨g1, 0, none⟩), undef, undef, .pointer (some ⟨g2, 0, none⟩), undef, .slice none 0 0, .int .i64 0, .int .i64 0, .int .i64 (code F (inB w0 1 1000 && inB l 1 1000)), .pointer (some ⟨g13, 0, none⟩), .int .i64 (k : Int), undef, undef, undef, undef, undef, .int .i64 w0, .int .i64 l, .int .i64 (code F (inB w0 1 1000 && inB l 1 1000)), .int .i64 (code F (inB w0 1 1000 && inB l 1 1000)), .bool ((code F (inB w0 1 1000 && inB l 1 1000)) == 0), .bool false, undef, undef, undef, .bool false, .int .i64 (code F (inB w0 1 1000 && inB l 1 1000)), .bool ((code F (inB w0 1 1000 && inB l 1 1000)) != 0), undef, undef, .int .i64 B, .agg (srC (fun _ => (0, 0)) B 0 false), .pointer (some ⟨g13, 0, none⟩), J3 38, J3 39, J3 40, J3 41, J3 42, J3 43, J3 44, J3 45, J3 46, J3 47, J3 48, J3 49, J3 50, undef, undef, undef, undef, undef, undef, undef, undef, undef, undef, undef, undef, undef, undef, undef, undef, undef, undef, undef, undef, undef, undef, undef, undef, undef, undef, undef, undef, undef], []⟩)) (100) ?_ ?_
     · refine ⟨0, rfl, ?_, H16, B1, B2, ?_, exJ (by kernel_rfl)⟩
       · omega
       · rw [vK_0]; exact B13
     intro m3 a wl3 hI
     obtain ⟨k, rfl, hi_, HL3, B1, B2, B13, J3, rfl⟩ := hI
     refine wp_seq ?_
     refine wsr ?_
     refine wv (.int .i64 (k : Int)) ?_
     refine wv (.bool (decide ((k : Int) < 100))) ?_
     refine wpList_nil (then_normal ?_)
     refine wsplit (decide ((k : Int) < 100)) (fun h9 => ?_) (fun h9 => ?_)
     · skip
       have h9d := dT h9
       refine wp_skip ?_
       refine then_normal ?_
       refine wp_seq ?_
       refine wp_block ?_
       refine wp_frame (a' := ⟨#[.agg F.cells, .int .i64 w0, .int .i64 l, .agg #[.int .u64 x, .int .u64 y], .int .i64 B, .pointer (some ⟨g1, 0, none⟩), undef, undef, .pointer (some ⟨g2, 0, none⟩), undef, .slice none 0 0, .int .i64 0, .int .i64 0, .int .i64 (code F (inB w0 1 1000 && inB l 1 1000)), .pointer (some ⟨g13, 0, none⟩), .int .i64 (k : Int), undef, undef, undef, undef, undef, .int .i64 w0, .int .i64 l, .int .i64 (code F (inB w0 1 1000 && inB l 1 1000)), .int .i64 (code F (inB w0 1 1000 && inB l 1 1000)), .bool ((code F (inB w0 1 1000 && inB l 1 1000)) == 0), .bool false, undef, undef, undef, .bool false, .int .i64 (code F (inB w0 1 1000 && inB l 1 1000)), .bool ((code F (inB w0 1 1000 && inB l 1 1000)) != 0), undef, undef, .int .i64 B, .agg (srC (fun _ => (0, 0)) B 0 false), .pointer (some ⟨g13, 0, none⟩), .int .i64 (k : Int), .bool (decide ((k : Int) < 100)), J3 40, J3 41, J3 42, J3 43, J3 44, J3 45, J3 46, J3 47, J3 48, J3 49, J3 50, undef, undef, undef, undef, undef, undef, undef, undef, undef, undef, undef, undef, undef, undef, undef, undef, undef, undef, undef, undef, undef, undef, undef, undef, undef, undef, undef, undef, undef], []⟩) (by kernel_rfl) ?_
       refine region_go 9 [42, 43, 44, 45, 46, 47, 48, 49, 50] [[], [], [], [], [], [2, 3, 4], [0], [6], [7, 1]]
        (fun i_ => ([.val (.pointer (some ⟨g13, 0, none⟩)), .val (.int .i64 (k : Int)), .val (.int .i64 (k : Int)), .val (.int .i64 w0), .val (.int .i64 l), .val (.agg #[.int .u64 ((cvP F w0 l (k : Int)).1), .int .u64 ((cvP F w0 l (k : Int)).2)]), .val (.pointer (some ⟨g13, 0, none⟩)), .val (.pointer (some ⟨g13, 0, none⟩)), .val (.pointer (some ⟨g13, 0 + k * 2, none⟩))] : List Fct).getD i_ .any)
        (by kernel_rfl) (by kernel_rfl) (by decide) (by simp) rfl (all_succ (all_succ (all_succ (all_succ (all_succ (all_succ (all_succ (all_succ (all_succ all_zero ?_) ?_) ?_) ?_) ?_) ?_) ?_) ?_) ?_) ?_
       · refine step0 rfl rfl rfl (fun wr hw => ?_)
         exact OpRun.val (.pointer (some ⟨g13, 0, none⟩)) (.pointer (some ⟨g13, 0, none⟩)) (by kernel_rfl) rfl ⟨Ext.refl _, rfl⟩
       · refine step0 rfl rfl rfl (fun wr hw => ?_)
         exact OpRun.val (.int .i64 (k : Int)) (.int .i64 (k : Int)) (by kernel_rfl) rfl ⟨Ext.refl _, rfl⟩
       · refine step0 rfl rfl rfl (fun wr hw => ?_)
         exact OpRun.val (.int .i64 (k : Int)) (.int .i64 (k : Int)) (by kernel_rfl) rfl ⟨Ext.refl _, rfl⟩
       · refine step0 rfl rfl rfl (fun wr hw => ?_)
         exact OpRun.val (.int .i64 w0) (.int .i64 w0) (by kernel_rfl) rfl ⟨Ext.refl _, rfl⟩
       · refine step0 rfl rfl rfl (fun wr hw => ?_)
         exact OpRun.val (.int .i64 l) (.int .i64 l) (by kernel_rfl) rfl ⟨Ext.refl _, rfl⟩
       · refine step3 rfl rfl rfl rfl rfl rfl (fun u0 u1 u2 wr hw h0 h1 h2 => ?_)
         cases h0
         cases h1
         cases h2
         exact OpRun.call 26 #[.pointer (some ⟨g1, 0, none⟩), .int .i64 (k : Int), .int .i64 w0, .int .i64 l] (by kernel_rfl) ((l03Cover_all F hF g1 _ (k : Int) w0 l (by omega) (by omega) _ (B1.ext hw)).mono fun e w1 ⟨he, hb⟩ => ⟨_, he, hb, rfl⟩)
       · refine step1 rfl rfl rfl rfl (fun u0 wr hw h0 => ?_)
         cases h0
         exact OpRun.val (.pointer (some ⟨g13, 0, none⟩)) (.pointer (some ⟨g13, 0, none⟩)) (by kernel_rfl) rfl ⟨Ext.refl _, rfl⟩
       · refine step1 rfl rfl rfl rfl (fun u0 wr hw h0 => ?_)
         cases h0
         exact OpRun.val (.pointer (some ⟨g13, 0, none⟩)) (.pointer (some ⟨g13, 0, none⟩)) (by kernel_rfl) rfl ⟨Ext.refl _, rfl⟩
       · refine step2 rfl rfl rfl rfl rfl (fun u0 u1 wr hw h0 h1 => ?_)
         cases h0
         cases h1
         exact OpRun.ixm (i := k) (k := .i64) (g := g13) (off := 0) arrm__100_impl_Cells rfl (by kernel_rfl) (by kernel_rfl) (by omega) ⟨Ext.refl _, rfl⟩
       refine end9 (fun u0 u1 u2 u3 u4 u5 u6 u7 u8 w22 E18 f0 f1 f2 f3 f4 f5 f6 f7 f8 => ?_)
       cases f0
       cases f1
       cases f2
       cases f3
       cases f4
       cases f5
       cases f6
       cases f7
       cases f8
       replace B13 := B13.ext E18
       refine wpmid (n := 2) (0 + k * 2) #[.int .u64 ((cvP F w0 l (k : Int)).1), .int .u64 ((cvP F w0 l (k : Int)).2)] row_impl_Cells B13 rfl (by rw [srC_size]; omega) (by kernel_rfl) (srC_put (by omega) ((cvP F w0 l (k : Int)).1, (cvP F w0 l (k : Int)).2)) ?_
       intro w23 B13_ X5
       clear B13; have B13 := B13_; clear B13_
       refine wpList_nil (block_normal (then_normal ?_))
       refine wp_region_lit ?_
       refine wv (.int .i64 (k : Int)) ?_
       refine wi64 ((k : Int) + 1) ?_
       refine wv (.int .i64 ((k : Int) + 1)) ?_
       refine wpList_nil (then_normal ?_)
       replace B1 := X5.blk (B1.ext E18) q_g1_g13
       replace B2 := X5.blk (B2.ext E18) q_g2_g13
       have H17 := X5.ext w lo_g13 (HL3.trans E18)
       refine ⟨_, ?_, k + 1, rfl, ?_, H17, B1, B2, ?_, exJ (by kernel_rfl)⟩
       · omega
       · omega
       · rw [← vK_s]; exact B13
     · skip
       have h9d := dF h9
       refine wp_exit ?_
       refine then_exit ?_
       refine then_exit ?_
       refine block_exit ?_
       refine then_normal ?_
       refine wsr ?_
       refine wcli (l03Targets_any F hF g1 _ x y g2 _ _ B1 B2) ?_
       intro g14 cap3 cs3 w24 B14 S9 E19 hg_
       have q_g1_g14 := Nat.ne_of_lt (Nat.lt_of_lt_of_le B1.lt hg_)
       have q_g2_g14 := Nat.ne_of_lt (Nat.lt_of_lt_of_le B2.lt hg_)
       have q_g13_g14 := Nat.ne_of_lt (Nat.lt_of_lt_of_le B13.lt hg_)
       have lo_g14 := Nat.le_trans (HL3).size hg_
       have tl2 := tgL_length F x y 100
       refine wcl (sCellsOf_tg F x y hwx hwy g14 cap3 cs3 S9 _ B14) ?_
       intro w25 E20
       refine wv (.tuple #[.agg #[.int .u64 ((gr0 F x y).1), .int .u64 ((gr0 F x y).2)], .int .i64 (ofC (tgL F x y 100))]) ?_
       refine wv (.agg #[.int .u64 ((gr0 F x y).1), .int .u64 ((gr0 F x y).2)]) ?_
       refine wv (.int .i64 (ofC (tgL F x y 100))) ?_
       have H18 := (HL3.trans E19).trans E20
       replace B1 := (B1.ext E19).ext E20
       replace B2 := (B2.ext E19).ext E20
       replace B13 := (B13.ext E19).ext E20
       replace B14 := B14.ext E20
       refine wnew #[.int .u64 0, .int .u64 0] Try.zeroValue43 rfl ?_
       intro g15 w26 B15 E21 hg_
       have q_g1_g15 := Nat.ne_of_lt (Nat.lt_of_lt_of_le B1.lt hg_)
       have q_g2_g15 := Nat.ne_of_lt (Nat.lt_of_lt_of_le B2.lt hg_)
       have q_g13_g15 := Nat.ne_of_lt (Nat.lt_of_lt_of_le B13.lt hg_)
       have q_g14_g15 := Nat.ne_of_lt (Nat.lt_of_lt_of_le B14.lt hg_)
       have lo_g15 := Nat.le_trans (H18).size hg_
       refine wput #[.int .u64 ((gr0 F x y).1), .int .u64 ((gr0 F x y).2)] row_impl_Cells B15 (by rfl) (by rfl) (by kernel_rfl) ?_
       intro w27 B15_ X6
       clear B15; have B15 := B15_; clear B15_
       refine wv (.int .i64 (ofC (tgL F x y 100))) ?_
       refine wpList_nil (then_normal ?_)
       refine wp_seq ?_
       refine wsr ?_
       refine wv (.int .i64 0) ?_
       refine wpList_nil (then_normal ?_)
       refine wp_block ?_
       replace B13 := X6.blk (B13.ext E21) q_g13_g15
       replace B1 := X6.blk (B1.ext E21) q_g1_g15
       replace B2 := X6.blk (B2.ext E21) q_g2_g15
       replace B14 := X6.blk (B14.ext E21) q_g14_g15
       have H19 := X6.ext w lo_g15 (H18.trans E21)
       refine wp_loop_k (fun m4 a wl4 => ∃ (q : Nat) (lk_ : Int), m4 = 21 - q ∧ q ≤ 21 ∧ fwI F w0 l B x y q lk_ ∧ Ext w wl4 ∧ Blk wl4 g1 32 F.cells ∧ Blk wl4 g2 43 #[.int .u64 x, .int .u64 y] ∧ Blk wl4 g13 60 (srC (cvP F w0 l) B lk_ false) ∧ Blk wl4 g14 2 cs3 ∧ Blk wl4 g15 43 #[.int .u64 ((gr0 F x y).1), .int .u64 ((gr0 F x y).2)] ∧ (∃ J4 : Nat → Value, a = ⟨#[.agg F.cells, .int .i64 w0, .int .i64 l, .agg #[.int .u64 x, .int .u64 y], .int .i64 B, .pointer (some ⟨g1, 0, none⟩), undef, undef, .pointer (some ⟨g2, 0, none⟩), undef, J4 10, J4 11, J4 12, .int .i64 (code F (inB w0 1 1000 && inB l 1 1000)), .pointer (some ⟨g13, 0, none⟩), .int .i64 (k : Int), .pointer (some ⟨g15, 0, none⟩), .int .i64 (ofC (tgL F x y 100)), .int .i64 (q : Int), J4 19, J4 20, .int .i64 w0, .int .i64 l, .int .i64 (code F (inB w0 1 1000 && inB l 1 1000)), .int .i64 (code F (inB w0 1 1000 && inB l 1 1000)), .bool ((code F (inB w0 1 1000 && inB l 1 1000)) == 0), .bool false, undef, undef, undef, .bool false, .int .i64 (code F (inB w0 1 1000 && inB l 1 1000)), .bool ((code F (inB w0 1 1000 && inB l 1 1000)) != 0), undef, undef, .int .i64 B, .agg (srC (fun _ => (0, 0)) B 0 false), .pointer (some ⟨g13, 0, none⟩), .int .i64 (k : Int), .bool (decide ((k : Int) < 100)), J3 40, J3 41, J3 42, J3 43, J3 44, J3 45, J3 46, J3 47, J3 48, J3 49, J3 50, .tuple #[.agg #[.int .u64 ((gr0 F x y).1), .int .u64 ((gr0 F x y).2)], .int .i64 (ofC (tgL F x y 100))], .slice (some ⟨g14, 0, none⟩) ((tgL F x y 100).length) cap3, .tuple #[.agg #[.int .u64 ((gr0 F x y).1), .int .u64 ((gr0 F x y).2)], .int .i64 (ofC (tgL F x y 100))], .agg #[.int .u64 ((gr0 F x y).1), .int .u64 ((gr0 F x y).2)], .int .i64 (ofC (tgL F x y 100)), J4 56, J4 57, J4 58, J4 59, J4 60, J4 61, J4 62, J4 63, J4 64, J4 65, J4 66, J4 67, J4 68, J4 69, J4 70, J4 71, J4 72, J4 73, J4 74, J4 75, J4 76, J4 77, J4 78, undef], []⟩)) (21) ?_ ?_
       · refine ⟨0, 0, rfl, ?_, ?_, H19, B1, B2, ?_, B14, B15, exJ (by kernel_rfl)⟩
         · omega
         · exact fwI_0 (by omega)
         · rw [← vK_e (k := k) (by omega)]; exact B13
       intro m4 a wl4 hI
       obtain ⟨q, lk_, rfl, hi_, hI, HL4, B1, B2, B13, B14, B15, J4, rfl⟩ := hI
       refine wp_seq ?_
       refine wsr ?_
       refine wv (.int .i64 (q : Int)) ?_
       refine wv (.bool (decide ((q : Int) ≤ 20))) ?_
       refine wpList_nil (then_normal ?_)
       refine wsplit (decide ((q : Int) ≤ 20)) (fun h10 => ?_) (fun h10 => ?_)
       · skip
         have h10d := dT h10
         refine wp_skip ?_
         refine then_normal ?_
         refine wp_seq ?_
         refine wp_block ?_
         refine wsr ?_
         refine wv (.pointer (some ⟨g13, 0, none⟩)) ?_
         refine wrow row_impl_Cells B15 (by rfl) ?_
         refine wbsl 0 #[] slt__int64 ?_
         intro g16 w28 B16 E22 hg_
         have q_g1_g16 := Nat.ne_of_lt (Nat.lt_of_lt_of_le B1.lt hg_)
         have q_g2_g16 := Nat.ne_of_lt (Nat.lt_of_lt_of_le B2.lt hg_)
         have q_g13_g16 := Nat.ne_of_lt (Nat.lt_of_lt_of_le B13.lt hg_)
         have q_g14_g16 := Nat.ne_of_lt (Nat.lt_of_lt_of_le B14.lt hg_)
         have q_g15_g16 := Nat.ne_of_lt (Nat.lt_of_lt_of_le B15.lt hg_)
         have lo_g16 := Nat.le_trans (HL4).size hg_
         have S10 : SlI #[] 0 0 .i64 [] := SlI.nil
         refine wv (.int .i64 (q : Int)) ?_
         have H20 := HL4.trans E22
         refine split_bool ((seekF F w0 l B q (gr0 F x y) [] lk_).fd.isSome) (fun h11 => ?_) (fun h11 => ?_)
         · skip
           replace B13 := B13.ext E22
           replace B1 := B1.ext E22
           replace B2 := B2.ext E22
           replace B14 := B14.ext E22
           replace B15 := B15.ext E22
           refine wfdT (r := seekF F w0 l B q (gr0 F x y) [] lk_) (find_any F w0 l B (by omega) q _ g13 ((gr0 F x y).1) ((gr0 F x y).2) ([] : List Int) 0 g16 0 #[] (q : Int) lk_ rfl (gr0_ok hwx hwy) S10 (by omega) (Ne.symm q_g13_g16) hI.1 hI.2.1 B13 B16) h11 ?_
           intro g17 n3 cap4 cs4 w29 B13_ X7 B17 S11 n4 or2
           clear B13; have B13 := B13_; clear B13_
           have lo_g17 := Wr.lo or2 lo_g16 (H20).size
           refine wv (.tuple #[.slice (some ⟨g17, 0, none⟩) n3 cap4, .bool ((seekF F w0 l B q (gr0 F x y) [] lk_).fd.isSome)]) ?_
           refine wv (.slice (some ⟨g17, 0, none⟩) n3 cap4) ?_
           refine wv (.bool ((seekF F w0 l B q (gr0 F x y) [] lk_).fd.isSome)) ?_
           refine wbl 67 true h11 ?_
           refine wv (.slice (some ⟨g17, 0, none⟩) n3 cap4) ?_
           refine wv (.bool true) ?_
           refine wpList_nil (then_normal ?_)
           refine wp_seq ?_
           refine wsr ?_
           refine wv (.bool true) ?_
           refine wpList_nil (then_normal ?_)
           refine wct ?_
           refine wp_seq ?_
           refine wp_frame (a' := ⟨#[.agg F.cells, .int .i64 w0, .int .i64 l, .agg #[.int .u64 x, .int .u64 y], .int .i64 B, .pointer (some ⟨g1, 0, none⟩), undef, undef, .pointer (some ⟨g2, 0, none⟩), undef, J4 10, J4 11, J4 12, .int .i64 (code F (inB w0 1 1000 && inB l 1 1000)), .pointer (some ⟨g13, 0, none⟩), .int .i64 (k : Int), .pointer (some ⟨g15, 0, none⟩), .int .i64 (ofC (tgL F x y 100)), .int .i64 (q : Int), .slice (some ⟨g17, 0, none⟩) n3 cap4, .bool true, .int .i64 w0, .int .i64 l, .int .i64 (code F (inB w0 1 1000 && inB l 1 1000)), .int .i64 (code F (inB w0 1 1000 && inB l 1 1000)), .bool ((code F (inB w0 1 1000 && inB l 1 1000)) == 0), .bool false, undef, undef, undef, .bool false, .int .i64 (code F (inB w0 1 1000 && inB l 1 1000)), .bool ((code F (inB w0 1 1000 && inB l 1 1000)) != 0), undef, undef, .int .i64 B, .agg (srC (fun _ => (0, 0)) B 0 false), .pointer (some ⟨g13, 0, none⟩), .int .i64 (k : Int), .bool (decide ((k : Int) < 100)), J3 40, J3 41, J3 42, J3 43, J3 44, J3 45, J3 46, J3 47, J3 48, J3 49, J3 50, .tuple #[.agg #[.int .u64 ((gr0 F x y).1), .int .u64 ((gr0 F x y).2)], .int .i64 (ofC (tgL F x y 100))], .slice (some ⟨g14, 0, none⟩) ((tgL F x y 100).length) cap3, .tuple #[.agg #[.int .u64 ((gr0 F x y).1), .int .u64 ((gr0 F x y).2)], .int .i64 (ofC (tgL F x y 100))], .agg #[.int .u64 ((gr0 F x y).1), .int .u64 ((gr0 F x y).2)], .int .i64 (ofC (tgL F x y 100)), .int .i64 (q : Int), .bool (decide ((q : Int) ≤ 20)), J4 58, J4 59, .tuple #[.slice (some ⟨g17, 0, none⟩) n3 cap4, .bool ((seekF F w0 l B q (gr0 F x y) [] lk_).fd.isSome)], .pointer (some ⟨g13, 0, none⟩), .agg #[.int .u64 ((gr0 F x y).1), .int .u64 ((gr0 F x y).2)], .slice (some ⟨g16, 0, none⟩) 0 0, .int .i64 (q : Int), .tuple #[.slice (some ⟨g17, 0, none⟩) n3 cap4, .bool ((seekF F w0 l B q (gr0 F x y) [] lk_).fd.isSome)], .slice (some ⟨g17, 0, none⟩) n3 cap4, .bool true, .bool true, J4 69, J4 70, J4 71, J4 72, J4 73, J4 74, J4 75, J4 76, J4 77, J4 78, undef], []⟩) (by kernel_rfl) ?_
           refine region_go 8 [69, 70, 71, 72, 73, 10, 11, 12] [[], [], [1], [2], [3], [0], [4], []]
            (fun i_ => ([.val (.slice (some ⟨g17, 0, none⟩) n3 cap4), .val (.pointer (some ⟨g13, 0, none⟩)), .val (.pointer (some ⟨g13, 0, none⟩)), .val (.pointer (some ⟨g13, 201, none⟩)), .val (.int .i64 ((seekF F w0 l B q (gr0 F x y) [] lk_).lk)), .val (.slice (some ⟨g17, 0, none⟩) n3 cap4), .val (.int .i64 ((seekF F w0 l B q (gr0 F x y) [] lk_).lk)), .val (.int .i64 0)] : List Fct).getD i_ .any)
            (by kernel_rfl) (by kernel_rfl) (by decide) (by simp) rfl (all_succ (all_succ (all_succ (all_succ (all_succ (all_succ (all_succ (all_succ all_zero ?_) ?_) ?_) ?_) ?_) ?_) ?_) ?_) ?_
           · refine step0 rfl rfl rfl (fun wr hw => ?_)
             exact OpRun.val (.slice (some ⟨g17, 0, none⟩) n3 cap4) (.slice (some ⟨g17, 0, none⟩) n3 cap4) (by kernel_rfl) rfl ⟨Ext.refl _, rfl⟩
           · refine step0 rfl rfl rfl (fun wr hw => ?_)
             exact OpRun.val (.pointer (some ⟨g13, 0, none⟩)) (.pointer (some ⟨g13, 0, none⟩)) (by kernel_rfl) rfl ⟨Ext.refl _, rfl⟩
           · refine step1 rfl rfl rfl rfl (fun u0 wr hw h0 => ?_)
             cases h0
             exact OpRun.val (.pointer (some ⟨g13, 0, none⟩)) (.pointer (some ⟨g13, 0, none⟩)) (by kernel_rfl) rfl ⟨Ext.refl _, rfl⟩
           · refine step1 rfl rfl rfl rfl (fun u0 wr hw h0 => ?_)
             cases h0
             exact OpRun.val (.pointer (some ⟨g13, 201, none⟩)) (.pointer (some ⟨g13, 201, none⟩)) (by kernel_rfl) rfl ⟨Ext.refl _, rfl⟩
           · refine step1 rfl rfl rfl rfl (fun u0 wr hw h0 => ?_)
             cases h0
             exact OpRun.cell (g := g13) (off := 201) (v := .int .i64 ((seekF F w0 l B q (gr0 F x y) [] lk_).lk)) scal_int64 rfl (by kernel_rfl) ((B13.ext hw).get (srC_l)) ⟨Ext.refl _, rfl⟩
           · refine step1 rfl rfl rfl rfl (fun u0 wr hw h0 => ?_)
             cases h0
             exact OpRun.val (.slice (some ⟨g17, 0, none⟩) n3 cap4) (.slice (some ⟨g17, 0, none⟩) n3 cap4) (by kernel_rfl) rfl ⟨Ext.refl _, rfl⟩
           · refine step1 rfl rfl rfl rfl (fun u0 wr hw h0 => ?_)
             cases h0
             exact OpRun.val (.int .i64 ((seekF F w0 l B q (gr0 F x y) [] lk_).lk)) (.int .i64 ((seekF F w0 l B q (gr0 F x y) [] lk_).lk)) (by kernel_rfl) rfl ⟨Ext.refl _, rfl⟩
           · refine step0 rfl rfl rfl (fun wr hw => ?_)
             exact OpRun.val (.int .i64 0) (.int .i64 0) (by kernel_rfl) rfl ⟨Ext.refl _, rfl⟩
           refine end8 (fun u0 u1 u2 u3 u4 u5 u6 u7 w30 E23 f0 f1 f2 f3 f4 f5 f6 f7 => ?_)
           cases f0
           cases f1
           cases f2
           cases f3
           cases f4
           cases f5
           cases f6
           cases f7
           refine wpList_nil (then_normal ?_)
           refine wp_ret ?_
           refine then_ret (block_ret (then_ret (then_ret (block_ret (then_ret ?_)))))
           refine ret3 (.slice (some ⟨g17, 0, none⟩) n3 cap4) (.int .i64 ((seekF F w0 l B q (gr0 F x y) [] lk_).lk)) (.int .i64 0) rfl ?_ ?_ ?_ rfl ?_
           · exact resT (by kernel_rfl)
           · exact resT (by kernel_rfl)
           · exact resT (by kernel_rfl)
           have H21 := (X7.ext w lo_g13 H20).trans E23
           replace B17 := B17.ext E23
           have ht_ := fwI_f hI (by omega) (seek_ov (by assumption)) (by assumption)
           exact .inl ⟨fwK_t (fwS_0 (by assumption) (by first | assumption | contradiction)) ht_, g17, n3, cap4, cs4, congrArg (fun z_ => Ending.returned (.tuple #[_, .int .i64 z_, _])) (fwL_t ht_), B17, S11.of_eq (fwX_t ht_), H21, lo_g17⟩
         · skip
           replace B13 := B13.ext E22
           replace B1 := B1.ext E22
           replace B2 := B2.ext E22
           replace B14 := B14.ext E22
           replace B15 := B15.ext E22
           refine wfdF (r := seekF F w0 l B q (gr0 F x y) [] lk_) (find_any F w0 l B (by omega) q _ g13 ((gr0 F x y).1) ((gr0 F x y).2) ([] : List Int) 0 g16 0 #[] (q : Int) lk_ rfl (gr0_ok hwx hwy) S10 (by omega) (Ne.symm q_g13_g16) hI.1 hI.2.1 B13 B16) ?_
           intro u2 w31 B13_ X8
           clear B13; have B13 := B13_; clear B13_
           refine wv (.tuple #[u2, .bool ((seekF F w0 l B q (gr0 F x y) [] lk_).fd.isSome)]) ?_
           refine wv u2 ?_
           refine wv (.bool ((seekF F w0 l B q (gr0 F x y) [] lk_).fd.isSome)) ?_
           refine wbl 67 false h11 ?_
           refine wv u2 ?_
           refine wv (.bool false) ?_
           refine wpList_nil (then_normal ?_)
           refine wp_seq ?_
           refine wsr ?_
           refine wv (.bool false) ?_
           refine wpList_nil (then_normal ?_)
           refine wcf ?_
           refine wp_skip ?_
           refine then_normal ?_
           refine wsr ?_
           refine wv (.pointer (some ⟨g13, 0, none⟩)) ?_
           refine wv (.pointer (some ⟨g13, 0, none⟩)) ?_
           refine wv (.pointer (some ⟨g13, 202, none⟩)) ?_
           refine wld g13 (202) scal_bool (B13.get (srC_o)) ?_
           refine wpList_nil (then_normal ?_)
           have H22 := X8.ext w lo_g13 H20
           refine wsplit ((seekF F w0 l B q (gr0 F x y) [] lk_).ov) (fun h12 => ?_) (fun h12 => ?_)
           · skip
             refine wsr ?_
             replace B1 := X8.blk B1 q_g1_g13
             replace B2 := X8.blk B2 q_g2_g13
             replace B14 := X8.blk B14 (Ne.symm q_g13_g14)
             replace B15 := X8.blk B15 (Ne.symm q_g13_g15)
             replace B16 := X8.blk B16 (Ne.symm q_g13_g16)
             refine wbsl 0 #[] slt__int64 ?_
             intro g18 w32 B18 E24 hg_
             have q_g1_g18 := Nat.ne_of_lt (Nat.lt_of_lt_of_le B1.lt hg_)
             have q_g2_g18 := Nat.ne_of_lt (Nat.lt_of_lt_of_le B2.lt hg_)
             have q_g13_g18 := Nat.ne_of_lt (Nat.lt_of_lt_of_le B13.lt hg_)
             have q_g14_g18 := Nat.ne_of_lt (Nat.lt_of_lt_of_le B14.lt hg_)
             have q_g15_g18 := Nat.ne_of_lt (Nat.lt_of_lt_of_le B15.lt hg_)
             have q_g16_g18 := Nat.ne_of_lt (Nat.lt_of_lt_of_le B16.lt hg_)
             have lo_g18 := Nat.le_trans (H22).size hg_
             have S12 : SlI #[] 0 0 .i64 [] := SlI.nil
             refine wv (.slice (some ⟨g18, 0, none⟩) 0 0) ?_
             refine wv (.int .i64 0) ?_
             refine wv (.int .i64 7) ?_
             refine wpList_nil (then_normal ?_)
             refine wp_ret ?_
             refine block_ret (then_ret (then_ret (block_ret (then_ret ?_))))
             refine ret3 (.slice (some ⟨g18, 0, none⟩) 0 0) (.int .i64 0) (.int .i64 7) rfl ?_ ?_ ?_ rfl ?_
             · exact resT (by kernel_rfl)
             · exact resT (by kernel_rfl)
             · exact resT (by kernel_rfl)
             have H23 := H22.trans E24
             have ec_ : (7 : Int) = fwK F w0 l B x y := (fwK_t (fwS_0 (by assumption) (by first | assumption | contradiction)) (fwI_o hI (by omega) (by assumption))).symm
             have en_ : fwK F w0 l B x y ≠ 0 := by rw [← ec_]; decide
             rw [ec_]
             exact .inr ⟨en_, g18, 0, 0, #[], rfl, B18, S12, H23, lo_g18⟩
           · skip
             refine wp_skip ?_
             refine block_normal (then_normal ?_)
             refine wp_region_lit ?_
             refine wv (.int .i64 (q : Int)) ?_
             refine wi64 ((q : Int) + 1) ?_
             refine wv (.int .i64 ((q : Int) + 1)) ?_
             refine wpList_nil (then_normal ?_)
             replace B1 := X8.blk B1 q_g1_g13
             replace B2 := X8.blk B2 q_g2_g13
             replace B14 := X8.blk B14 (Ne.symm q_g13_g14)
             replace B15 := X8.blk B15 (Ne.symm q_g13_g15)
             refine ⟨_, ?_, q + 1, (seekF F w0 l B q (gr0 F x y) [] lk_).lk, rfl, ?_, ?_, H22, B1, B2, ?_, B14, B15, exJ (by kernel_rfl)⟩
             · omega
             · omega
             · exact fwI_s hI (by omega) (by assumption) (by assumption)
             · rw [show (seekF F w0 l B q (gr0 F x y) [] lk_).ov = false by assumption] at B13; exact B13
       · skip
         have h10d := dF h10
         refine wp_exit ?_
         refine then_exit ?_
         refine then_exit ?_
         refine block_exit ?_
         refine then_normal ?_
         refine wsr ?_
         refine wbsl 0 #[] slt__int64 ?_
         intro g19 w33 B19 E25 hg_
         have q_g1_g19 := Nat.ne_of_lt (Nat.lt_of_lt_of_le B1.lt hg_)
         have q_g2_g19 := Nat.ne_of_lt (Nat.lt_of_lt_of_le B2.lt hg_)
         have q_g13_g19 := Nat.ne_of_lt (Nat.lt_of_lt_of_le B13.lt hg_)
         have q_g14_g19 := Nat.ne_of_lt (Nat.lt_of_lt_of_le B14.lt hg_)
         have q_g15_g19 := Nat.ne_of_lt (Nat.lt_of_lt_of_le B15.lt hg_)
         have lo_g19 := Nat.le_trans (HL4).size hg_
         have S13 : SlI #[] 0 0 .i64 [] := SlI.nil
         refine wv (.slice (some ⟨g19, 0, none⟩) 0 0) ?_
         refine wv (.int .i64 0) ?_
         refine wv (.int .i64 6) ?_
         refine wpList_nil (then_normal ?_)
         refine wp_ret ?_
         refine ret3 (.slice (some ⟨g19, 0, none⟩) 0 0) (.int .i64 0) (.int .i64 6) rfl ?_ ?_ ?_ rfl ?_
         · exact resT (by kernel_rfl)
         · exact resT (by kernel_rfl)
         · exact resT (by kernel_rfl)
         have H24 := HL4.trans E25
         have ec_ : (6 : Int) = fwK F w0 l B x y := (fwK_t (fwS_0 (by assumption) (by first | assumption | contradiction)) (fwI_e hI (by omega))).symm
         have en_ : fwK F w0 l B x y ≠ 0 := by rw [← ec_]; decide
         rw [ec_]
         exact .inr ⟨en_, g19, 0, 0, #[], rfl, B19, S13, H24, lo_g19⟩


--# iFewestPlaces_t
theorem iFewestPlaces_t (F : Fld) (hF : F.wf) (w0 l x y B : Int) (hwx : wrd x) (hwy : wrd y) (w : World) (hz : fwK F w0 l B x y = 0) : Calls Try.prog 14 #[.agg F.cells, .int .i64 w0, .int .i64 l, .agg #[.int .u64 x, .int .u64 y], .int .i64 B] w (RetI w 2 .i64 (fwX F w0 l B x y) (fun v => .tuple #[v, .int .i64 (fwL F w0 l B x y), .int .i64 0])) := by
  refine (iFewestPlaces_any F hF w0 l x y B hwx hwy w).mono fun e w' h => ?_
  rcases h with ⟨_, h⟩ | ⟨h, _⟩
  · exact h
  · exact absurd hz h

--# iFewestPlaces_f
theorem iFewestPlaces_f (F : Fld) (hF : F.wf) (w0 l x y B : Int) (hwx : wrd x) (hwy : wrd y) (w : World) (hz : fwK F w0 l B x y ≠ 0) : Calls Try.prog 14 #[.agg F.cells, .int .i64 w0, .int .i64 l, .agg #[.int .u64 x, .int .u64 y], .int .i64 B] w fun e w' => e = .returned (.tuple #[.slice none 0 0, .int .i64 0, .int .i64 (fwK F w0 l B x y)]) ∧ Ext w w' := by
  refine (iFewestPlaces_any F hF w0 l x y B hwx hwy w).mono fun e w' h => ?_
  rcases h with ⟨h, _⟩ | ⟨_, h⟩
  · exact absurd h hz
  · exact h

--# sFewestPlaces_t
theorem sFewestPlaces_t (F : Fld) (hF : F.wf) (w0 l x y B : Int) (hwx : wrd x) (hwy : wrd y) (w : World) (hz : fwK F w0 l B x y = 0) : Calls Try.prog 12 #[.agg F.cells, .int .i64 w0, .int .i64 l, .agg #[.int .u64 x, .int .u64 y], .int .i64 B] w (RetI w 2 .i64 (fwX F w0 l B x y) (fun v => .tuple #[v, .int .i64 (fwL F w0 l B x y), .int .i64 0])) := by
  refine (sFewestPlaces_any F hF w0 l x y B hwx hwy w).mono fun e w' h => ?_
  rcases h with ⟨_, h⟩ | ⟨h, _⟩
  · exact h
  · exact absurd hz h

--# sFewestPlaces_f
theorem sFewestPlaces_f (F : Fld) (hF : F.wf) (w0 l x y B : Int) (hwx : wrd x) (hwy : wrd y) (w : World) (hz : fwK F w0 l B x y ≠ 0) : Calls Try.prog 12 #[.agg F.cells, .int .i64 w0, .int .i64 l, .agg #[.int .u64 x, .int .u64 y], .int .i64 B] w fun e w' => RetI w 2 .i64 [] (fun v => .tuple #[v, .int .i64 0, .int .i64 (fwK F w0 l B x y)]) e w' := by
  refine (sFewestPlaces_any F hF w0 l x y B hwx hwy w).mono fun e w' h => ?_
  rcases h with ⟨h, _⟩ | ⟨_, h⟩
  · exact absurd h hz
  · exact h
end Go.Proofs.Ytldlaohefgianaa
