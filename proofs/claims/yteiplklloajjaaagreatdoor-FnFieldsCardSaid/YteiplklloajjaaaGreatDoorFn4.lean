/-
  Contracts: sets and lists. No conditions.
-/
import Derived.Test.YteiplklloajjaaaGreatDoorTy
import Derived.Test.YteiplklloajjaaaGreatDoorSl
import Derived.Test.YteiplklloajjaaaGreatDoorMth
import Derived.Test.YteiplklloajjaaaGreatDoorFn3
namespace Go.Proofs.YteiplklloajjaaaGreatDoor
open Go.RowKit
set_option linter.unusedSimpArgs false
set_option linter.unusedVariables false
set_option maxHeartbeats 4000000
set_option maxRecDepth 100000
attribute [local irreducible] wpList Code.wp
--# cells_any
theorem cells_any (F : Fld) (hF : F.wf) (b : Nat) (t : TypeId) (w : World) (hb : Blk w b t F.cells) :
 Calls Tryz.prog 53 #[.pointer (some ⟨b, 0, none⟩)] w fun e w' => RetI w 2 .i64 (cellsL F) id e w' := by
 refine calls_of_wp Tryz.func53 rfl ?_
 refine wp_frame (a' := ⟨#[.pointer (some ⟨b, 0, none⟩), undef, undef, undef, undef, undef, undef, undef, undef, undef, undef, undef, undef, undef, undef, undef, undef, undef], []⟩) (by kernel_rfl) ?_
 refine wsr ?_
 refine wv (.slice none 0 0) ?_
 refine wpList_nil (then_normal ?_)
 refine wsr ?_
 refine wbsl 0 #[] slt__int64 ?_
 intro g1 w1 B1 E1 hg_
 have q_b_g1 := Nat.ne_of_lt (Nat.lt_of_lt_of_le hb.lt hg_)
 have lo_g1 := Nat.le_trans ((Ext.refl w)).size hg_
 have S1 : SlI #[] 0 0 .i64 [] := SlI.nil
 refine wv (.slice (some ⟨g1, 0, none⟩) 0 0) ?_
 refine wpList_nil (then_normal ?_)
 refine wp_seq ?_
 refine wsr ?_
 refine wv (.int .i64 0) ?_
 refine wpList_nil (then_normal ?_)
 refine wp_block ?_
 replace hb := hb.ext E1
 have H1 := (Ext.refl w).trans E1
 refine wp_loop_k (fun m1 a wl1 => ∃ (i : Nat) (go : Nat) (no : Nat) (capo : Nat) (cso : Array Value), m1 = 100 - i ∧ i ≤ 100 ∧ SlI cso no capo .i64 (cellsN F i) ∧ w.heap.size ≤ go ∧ b ≠ go ∧ Ext w wl1 ∧ Blk wl1 b t F.cells ∧ Blk wl1 go 2 cso ∧ (∃ J1 : Nat → Value, a = ⟨#[.pointer (some ⟨b, 0, none⟩), undef, .slice none 0 0, .slice (some ⟨go, 0, none⟩) no capo, J1 4, .slice (some ⟨g1, 0, none⟩) 0 0, .int .i64 (i : Int), J1 7, J1 8, J1 9, J1 10, J1 11, J1 12, J1 13, J1 14, J1 15, J1 16, undef], []⟩)) (100) ?_ ?_
 · refine ⟨0, g1, 0, 0, #[], rfl, ?_, ?_, ?_, ?_, H1, hb, B1, exJ (by kernel_rfl)⟩
   · omega
   · refine S1.of_eq ?_
     exact (cellsN_0 F).symm
   · exact lo_g1
   · exact q_b_g1
 intro m1 a wl1 hI
 obtain ⟨i, go, no, capo, cso, rfl, hi_, So, lo_go, n_b_go, HL1, hb, Bo, J1, rfl⟩ := hI
 have cl_ := cellsN_length F i
 have len_So := So.len
 refine wsr ?_
 refine wv (.bool (decide ((i : Int) < 100))) ?_
 refine wpList_nil (then_normal ?_)
 refine wp_seq ?_
 refine wsplit (decide ((i : Int) < 100)) (fun h1 => ?_) (fun h1 => ?_)
 · skip
   have h1d := dT h1
   refine wp_skip ?_
   refine then_normal ?_
   refine wp_seq ?_
   refine wp_block ?_
   refine wsr ?_
   refine wv (.int .i64 (i : Int)) ?_
   refine wv (.int .i64 (i : Int)) ?_
   refine wpList_nil (then_normal ?_)
   refine wsr ?_
   refine wv (.pointer (some ⟨b, 0, none⟩)) ?_
   refine wv (.int .i64 (i : Int)) ?_
   refine wcl (has_any F hF b _ (i : Int) _ hb) ?_
   intro w2 E2
   refine wpList_nil (then_normal ?_)
   have H2 := HL1.trans E2
   refine wsplit (isB F (i : Int)) (fun h2 => ?_) (fun h2 => ?_)
   · skip
     have h2d := isB_true.1 h2
     refine wp_region_lit ?_
     refine wv (.slice (some ⟨go, 0, none⟩) no capo) ?_
     refine wv (.int .i64 (i : Int)) ?_
     replace hb := hb.ext E2
     replace Bo := Bo.ext E2
     refine wbsl 1 #[.int .i64 (i : Int)] slt__int64 ?_
     intro g2 w3 B2 E3 hg_
     have q_b_g2 := Nat.ne_of_lt (Nat.lt_of_lt_of_le hb.lt hg_)
     have q_go_g2 := Nat.ne_of_lt (Nat.lt_of_lt_of_le Bo.lt hg_)
     have lo_g2 := Nat.le_trans (H2).size hg_
     replace hb := hb.ext E3
     replace Bo := Bo.ext E3
     have H3 := H2.trans E3
     refine wappi (i : Int) slt__int64 Bo So B2 ?_
     intro g3 cap1 cs1 w4 B3 S2 X1 or1
     have n_b_g3 := ne_app hb n_b_go or1
     have n_g2_g3 := ne_app B2 (Ne.symm q_go_g2) or1
     have lo_g3 := Wr.lo or1 lo_go (H3).size
     refine wv (.slice (some ⟨g3, 0, none⟩) (no + 1) cap1) ?_
     refine wpList_nil (block_normal (then_normal ?_))
     refine wp_region_lit ?_
     refine wi64 ((i : Int) + 1) ?_
     refine wv (.int .i64 ((i : Int) + 1)) ?_
     refine wpList_nil (then_normal ?_)
     replace hb := X1.blk hb n_b_go
     have H4 := X1.ext w lo_go H3
     refine ⟨_, ?_, i + 1, g3, no + 1, cap1, cs1, rfl, ?_, ?_, ?_, ?_, H4, hb, B3, exJ (by kernel_rfl)⟩
     · omega
     · omega
     · refine S2.of_eq ?_
       first | exact (cellsN_1 (by assumption)).symm | exact (cellsN_2 (by assumption)).symm
     · exact lo_g3
     · exact n_b_g3
   · skip
     refine wp_skip ?_
     refine block_normal (then_normal ?_)
     refine wp_region_lit ?_
     refine wi64 ((i : Int) + 1) ?_
     refine wv (.int .i64 ((i : Int) + 1)) ?_
     refine wpList_nil (then_normal ?_)
     replace hb := hb.ext E2
     replace Bo := Bo.ext E2
     refine ⟨_, ?_, i + 1, go, no, capo, cso, rfl, ?_, ?_, ?_, ?_, H2, hb, Bo, exJ (by kernel_rfl)⟩
     · omega
     · omega
     · refine So.of_eq ?_
       first | exact (cellsN_1 (by assumption)).symm | exact (cellsN_2 (by assumption)).symm
     · exact lo_go
     · exact n_b_go
 · skip
   have h1d := dF h1
   refine wp_exit ?_
   refine then_exit ?_
   refine then_exit ?_
   refine block_exit ?_
   refine then_normal ?_
   refine wsr ?_
   refine wv (.slice (some ⟨go, 0, none⟩) no capo) ?_
   refine wv (.slice (some ⟨go, 0, none⟩) no capo) ?_
   refine wpList_nil (then_normal ?_)
   refine wp_ret ?_
   refine ret1 (.slice (some ⟨go, 0, none⟩) no capo) rfl ?_ rfl ?_
   · exact resT (by kernel_rfl)
   have hq : cellsN F i = cellsL F := by
     exact cellsN_end (by omega) (by omega)
   exact ⟨go, no, capo, cso, rfl, Bo, So.of_eq hq, HL1, lo_go⟩


