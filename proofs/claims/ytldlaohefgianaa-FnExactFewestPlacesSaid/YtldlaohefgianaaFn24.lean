/-
  Contracts: the fewest places, the reference. No conditions.
-/
import Derived.Test.YtldlaohefgianaaTy
import Derived.Test.YtldlaohefgianaaSl
import Derived.Test.YtldlaohefgianaaMth
import Derived.Test.YtldlaohefgianaaSr
import Derived.Test.YtldlaohefgianaaFn23
namespace Go.Proofs.Ytldlaohefgianaa
open Go.RowKit
set_option linter.unusedSimpArgs false
set_option linter.unusedVariables false
set_option maxHeartbeats 4000000
set_option maxRecDepth 100000
attribute [local irreducible] wpList Code.wp
--# sctf
-- 29
theorem arrm__100_impl_Cells : ArrM Try.prog 58 100 2 := ⟨_, Try.underlying58, by kernel_rfl⟩

--# l01HasO_any
theorem l01HasO_any (x y : Int) (b off : Nat) (t : TypeId) (cs : Array Value) (hc0 : cs[off]? = some (.int .u64 x)) (hc1 : cs[off + 1]? = some (.int .u64 y)) (c : Int) (w : World) (hb : Blk w b t cs) :
 Calls Try.prog 47 #[.pointer (some ⟨b, off, none⟩), .int .i64 c] w fun e w' => e = .returned (.bool (hasB x y c)) ∧ Ext w w' := by
 refine calls_of_wp Try.func47 rfl ?_
 refine wp_frame (a' := ⟨#[.pointer (some ⟨b, off, none⟩), .int .i64 c, undef, undef, undef, undef, undef, undef, undef, undef, undef, undef, undef, undef, undef, undef, undef, undef, undef, undef, undef], []⟩) (by kernel_rfl) ?_
 refine wsr ?_
 refine wv (.bool false) ?_
 refine wpList_nil (then_normal ?_)
 refine wsr ?_
 refine wv (.int .i64 c) ?_
 refine wcl (l00In_any c 0 99 _) ?_
 intro w1 E1
 refine wv (.bool (inB c 0 99)) ?_
 refine split_bool (inB c 0 99) (fun h1 => ?_) (fun h1 => ?_)
 · skip
   refine wbl 7 true h1 ?_
   have h1d := inT h1
   refine wv (.pointer (some ⟨b, off, none⟩)) ?_
   refine wv (.int .i64 c) ?_
   refine wquo c 64 ?_
   refine wv (.pointer (some ⟨b, off, none⟩)) ?_
   refine wix b off (c / 64) .i64 arrt_impl_Cells ?_
   replace hb := hb.ext E1
   refine wld b (off + (c / 64).toNat) scal_uint64 (hb.get (wd_off hc0 hc1 (by omega))) ?_
   refine wv (.int .i64 c) ?_
   refine wrem c 64 ?_
   refine wu64 (c % 64) ?_
   refine wshr .u64 .u64 (wd x y c) (c % 64) ?_
   refine wv (.int .u64 (bits BinOp.and IntKind.u64 ((wd x y c) / 2 ^ (c % 64).toNat) 1)) ?_
   refine wv (.bool ((bits BinOp.and IntKind.u64 ((wd x y c) / 2 ^ (c % 64).toNat) 1) == 1)) ?_
   refine wv (.bool ((bits BinOp.and IntKind.u64 ((wd x y c) / 2 ^ (c % 64).toNat) 1) == 1)) ?_
   refine wv (.bool ((bits BinOp.and IntKind.u64 ((wd x y c) / 2 ^ (c % 64).toNat) 1) == 1)) ?_
   refine wpList_nil (then_normal ?_)
   refine wp_ret ?_
   have H1 := (Ext.refl w).trans E1
   refine ret1 (.bool (hasB x y c)) rfl ?_ rfl ?_
   · refine (resT (v := .bool ((bits BinOp.and IntKind.u64 ((wd x y c) / 2 ^ (c % 64).toNat) 1) == 1)) (by kernel_rfl)).trans ?_
     refine congrArg Value.bool ?_
     first | exact (hasB_out (by assumption)).symm | exact (hasB_in (by assumption)).symm
   exact ⟨rfl, H1⟩
 · skip
   refine wbl 7 false h1 ?_
   have h1d := inF h1
   refine wsk ?_
   refine wsk ?_
   refine wsk ?_
   refine wsk ?_
   refine wsk ?_
   refine wsk ?_
   refine wsk ?_
   refine wsk ?_
   refine wsk ?_
   refine wsk ?_
   refine wsk ?_
   refine wsk ?_
   refine wv (.bool false) ?_
   refine wv (.bool false) ?_
   refine wpList_nil (then_normal ?_)
   refine wp_ret ?_
   have H2 := (Ext.refl w).trans E1
   refine ret1 (.bool (hasB x y c)) rfl ?_ rfl ?_
   · refine (resT (v := .bool false) (by kernel_rfl)).trans ?_
     refine congrArg Value.bool ?_
     first | exact (hasB_out (by assumption)).symm | exact (hasB_in (by assumption)).symm
   exact ⟨rfl, H2⟩


--# fnp
-- 29
/-- The reference's search with m places more answers as told. -/
def FnP (F : Fld) (w0 l B : Int) (m : Nat) : Prop := ∀ (w : World) (b : Nat) (x y : Int) (o : List Int) (n gP cap : Nat) (cs : Array Value) (mo lk : Int), mo = (m : Int) → okP (x, y) → SlI cs n cap .i64 o → n + m ≤ 1000 → gP ≠ b → 0 ≤ lk → lk ≤ B →
  Blk w b 60 (srC (cvP F w0 l) B lk false) → Blk w gP 2 cs →
  Calls Try.prog 29 #[.pointer (some ⟨b, 0, none⟩), .agg #[.int .u64 x, .int .u64 y], .slice (some ⟨gP, 0, none⟩) n cap, .int .i64 mo] w (FnR w b 60 2 (cvP F w0 l) B gP (seekF F w0 l B m (x, y) o lk))

--# find_step
theorem find_step (F : Fld) (w0 l : Int) (B : Int) (m : Nat) (b : Nat) (lk : Int) (x y : Int) (o : List Int) (n gP cap : Nat) (cs : Array Value) (hS : SlI cs n cap .i64 o) (mo : Int) (hmo : mo = (m : Int)) (hok : okP (x, y)) (hn : n + m ≤ 1000) (hnP : gP ≠ b) (hl0 : 0 ≤ lk) (hlB : lk ≤ B) (hB : B ≤ 20000) (w : World) (hb : Blk w b 60 (srC (cvP F w0 l) B lk false)) (hbP : Blk w gP 2 cs) (IH : ∀ m', m' < m → FnP F w0 l B m') :
 Calls Try.prog 29 #[.pointer (some ⟨b, 0, none⟩), .agg #[.int .u64 x, .int .u64 y], .slice (some ⟨gP, 0, none⟩) n cap, .int .i64 mo] w fun e w' => FnR w b 60 2 (cvP F w0 l) B gP (seekF F w0 l B m (x, y) o lk) e w' := by
 have hn_ := hS.len
 have hm_ : ¬ mo = 0 → m ≠ 0 ∧ m - 1 < m ∧ mo - 1 = ((m - 1 : Nat) : Int) ∧ n + 1 + (m - 1) ≤ 1000 := fun h => by refine ⟨?_, ?_, ?_, ?_⟩ <;> omega
 have hm0_ : mo = 0 → m = 0 := fun h => by omega
 have hs_ : n ≤ 1048576 ∧ (n + 1 ≤ 9223372036854775807 ∧ (n + 1) * 8 ≤ 140737488355328) := by omega
 refine calls_of_wp Try.func29 rfl ?_
 refine wp_frame (a' := ⟨#[.pointer (some ⟨b, 0, none⟩), .agg #[.int .u64 x, .int .u64 y], .slice (some ⟨gP, 0, none⟩) n cap, .int .i64 mo, undef, undef, undef, undef, undef, undef, undef, undef, undef, undef, undef, undef, undef, undef, undef, undef, undef, undef, undef, undef, undef, undef, undef, undef, undef, undef, undef, undef, undef, undef, undef, undef, undef, undef, undef, undef, undef, undef, undef, undef, undef, undef, undef, undef, undef, undef, undef, undef, undef, undef, undef, undef, undef, undef, undef, undef, undef, undef, undef, undef, undef, undef, undef, undef, undef, undef, undef, undef, undef, undef, undef, undef, undef, undef, undef, undef, undef, undef, undef, undef, undef, undef, undef, undef, undef, undef, undef, undef], []⟩) (by kernel_rfl) ?_
 refine wsr ?_
 refine wbox #[.int .u64 x, .int .u64 y] ?_
 intro g1 w1 B1 E1 hg_
 have q_b_g1 := Nat.ne_of_lt (Nat.lt_of_lt_of_le hb.lt hg_)
 have q_gP_g1 := Nat.ne_of_lt (Nat.lt_of_lt_of_le hbP.lt hg_)
 have lo_g1 := Nat.le_trans ((Wr.of_ext (b := b) (Ext.refl w))).size hg_
 refine wv (.slice none 0 0) ?_
 refine wv (.bool false) ?_
 refine wpList_nil (then_normal ?_)
 refine wsr ?_
 refine wv (.int .i64 0) ?_
 refine wpList_nil (then_normal ?_)
 refine wp_seq ?_
 refine wp_block ?_
 replace hb := hb.ext E1
 replace hbP := hbP.ext E1
 have H1 := (Wr.of_ext (b := b) (Ext.refl w)).trans (Wr.of_ext E1)
 refine wp_loop_k (fun m1 a wl1 => ∃ (f_ : Nat), m1 = 100 - f_ ∧ f_ ≤ 100 ∧ (∀ j, j < f_ → hasB x y (j : Int) = false) ∧ Wr b w wl1 ∧ Blk wl1 b 60 (srC (cvP F w0 l) B lk false) ∧ Blk wl1 gP 2 cs ∧ Blk wl1 g1 43 #[.int .u64 x, .int .u64 y] ∧ (∃ J1 : Nat → Value, a = ⟨#[.pointer (some ⟨b, 0, none⟩), .agg #[.int .u64 x, .int .u64 y], .slice (some ⟨gP, 0, none⟩) n cap, .int .i64 mo, undef, .pointer (some ⟨g1, 0, none⟩), undef, undef, .slice none 0 0, .bool false, .int .i64 (f_ : Int), undef, undef, undef, J1 14, J1 15, J1 16, J1 17, J1 18, J1 19, J1 20, J1 21, J1 22, undef, undef, undef, undef, undef, undef, undef, undef, undef, undef, undef, undef, undef, undef, undef, undef, undef, undef, undef, undef, undef, undef, undef, undef, undef, undef, undef, undef, undef, undef, undef, undef, undef, undef, undef, undef, undef, undef, undef, undef, undef, undef, undef, undef, undef, undef, undef, undef, undef, undef, undef, undef, undef, undef, undef, undef, undef, undef, undef, undef, undef, undef, undef, undef, undef, undef, undef, undef, undef], []⟩)) (100) ?_ ?_
 · refine ⟨0, rfl, ?_, ?_, H1, hb, hbP, B1, exJ (by kernel_rfl)⟩
   · omega
   · intro j hj; omega
 intro m1 a wl1 hI
 obtain ⟨f_, rfl, hi_, hfa, HL1, hb, hbP, B1, J1, rfl⟩ := hI
 refine wp_seq ?_
 refine wsr ?_
 refine wv (.int .i64 (f_ : Int)) ?_
 refine wv (.bool (decide ((f_ : Int) < 100))) ?_
 refine wv (.bool (decide ((f_ : Int) < 100))) ?_
 refine split_bool (decide ((f_ : Int) < 100)) (fun h1 => ?_) (fun h1 => ?_)
 · skip
   refine wbl 16 true h1 ?_
   have h1d := dT h1
   refine wv (.int .i64 (f_ : Int)) ?_
   refine wcl (l01Has_any x y g1 _ (f_ : Int) _ B1) ?_
   intro w2 E2
   refine wv (.bool (!(hasB x y (f_ : Int)))) ?_
   refine wv (.bool (!(hasB x y (f_ : Int)))) ?_
   refine wpList_nil (then_normal ?_)
   have H2 := HL1.trans (Wr.of_ext E2)
   refine wsplit (!(hasB x y (f_ : Int))) (fun h2 => ?_) (fun h2 => ?_)
   · skip
     replace h2 := nbT h2
     refine wp_skip ?_
     refine then_normal ?_
     refine wp_block ?_
     refine wp_region_lit ?_
     refine wv (.int .i64 (f_ : Int)) ?_
     refine wi64 ((f_ : Int) + 1) ?_
     refine wv (.int .i64 ((f_ : Int) + 1)) ?_
     refine wpList_nil (block_normal (then_normal ?_))
     replace hb := hb.ext E2
     replace hbP := hbP.ext E2
     replace B1 := B1.ext E2
     refine ⟨_, ?_, f_ + 1, rfl, ?_, ?_, H2, hb, hbP, B1, exJ (by kernel_rfl)⟩
     · omega
     · omega
     · intro j hj
       rcases (by omega : j < f_ ∨ j = f_) with h_ | h_
       · exact hfa j h_
       · rw [h_]; assumption
   · skip
     replace h2 := nbF h2
     refine wp_exit ?_
     refine then_exit ?_
     refine then_exit ?_
     refine block_exit ?_
     refine then_normal ?_
     refine wp_seq ?_
     refine wsr ?_
     refine wv (.int .i64 (f_ : Int)) ?_
     refine wv (.bool ((f_ : Int) == 100)) ?_
     refine wpList_nil (then_normal ?_)
     refine wsplit ((f_ : Int) == 100) (fun h3 => ?_) (fun h3 => ?_)
     · skip
       have h3d := eT h3
       refine wsr ?_
       refine wv (.slice (some ⟨gP, 0, none⟩) n cap) ?_
       refine wv (.slice (some ⟨gP, 0, none⟩) n cap) ?_
       refine wv (.bool true) ?_
       refine wpList_nil (then_normal ?_)
       refine wp_ret ?_
       refine then_ret ?_
       refine ret2 (.slice (some ⟨gP, 0, none⟩) n cap) (.bool true) rfl ?_ ?_ rfl ?_
       · exact resT (by kernel_rfl)
       · exact resT (by kernel_rfl)
       replace hb := hb.ext E2
       replace hbP := hbP.ext E2
       exact FnR.yes (seek_e (fsC_none hok (fun j hj => hfa j (by omega)))) rfl rfl rfl rfl hb H2 hbP hS hnP (.inl rfl)
     · skip
       have h3d := eF h3
       refine wp_skip ?_
       refine then_normal ?_
       refine wp_seq ?_
       refine wsr ?_
       refine wv (.int .i64 mo) ?_
       refine wv (.bool (mo == 0)) ?_
       refine wpList_nil (then_normal ?_)
       refine wsplit (mo == 0) (fun h4 => ?_) (fun h4 => ?_)
       · skip
         have h4d := eT h4
         refine wsr ?_
         refine wv (.slice (some ⟨gP, 0, none⟩) n cap) ?_
         refine wv (.slice (some ⟨gP, 0, none⟩) n cap) ?_
         refine wv (.bool false) ?_
         refine wpList_nil (then_normal ?_)
         refine wp_ret ?_
         refine then_ret ?_
         refine ret2 (.slice (some ⟨gP, 0, none⟩) n cap) (.bool false) rfl ?_ ?_ rfl ?_
         · exact resT (by kernel_rfl)
         · exact resT (by kernel_rfl)
         replace hb := hb.ext E2
         exact FnR.no ((congrArg (fun m_ => seekF F w0 l B m_ (x, y) o lk) (hm0_ (by assumption))).trans (seek_0 (by first | exact (fs_ok hok (by omega) hfa (by assumption)).1 | (exfalso; omega)))) rfl rfl rfl rfl hb H2
       · skip
         have h4d := eF h4
         refine wp_skip ?_
         refine then_normal ?_
         refine wp_seq ?_
         refine wsr ?_
         refine wv (.int .i64 0) ?_
         refine wpList_nil (then_normal ?_)
         refine wp_block ?_
         replace hb := hb.ext E2
         replace hbP := hbP.ext E2
         replace B1 := B1.ext E2
         refine wp_loop_k (fun m2 a wl2 => ∃ (k_ : Nat) (lk_ : Int), m2 = 100 - k_ ∧ k_ ≤ 100 ∧ atF F w0 l B (m - 1) (x, y) o (cpN F k_) lk_ = seekF F w0 l B m (x, y) o lk ∧ 0 ≤ lk_ ∧ lk_ ≤ B ∧ fsC (x, y) = (f_ : Int) ∧ Wr b w wl2 ∧ Blk wl2 b 60 (srC (cvP F w0 l) B lk_ false) ∧ Blk wl2 gP 2 cs ∧ Blk wl2 g1 43 #[.int .u64 x, .int .u64 y] ∧ (∃ J2 : Nat → Value, a = ⟨#[.pointer (some ⟨b, 0, none⟩), .agg #[.int .u64 x, .int .u64 y], .slice (some ⟨gP, 0, none⟩) n cap, .int .i64 mo, undef, .pointer (some ⟨g1, 0, none⟩), undef, undef, J2 8, J2 9, .int .i64 (f_ : Int), .int .i64 (k_ : Int), J2 12, J2 13, .int .i64 (f_ : Int), .bool (decide ((f_ : Int) < 100)), .bool true, .int .i64 (f_ : Int), .bool (hasB x y (f_ : Int)), .bool (!(hasB x y (f_ : Int))), .bool (!(hasB x y (f_ : Int))), J1 21, J1 22, .int .i64 (f_ : Int), .bool ((f_ : Int) == 100), undef, .int .i64 mo, .bool (mo == 0), undef, J2 29, J2 30, J2 31, J2 32, J2 33, J2 34, J2 35, J2 36, J2 37, J2 38, J2 39, J2 40, J2 41, J2 42, J2 43, J2 44, J2 45, J2 46, J2 47, J2 48, J2 49, J2 50, J2 51, J2 52, J2 53, J2 54, J2 55, J2 56, J2 57, J2 58, J2 59, J2 60, J2 61, J2 62, J2 63, J2 64, J2 65, J2 66, J2 67, J2 68, J2 69, J2 70, J2 71, J2 72, J2 73, J2 74, J2 75, J2 76, J2 77, J2 78, J2 79, J2 80, J2 81, J2 82, J2 83, J2 84, J2 85, J2 86, J2 87, J2 88, J2 89, J2 90, undef], []⟩)) (100) ?_ ?_
         · refine ⟨0, lk, rfl, ?_, ?_, ?_, ?_, ?_, H2, hb, hbP, B1, exJ (by kernel_rfl)⟩
           · omega
           · rw [cpN_0]
             first | exact (seekf_t (fs_ok hok (by omega) hfa (by assumption)).1 (hm_ (by assumption)).1).symm | (exfalso; omega)
           · omega
           · omega
           · first | exact (fs_ok hok (by omega) hfa (by assumption)).2 | (exfalso; omega)
         intro m2 a wl2 hI
         obtain ⟨k_, lk_, rfl, hi_, hI, hk0, hkB, hf_, HL2, hb, hbP, B1, J2, rfl⟩ := hI
         refine wp_seq ?_
         refine wsr ?_
         refine wv (.int .i64 (k_ : Int)) ?_
         refine wv (.bool (decide ((k_ : Int) < 100))) ?_
         refine wpList_nil (then_normal ?_)
         refine wsplit (decide ((k_ : Int) < 100)) (fun h5 => ?_) (fun h5 => ?_)
         · skip
           have h5d := dT h5
           refine wp_skip ?_
           refine then_normal ?_
           refine wp_seq ?_
           refine wp_block ?_
           refine wp_seq ?_
           refine wsr ?_
           refine wv (.pointer (some ⟨b, 0, none⟩)) ?_
           refine wv (.int .i64 (k_ : Int)) ?_
           refine wv (.pointer (some ⟨b, 0, none⟩)) ?_
           refine wv (.pointer (some ⟨b, 0, none⟩)) ?_
           refine wixm (m := 2) b 0 k_ .i64 arrm__100_impl_Cells (by omega) ?_
           refine wv (.int .i64 (f_ : Int)) ?_
           refine wcl (l01HasO_any (((cvP F w0 l) (k_ : Int)).1) (((cvP F w0 l) (k_ : Int)).2) b (0 + k_ * 2) _ _ (srC_x (by omega)) (srC_y (by omega)) (f_ : Int) _ hb) ?_
           intro w3 E3
           refine wv (.bool (!(hasB (((cvP F w0 l) (k_ : Int)).1) (((cvP F w0 l) (k_ : Int)).2) (f_ : Int)))) ?_
           refine wpList_nil (then_normal ?_)
           have H3 := HL2.trans (Wr.of_ext E3)
           refine wsplit (!(hasB (((cvP F w0 l) (k_ : Int)).1) (((cvP F w0 l) (k_ : Int)).2) (f_ : Int))) (fun h6 => ?_) (fun h6 => ?_)
           · skip
             replace h6 := nbT h6
             refine wp_exit ?_
             refine then_exit ?_
             refine block_exit ?_
             refine then_normal ?_
             refine wp_region_lit ?_
             refine wv (.int .i64 (k_ : Int)) ?_
             refine wi64 ((k_ : Int) + 1) ?_
             refine wv (.int .i64 ((k_ : Int) + 1)) ?_
             refine wpList_nil (then_normal ?_)
             replace hb := hb.ext E3
             replace hbP := hbP.ext E3
             replace B1 := B1.ext E3
             refine ⟨_, ?_, k_ + 1, lk_, rfl, ?_, ?_, ?_, ?_, ?_, H3, ?_, hbP, B1, exJ (by kernel_rfl)⟩
             · omega
             · omega
             · first | exact (sp_skip hok hf_ (lt100 (by assumption)) (by assumption)).symm.trans hI | exact (sp_next hok hf_ (lt100 (by assumption)) (by assumption) (by assumption) (no_or (by assumption) (by assumption))).symm.trans hI
             · first | exact hk0 | exact (seek_lk (lk_nn hk0) (lk_up hkB (by assumption))).1
             · first | exact hkB | exact (seek_lk (lk_nn hk0) (lk_up hkB (by assumption))).2
             · exact hf_
             · first | exact hb | (rw [show (stF F w0 l B (m - 1) (x, y) o (k_ : Int) (lk_ + 1)).ov = false by assumption] at hb; exact hb)
           · skip
             replace h6 := nbF h6
             refine wp_skip ?_
             refine then_normal ?_
             refine wp_seq ?_
             refine wp_seq ?_
             refine wp_frame (a' := ⟨#[.pointer (some ⟨b, 0, none⟩), .agg #[.int .u64 x, .int .u64 y], .slice (some ⟨gP, 0, none⟩) n cap, .int .i64 mo, undef, .pointer (some ⟨g1, 0, none⟩), undef, undef, J2 8, J2 9, .int .i64 (f_ : Int), .int .i64 (k_ : Int), J2 12, J2 13, .int .i64 (f_ : Int), .bool (decide ((f_ : Int) < 100)), .bool true, .int .i64 (f_ : Int), .bool (hasB x y (f_ : Int)), .bool (!(hasB x y (f_ : Int))), .bool (!(hasB x y (f_ : Int))), J1 21, J1 22, .int .i64 (f_ : Int), .bool ((f_ : Int) == 100), undef, .int .i64 mo, .bool (mo == 0), undef, .int .i64 (k_ : Int), .bool (decide ((k_ : Int) < 100)), J2 31, J2 32, .pointer (some ⟨b, 0, none⟩), .int .i64 (k_ : Int), .pointer (some ⟨b, 0, none⟩), .pointer (some ⟨b, 0, none⟩), .pointer (some ⟨b, 0 + k_ * 2, none⟩), .int .i64 (f_ : Int), .bool (hasB (((cvP F w0 l) (k_ : Int)).1) (((cvP F w0 l) (k_ : Int)).2) (f_ : Int)), .bool (!(hasB (((cvP F w0 l) (k_ : Int)).1) (((cvP F w0 l) (k_ : Int)).2) (f_ : Int))), J2 41, J2 42, J2 43, J2 44, J2 45, J2 46, J2 47, J2 48, J2 49, J2 50, J2 51, J2 52, J2 53, J2 54, J2 55, J2 56, J2 57, J2 58, J2 59, J2 60, J2 61, J2 62, J2 63, J2 64, J2 65, J2 66, J2 67, J2 68, J2 69, J2 70, J2 71, J2 72, J2 73, J2 74, J2 75, J2 76, J2 77, J2 78, J2 79, J2 80, J2 81, J2 82, J2 83, J2 84, J2 85, J2 86, J2 87, J2 88, J2 89, J2 90, undef], []⟩) (by kernel_rfl) ?_
             replace hb := hb.ext E3
             refine region_go 9 [41, 42, 43, 44, 45, 46, 47, 48, 49] [[], [0], [1], [2], [], [4], [5], [6], [3, 7]]
              (fun i_ => ([.val (.pointer (some ⟨b, 0, none⟩)), .val (.pointer (some ⟨b, 0, none⟩)), .val (.pointer (some ⟨b, 201, none⟩)), .val (.int .i64 lk_), .val (.pointer (some ⟨b, 0, none⟩)), .val (.pointer (some ⟨b, 0, none⟩)), .val (.pointer (some ⟨b, 200, none⟩)), .val (.int .i64 B), .val (.bool (lk_ == B))] : List Fct).getD i_ .any)
              (by kernel_rfl) (by kernel_rfl) (by decide) (by simp) rfl (all_succ (all_succ (all_succ (all_succ (all_succ (all_succ (all_succ (all_succ (all_succ all_zero ?_) ?_) ?_) ?_) ?_) ?_) ?_) ?_) ?_) ?_
             · refine step0 rfl rfl rfl (fun wr hw => ?_)
               exact OpRun.val (.pointer (some ⟨b, 0, none⟩)) (.pointer (some ⟨b, 0, none⟩)) (by kernel_rfl) rfl ⟨Ext.refl _, rfl⟩
             · refine step1 rfl rfl rfl rfl (fun u0 wr hw h0 => ?_)
               cases h0
               exact OpRun.val (.pointer (some ⟨b, 0, none⟩)) (.pointer (some ⟨b, 0, none⟩)) (by kernel_rfl) rfl ⟨Ext.refl _, rfl⟩
             · refine step1 rfl rfl rfl rfl (fun u0 wr hw h0 => ?_)
               cases h0
               exact OpRun.val (.pointer (some ⟨b, 201, none⟩)) (.pointer (some ⟨b, 201, none⟩)) (by kernel_rfl) rfl ⟨Ext.refl _, rfl⟩
             · refine step1 rfl rfl rfl rfl (fun u0 wr hw h0 => ?_)
               cases h0
               exact OpRun.cell (g := b) (off := 201) (v := .int .i64 lk_) scal_int64 rfl (by kernel_rfl) ((hb.ext hw).get (srC_l)) ⟨Ext.refl _, rfl⟩
             · refine step0 rfl rfl rfl (fun wr hw => ?_)
               exact OpRun.val (.pointer (some ⟨b, 0, none⟩)) (.pointer (some ⟨b, 0, none⟩)) (by kernel_rfl) rfl ⟨Ext.refl _, rfl⟩
             · refine step1 rfl rfl rfl rfl (fun u0 wr hw h0 => ?_)
               cases h0
               exact OpRun.val (.pointer (some ⟨b, 0, none⟩)) (.pointer (some ⟨b, 0, none⟩)) (by kernel_rfl) rfl ⟨Ext.refl _, rfl⟩
             · refine step1 rfl rfl rfl rfl (fun u0 wr hw h0 => ?_)
               cases h0
               exact OpRun.val (.pointer (some ⟨b, 200, none⟩)) (.pointer (some ⟨b, 200, none⟩)) (by kernel_rfl) rfl ⟨Ext.refl _, rfl⟩
             · refine step1 rfl rfl rfl rfl (fun u0 wr hw h0 => ?_)
               cases h0
               exact OpRun.cell (g := b) (off := 200) (v := .int .i64 B) scal_int64 rfl (by kernel_rfl) ((hb.ext hw).get (srC_B)) ⟨Ext.refl _, rfl⟩
             · refine step2 rfl rfl rfl rfl rfl (fun u0 u1 wr hw h0 h1 => ?_)
               cases h0
               cases h1
               exact OpRun.val (.bool (lk_ == B)) (.bool (lk_ == B)) (by kernel_rfl) rfl ⟨Ext.refl _, rfl⟩
             refine end9 (fun u0 u1 u2 u3 u4 u5 u6 u7 u8 w4 E4 f0 f1 f2 f3 f4 f5 f6 f7 f8 => ?_)
             cases f0
             cases f1
             cases f2
             cases f3
             cases f4
             cases f5
             cases f6
             cases f7
             cases f8
             refine wpList_nil (then_normal ?_)
             have H4 := H3.trans (Wr.of_ext E4)
             refine wsplit (lk_ == B) (fun h7 => ?_) (fun h7 => ?_)
             · skip
               have h7d := eT h7
               refine wsr ?_
               refine wv (.pointer (some ⟨b, 0, none⟩)) ?_
               refine wv (.pointer (some ⟨b, 0, none⟩)) ?_
               refine wv (.pointer (some ⟨b, 202, none⟩)) ?_
               replace hb := hb.ext E4
               refine wst b (202) (.bool true) scal_bool hb (srC_seto) (by rw [srC_size]; omega) ?_
               intro w5 hb_ X1
               clear hb; have hb := hb_; clear hb_
               refine wpList_nil (then_normal ?_)
               refine wsr ?_
               refine wv (.slice (some ⟨gP, 0, none⟩) n cap) ?_
               refine wv (.slice (some ⟨gP, 0, none⟩) n cap) ?_
               refine wv (.bool false) ?_
               refine wpList_nil (then_normal ?_)
               refine wp_ret ?_
               refine then_ret (block_ret (then_ret (then_ret (block_ret (then_ret ?_)))))
               refine ret2 (.slice (some ⟨gP, 0, none⟩) n cap) (.bool false) rfl ?_ ?_ rfl ?_
               · exact resT (by kernel_rfl)
               · exact resT (by kernel_rfl)
               have H5 := H4.trans X1
               exact FnR.no (hI.symm.trans (sp_over hok hf_ (lt100 (by assumption)) (by assumption) (by assumption))) rfl rfl rfl rfl hb H5
             · skip
               have h7d := eF h7
               refine wp_skip ?_
               refine then_normal ?_
               refine wsr ?_
               refine wv (.pointer (some ⟨b, 0, none⟩)) ?_
               refine wv (.pointer (some ⟨b, 0, none⟩)) ?_
               refine wv (.pointer (some ⟨b, 201, none⟩)) ?_
               replace hb := hb.ext E4
               refine wld b (201) scal_int64 (hb.get (srC_l)) ?_
               refine wi64 (lk_ + 1) ?_
               refine wv (.pointer (some ⟨b, 0, none⟩)) ?_
               refine wv (.pointer (some ⟨b, 201, none⟩)) ?_
               refine wst b (201) (.int .i64 (lk_ + 1)) scal_int64 hb (srC_setl) (by rw [srC_size]; omega) ?_
               intro w6 hb_ X2
               clear hb; have hb := hb_; clear hb_
               refine wpList_nil (then_normal ?_)
               refine wp_seq ?_
               have H6 := H4.trans X2
               refine split_bool ((stF F w0 l B (m - 1) (x, y) o (k_ : Int) (lk_ + 1)).fd.isSome) (fun h8 => ?_) (fun h8 => ?_)
               · skip
                 refine wp_frame (a' := ⟨#[.pointer (some ⟨b, 0, none⟩), .agg #[.int .u64 x, .int .u64 y], .slice (some ⟨gP, 0, none⟩) n cap, .int .i64 mo, undef, .pointer (some ⟨g1, 0, none⟩), undef, undef, J2 8, J2 9, .int .i64 (f_ : Int), .int .i64 (k_ : Int), J2 12, J2 13, .int .i64 (f_ : Int), .bool (decide ((f_ : Int) < 100)), .bool true, .int .i64 (f_ : Int), .bool (hasB x y (f_ : Int)), .bool (!(hasB x y (f_ : Int))), .bool (!(hasB x y (f_ : Int))), J1 21, J1 22, .int .i64 (f_ : Int), .bool ((f_ : Int) == 100), undef, .int .i64 mo, .bool (mo == 0), undef, .int .i64 (k_ : Int), .bool (decide ((k_ : Int) < 100)), J2 31, J2 32, .pointer (some ⟨b, 0, none⟩), .int .i64 (k_ : Int), .pointer (some ⟨b, 0, none⟩), .pointer (some ⟨b, 0, none⟩), .pointer (some ⟨b, 0 + k_ * 2, none⟩), .int .i64 (f_ : Int), .bool (hasB (((cvP F w0 l) (k_ : Int)).1) (((cvP F w0 l) (k_ : Int)).2) (f_ : Int)), .bool (!(hasB (((cvP F w0 l) (k_ : Int)).1) (((cvP F w0 l) (k_ : Int)).2) (f_ : Int))), .pointer (some ⟨b, 0, none⟩), .pointer (some ⟨b, 0, none⟩), .pointer (some ⟨b, 201, none⟩), .int .i64 lk_, .pointer (some ⟨b, 0, none⟩), .pointer (some ⟨b, 0, none⟩), .pointer (some ⟨b, 200, none⟩), .int .i64 B, .bool (lk_ == B), J2 50, J2 51, J2 52, J2 53, .pointer (some ⟨b, 0, none⟩), .pointer (some ⟨b, 0, none⟩), .pointer (some ⟨b, 201, none⟩), .int .i64 lk_, .int .i64 (lk_ + 1), .pointer (some ⟨b, 0, none⟩), .pointer (some ⟨b, 201, none⟩), J2 61, J2 62, J2 63, J2 64, J2 65, J2 66, J2 67, J2 68, J2 69, J2 70, J2 71, J2 72, J2 73, J2 74, J2 75, J2 76, J2 77, J2 78, J2 79, J2 80, J2 81, J2 82, J2 83, J2 84, J2 85, J2 86, J2 87, J2 88, J2 89, J2 90, undef], []⟩) (by kernel_rfl) ?_
                 replace B1 := X2.blk ((B1.ext E3).ext E4) (Ne.symm q_b_g1)
                 replace hbP := X2.blk ((hbP.ext E3).ext E4) (Ne.symm (Ne.symm hnP))
                 refine RT.region_goB 17 6 [62, 63, 64, 65, 66, 67, 68, 69, 70, 71, 72, 73, 74, 75, 76, 77, 78] [[], [], [], [], [2], [4], [5, 3], [6], [1, 7], [], [], [9, 10, 8], [], [12], [11, 13], [], [15]] (RlQ w6.heap.size 2 n (k_ : Int))
                  (fun i_ => ([.val (.pointer (some ⟨b, 0, none⟩)), .val (.agg #[.int .u64 x, .int .u64 y]), .val (.pointer (some ⟨b, 0, none⟩)), .val (.int .i64 (k_ : Int)), .val (.pointer (some ⟨b, 0, none⟩)), .val (.pointer (some ⟨b, 0, none⟩)), .val (.pointer (some ⟨b, 0 + k_ * 2, none⟩)), .val (.agg #[.int .u64 (((cvP F w0 l) (k_ : Int)).1), .int .u64 (((cvP F w0 l) (k_ : Int)).2)]), .val (.agg #[.int .u64 (wo0 x (((cvP F w0 l) (k_ : Int)).1)), .int .u64 (wo1 y (((cvP F w0 l) (k_ : Int)).2))]), (FqNil w6.heap.size 2 n (k_ : Int)), .val (.slice (some ⟨gP, 0, none⟩) n cap), (FqLst w6.heap.size 2 n (k_ : Int) o), .val (.int .i64 (k_ : Int)), (FqOne w6.heap.size 2 n (k_ : Int)), (FqApp w6.heap.size 2 n (k_ : Int) o hn_), .val (.int .i64 mo), .val (.int .i64 (mo - 1))] : List (RT.Fct (RlQ w6.heap.size 2 n (k_ : Int)))).getD i_ .any)
                  (by kernel_rfl) (by kernel_rfl) rfl (by decide) (by simp) RlQ.trans RlQ.drew rfl (all_succ (all_succ (all_succ (all_succ (all_succ (all_succ (all_succ (all_succ (all_succ (all_succ (all_succ (all_succ (all_succ (all_succ (all_succ (all_succ (all_succ all_zero ?_) ?_) ?_) ?_) ?_) ?_) ?_) ?_) ?_) ?_) ?_) ?_) ?_) ?_) ?_) ?_) ?_) ?_
                 · refine RT.step0 rfl rfl rfl (fun wr hw => ?_)
                   exact OpRun.val (.pointer (some ⟨b, 0, none⟩)) (.pointer (some ⟨b, 0, none⟩)) (by kernel_rfl) rfl ⟨RlQ.of_ext hw.bl.size (Ext.refl _), rfl⟩
                 · refine RT.step0 rfl rfl rfl (fun wr hw => ?_)
                   with_reducible refine OpRun.row (x := (.tmp 5)) row_impl_Cells (hw.blk B1 B1.lt) ?_ ?_ ?_ ?_
                   · rfl
                   · rfl
                   · kernel_rfl
                   · exact ⟨RlQ.of_ext hw.bl.size (Ext.refl _), rfl⟩
                 · refine RT.step0 rfl rfl rfl (fun wr hw => ?_)
                   exact OpRun.val (.pointer (some ⟨b, 0, none⟩)) (.pointer (some ⟨b, 0, none⟩)) (by kernel_rfl) rfl ⟨RlQ.of_ext hw.bl.size (Ext.refl _), rfl⟩
                 · refine RT.step0 rfl rfl rfl (fun wr hw => ?_)
                   exact OpRun.val (.int .i64 (k_ : Int)) (.int .i64 (k_ : Int)) (by kernel_rfl) rfl ⟨RlQ.of_ext hw.bl.size (Ext.refl _), rfl⟩
                 · refine RT.step1 rfl rfl rfl rfl (fun u0 wr hw h0 => ?_)
                   cases h0
                   exact OpRun.val (.pointer (some ⟨b, 0, none⟩)) (.pointer (some ⟨b, 0, none⟩)) (by kernel_rfl) rfl ⟨RlQ.of_ext hw.bl.size (Ext.refl _), rfl⟩
                 · refine RT.step1 rfl rfl rfl rfl (fun u0 wr hw h0 => ?_)
                   cases h0
                   exact OpRun.val (.pointer (some ⟨b, 0, none⟩)) (.pointer (some ⟨b, 0, none⟩)) (by kernel_rfl) rfl ⟨RlQ.of_ext hw.bl.size (Ext.refl _), rfl⟩
                 · refine RT.step2 rfl rfl rfl rfl rfl (fun u0 u1 wr hw h0 h1 => ?_)
                   cases h0
                   cases h1
                   exact OpRun.ixm (i := k_) (k := .i64) (g := b) (off := 0) arrm__100_impl_Cells rfl (by kernel_rfl) (by kernel_rfl) (by omega) ⟨RlQ.of_ext hw.bl.size (Ext.refl _), rfl⟩
                 · refine RT.step1 rfl rfl rfl rfl (fun u0 wr hw h0 => ?_)
                   cases h0
                   exact OpRun.mid (cs := [.int .u64 (((cvP F w0 l) (k_ : Int)).1), .int .u64 (((cvP F w0 l) (k_ : Int)).2)]) row_impl_Cells rfl (srC_range (hw.blk hb hb.lt) (by omega)) rfl (by kernel_rfl) ⟨RlQ.of_ext hw.bl.size (Ext.refl _), rfl⟩
                 · refine RT.step2 rfl rfl rfl rfl rfl (fun u0 u1 wr hw h0 h1 => ?_)
                   cases h0
                   cases h1
                   exact OpRun.call 48 #[.agg #[.int .u64 x, .int .u64 y], .agg #[.int .u64 (((cvP F w0 l) (k_ : Int)).1), .int .u64 (((cvP F w0 l) (k_ : Int)).2)]] (by kernel_rfl) ((sWithout_any x y (((cvP F w0 l) (k_ : Int)).1) (((cvP F w0 l) (k_ : Int)).2) (by first | assumption | exact okP.w2 hok | exact okP.w2 (cvP_ok _) | exact okP.w2 (setC_ok 100 (Nat.le_refl _))) (by first | assumption | exact okP.w2 hok | exact okP.w2 (cvP_ok _) | exact okP.w2 (setC_ok 100 (Nat.le_refl _))) _).mono fun e w1 ⟨he, hb⟩ => ⟨_, he, RlQ.of_ext hw.bl.size hb, rfl⟩)
                 · refine RT.step0 rfl rfl rfl (fun wr hw => ?_)
                   exact OpRun.bslice #[] slt__int64 rfl (by decide) (by kernel_rfl) ⟨RlQ.of_ext hw.bl.size ((Ext.refl _).alloc _), _, rfl, hw.bl.size, Blk.new _ _ _⟩
                 · refine RT.step0 rfl rfl rfl (fun wr hw => ?_)
                   exact OpRun.val (.slice (some ⟨gP, 0, none⟩) n cap) (.slice (some ⟨gP, 0, none⟩) n cap) (by kernel_rfl) rfl ⟨RlQ.of_ext hw.bl.size (Ext.refl _), rfl⟩
                 · refine RT.step3 rfl rfl rfl rfl rfl rfl (fun u0 u1 u2 wr hw h0 h1 h2 => ?_)
                   obtain ⟨g0_, rfl, hgn0, hbn0⟩ := h0
                   cases h1
                   cases h2
                   exact OpRun.mono (OpRun.app0 (B := w6.heap.size) slt__int64 rfl (by kernel_rfl) (by kernel_rfl) hbn0 hgn0 hw.bl.size (hw.blk hbP hbP.lt) hS ⟨(hs_).1, by decide⟩) (fun v_ w_ h_ => ⟨RlQ.of_ext hw.bl.size h_.1, h_.2⟩)
                 · refine RT.step0 rfl rfl rfl (fun wr hw => ?_)
                   exact OpRun.val (.int .i64 (k_ : Int)) (.int .i64 (k_ : Int)) (by kernel_rfl) rfl ⟨RlQ.of_ext hw.bl.size (Ext.refl _), rfl⟩
                 · refine RT.step1 rfl rfl rfl rfl (fun u0 wr hw h0 => ?_)
                   cases h0
                   exact OpRun.bslice #[.int .i64 (k_ : Int)] slt__int64 rfl (by decide) (by kernel_rfl) ⟨RlQ.of_ext hw.bl.size ((Ext.refl _).alloc _), _, rfl, hw.bl.size, Blk.new _ _ _⟩
                 · refine RT.step2 rfl rfl rfl rfl rfl (fun u0 u1 wr hw h0 h1 => ?_)
                   obtain ⟨g0_, cap0_, cs0_, rfl, hgn0, hbn0, hsn0⟩ := h0
                   obtain ⟨g1_, rfl, hgn1, hbn1⟩ := h1
                   exact OpRun.appQ slt__int64 rfl (by kernel_rfl) (by kernel_rfl) hgn0 hbn0 hsn0 hbn1 hn_ hw.bl.size (hs_).2
                 · refine RT.step0 rfl rfl rfl (fun wr hw => ?_)
                   exact OpRun.val (.int .i64 mo) (.int .i64 mo) (by kernel_rfl) rfl ⟨RlQ.of_ext hw.bl.size (Ext.refl _), rfl⟩
                 · refine RT.step1 rfl rfl rfl rfl (fun u0 wr hw h0 => ?_)
                   cases h0
                   exact OpRun.val (.int .i64 (IntKind.i64.wrap (mo - 1))) (.int .i64 (mo - 1)) (by kernel_rfl) (by exact congrArg _ (IntWalk.i64_in _ (by omega))) ⟨RlQ.of_ext hw.bl.size (Ext.refl _), rfl⟩
                 refine RT.endG17 (fun u0 u1 u2 u3 u4 u5 u6 u7 u8 u9 u10 u11 u12 u13 u14 u15 u16 w7 E5 f0 f1 f2 f3 f4 f5 f6 f7 f8 f9 f10 f11 f12 f13 f14 f15 f16 => ?_)
                 cases f0
                 cases f1
                 cases f2
                 cases f3
                 cases f4
                 cases f5
                 cases f6
                 cases f7
                 cases f8
                 obtain ⟨x9_, rfl, _, _⟩ := f9
                 cases f10
                 obtain ⟨x11_, y11_, _, rfl, _, _, _⟩ := f11
                 cases f12
                 obtain ⟨x13_, rfl, _, _⟩ := f13
                 obtain ⟨g2, cap1, cs1, rfl, hgA_, B2, S1⟩ := f14
                 cases f15
                 cases f16
                 have q_b_g2 := Nat.ne_of_lt (Nat.lt_of_lt_of_le hb.lt hgA_)
                 have q_gP_g2 := Nat.ne_of_lt (Nat.lt_of_lt_of_le hbP.lt hgA_)
                 have q_g1_g2 := Nat.ne_of_lt (Nat.lt_of_lt_of_le B1.lt hgA_)
                 have lo_g2 := Nat.le_trans (H6).size hgA_
                 have E6 : Ext w6 w7 := by unfold Ext; exact E5.bl
                 replace hb := hb.ext E6
                 replace hbP := hbP.ext E6
                 replace B1 := B1.ext E6
                 have H7 := H6.trans (Wr.of_ext E6)
                 refine RT.wpAny_frame (a' := ⟨#[.pointer (some ⟨b, 0, none⟩), .agg #[.int .u64 x, .int .u64 y], .slice (some ⟨gP, 0, none⟩) n cap, .int .i64 mo, undef, .pointer (some ⟨g1, 0, none⟩), undef, undef, J2 8, J2 9, .int .i64 (f_ : Int), .int .i64 (k_ : Int), J2 12, J2 13, .int .i64 (f_ : Int), .bool (decide ((f_ : Int) < 100)), .bool true, .int .i64 (f_ : Int), .bool (hasB x y (f_ : Int)), .bool (!(hasB x y (f_ : Int))), .bool (!(hasB x y (f_ : Int))), J1 21, J1 22, .int .i64 (f_ : Int), .bool ((f_ : Int) == 100), undef, .int .i64 mo, .bool (mo == 0), undef, .int .i64 (k_ : Int), .bool (decide ((k_ : Int) < 100)), J2 31, J2 32, .pointer (some ⟨b, 0, none⟩), .int .i64 (k_ : Int), .pointer (some ⟨b, 0, none⟩), .pointer (some ⟨b, 0, none⟩), .pointer (some ⟨b, 0 + k_ * 2, none⟩), .int .i64 (f_ : Int), .bool (hasB (((cvP F w0 l) (k_ : Int)).1) (((cvP F w0 l) (k_ : Int)).2) (f_ : Int)), .bool (!(hasB (((cvP F w0 l) (k_ : Int)).1) (((cvP F w0 l) (k_ : Int)).2) (f_ : Int))), .pointer (some ⟨b, 0, none⟩), .pointer (some ⟨b, 0, none⟩), .pointer (some ⟨b, 201, none⟩), .int .i64 lk_, .pointer (some ⟨b, 0, none⟩), .pointer (some ⟨b, 0, none⟩), .pointer (some ⟨b, 200, none⟩), .int .i64 B, .bool (lk_ == B), J2 50, J2 51, J2 52, J2 53, .pointer (some ⟨b, 0, none⟩), .pointer (some ⟨b, 0, none⟩), .pointer (some ⟨b, 201, none⟩), .int .i64 lk_, .int .i64 (lk_ + 1), .pointer (some ⟨b, 0, none⟩), .pointer (some ⟨b, 201, none⟩), J2 61, .pointer (some ⟨b, 0, none⟩), .agg #[.int .u64 x, .int .u64 y], .pointer (some ⟨b, 0, none⟩), .int .i64 (k_ : Int), .pointer (some ⟨b, 0, none⟩), .pointer (some ⟨b, 0, none⟩), .pointer (some ⟨b, 0 + k_ * 2, none⟩), .agg #[.int .u64 (((cvP F w0 l) (k_ : Int)).1), .int .u64 (((cvP F w0 l) (k_ : Int)).2)], .agg #[.int .u64 (wo0 x (((cvP F w0 l) (k_ : Int)).1)), .int .u64 (wo1 y (((cvP F w0 l) (k_ : Int)).2))], .slice (some ⟨x9_, 0, none⟩) 0 0, .slice (some ⟨gP, 0, none⟩) n cap, .slice (some ⟨x11_, 0, none⟩) n y11_, .int .i64 (k_ : Int), .slice (some ⟨x13_, 0, none⟩) 1 1, .slice (some ⟨g2, 0, none⟩) (n + 1) cap1, .int .i64 mo, .int .i64 (mo - 1), J2 79, J2 80, J2 81, J2 82, J2 83, J2 84, J2 85, J2 86, J2 87, J2 88, J2 89, J2 90, undef], []⟩) (L' := #[true, true, true, true, true, true, true, true, true, true, true, true, true, true, true, true, true, false, false, false, false, false, false]) (by kernel_rfl) (by kernel_rfl) ?_
                 refine RT.wpAny_one 17 _ (FnS w7 b 60 2 (cvP F w0 l) B g2 (stF F w0 l B (m - 1) (x, y) o (k_ : Int) (lk_ + 1))) rfl (by kernel_rfl) (by kernel_rfl) (OpRun.call 29 #[.pointer (some ⟨b, 0, none⟩), .agg #[.int .u64 (wo0 x (((cvP F w0 l) (k_ : Int)).1)), .int .u64 (wo1 y (((cvP F w0 l) (k_ : Int)).2))], .slice (some ⟨g2, 0, none⟩) (n + 1) cap1, .int .i64 (mo - 1)] (by kernel_rfl) (IH (m - 1) (hm_ (by assumption)).2.1 _ b (wo0 x (((cvP F w0 l) (k_ : Int)).1)) (wo1 y (((cvP F w0 l) (k_ : Int)).2)) (o ++ [(k_ : Int)]) (n + 1) g2 cap1 cs1 (mo - 1) (lk_ + 1) (hm_ (by assumption)).2.2.1 (wo_ok (s := (x, y)) hok (cvP_ok _)) S1 (hm_ (by assumption)).2.2.2 (Ne.symm q_b_g2) (lk_nn hk0) (lk_up hkB (by assumption)) hb B2)) (fun v_ w_ hR_ => ?_)
                 obtain ⟨g3, n1, cap2, cs2, rfl, hb_, X3, B3, S2, n2, or1⟩ := hR_.got h8
                 clear hR_
                 clear hb; have hb := hb_; clear hb_
                 refine fin_any (a' := ⟨#[.pointer (some ⟨b, 0, none⟩), .agg #[.int .u64 x, .int .u64 y], .slice (some ⟨gP, 0, none⟩) n cap, .int .i64 mo, undef, .pointer (some ⟨g1, 0, none⟩), undef, undef, J2 8, J2 9, .int .i64 (f_ : Int), .int .i64 (k_ : Int), .slice (some ⟨g3, 0, none⟩) n1 cap2, .bool (stF F w0 l B (m - 1) (x, y) o (k_ : Int) (lk_ + 1)).fd.isSome, .int .i64 (f_ : Int), .bool (decide ((f_ : Int) < 100)), .bool true, .int .i64 (f_ : Int), .bool (hasB x y (f_ : Int)), .bool (!(hasB x y (f_ : Int))), .bool (!(hasB x y (f_ : Int))), J1 21, J1 22, .int .i64 (f_ : Int), .bool ((f_ : Int) == 100), undef, .int .i64 mo, .bool (mo == 0), undef, .int .i64 (k_ : Int), .bool (decide ((k_ : Int) < 100)), J2 31, J2 32, .pointer (some ⟨b, 0, none⟩), .int .i64 (k_ : Int), .pointer (some ⟨b, 0, none⟩), .pointer (some ⟨b, 0, none⟩), .pointer (some ⟨b, 0 + k_ * 2, none⟩), .int .i64 (f_ : Int), .bool (hasB (((cvP F w0 l) (k_ : Int)).1) (((cvP F w0 l) (k_ : Int)).2) (f_ : Int)), .bool (!(hasB (((cvP F w0 l) (k_ : Int)).1) (((cvP F w0 l) (k_ : Int)).2) (f_ : Int))), .pointer (some ⟨b, 0, none⟩), .pointer (some ⟨b, 0, none⟩), .pointer (some ⟨b, 201, none⟩), .int .i64 lk_, .pointer (some ⟨b, 0, none⟩), .pointer (some ⟨b, 0, none⟩), .pointer (some ⟨b, 200, none⟩), .int .i64 B, .bool (lk_ == B), J2 50, J2 51, J2 52, J2 53, .pointer (some ⟨b, 0, none⟩), .pointer (some ⟨b, 0, none⟩), .pointer (some ⟨b, 201, none⟩), .int .i64 lk_, .int .i64 (lk_ + 1), .pointer (some ⟨b, 0, none⟩), .pointer (some ⟨b, 201, none⟩), .tuple #[.slice (some ⟨g3, 0, none⟩) n1 cap2, .bool (stF F w0 l B (m - 1) (x, y) o (k_ : Int) (lk_ + 1)).fd.isSome], .pointer (some ⟨b, 0, none⟩), .agg #[.int .u64 x, .int .u64 y], .pointer (some ⟨b, 0, none⟩), .int .i64 (k_ : Int), .pointer (some ⟨b, 0, none⟩), .pointer (some ⟨b, 0, none⟩), .pointer (some ⟨b, 0 + k_ * 2, none⟩), .agg #[.int .u64 (((cvP F w0 l) (k_ : Int)).1), .int .u64 (((cvP F w0 l) (k_ : Int)).2)], .agg #[.int .u64 (wo0 x (((cvP F w0 l) (k_ : Int)).1)), .int .u64 (wo1 y (((cvP F w0 l) (k_ : Int)).2))], .slice (some ⟨x9_, 0, none⟩) 0 0, .slice (some ⟨gP, 0, none⟩) n cap, .slice (some ⟨x11_, 0, none⟩) n y11_, .int .i64 (k_ : Int), .slice (some ⟨x13_, 0, none⟩) 1 1, .slice (some ⟨g2, 0, none⟩) (n + 1) cap1, .int .i64 mo, .int .i64 (mo - 1), .tuple #[.slice (some ⟨g3, 0, none⟩) n1 cap2, .bool (stF F w0 l B (m - 1) (x, y) o (k_ : Int) (lk_ + 1)).fd.isSome], .slice (some ⟨g3, 0, none⟩) n1 cap2, .bool (stF F w0 l B (m - 1) (x, y) o (k_ : Int) (lk_ + 1)).fd.isSome, J2 82, J2 83, J2 84, J2 85, J2 86, J2 87, J2 88, J2 89, J2 90, undef], []⟩) ?_ (fun hfin_ => ?_)
                 rotate_left
                 · refine RT.wpAny_frame (a' := ⟨#[.pointer (some ⟨b, 0, none⟩), .agg #[.int .u64 x, .int .u64 y], .slice (some ⟨gP, 0, none⟩) n cap, .int .i64 mo, undef, .pointer (some ⟨g1, 0, none⟩), undef, undef, J2 8, J2 9, .int .i64 (f_ : Int), .int .i64 (k_ : Int), J2 12, J2 13, .int .i64 (f_ : Int), .bool (decide ((f_ : Int) < 100)), .bool true, .int .i64 (f_ : Int), .bool (hasB x y (f_ : Int)), .bool (!(hasB x y (f_ : Int))), .bool (!(hasB x y (f_ : Int))), J1 21, J1 22, .int .i64 (f_ : Int), .bool ((f_ : Int) == 100), undef, .int .i64 mo, .bool (mo == 0), undef, .int .i64 (k_ : Int), .bool (decide ((k_ : Int) < 100)), J2 31, J2 32, .pointer (some ⟨b, 0, none⟩), .int .i64 (k_ : Int), .pointer (some ⟨b, 0, none⟩), .pointer (some ⟨b, 0, none⟩), .pointer (some ⟨b, 0 + k_ * 2, none⟩), .int .i64 (f_ : Int), .bool (hasB (((cvP F w0 l) (k_ : Int)).1) (((cvP F w0 l) (k_ : Int)).2) (f_ : Int)), .bool (!(hasB (((cvP F w0 l) (k_ : Int)).1) (((cvP F w0 l) (k_ : Int)).2) (f_ : Int))), .pointer (some ⟨b, 0, none⟩), .pointer (some ⟨b, 0, none⟩), .pointer (some ⟨b, 201, none⟩), .int .i64 lk_, .pointer (some ⟨b, 0, none⟩), .pointer (some ⟨b, 0, none⟩), .pointer (some ⟨b, 200, none⟩), .int .i64 B, .bool (lk_ == B), J2 50, J2 51, J2 52, J2 53, .pointer (some ⟨b, 0, none⟩), .pointer (some ⟨b, 0, none⟩), .pointer (some ⟨b, 201, none⟩), .int .i64 lk_, .int .i64 (lk_ + 1), .pointer (some ⟨b, 0, none⟩), .pointer (some ⟨b, 201, none⟩), J2 61, .pointer (some ⟨b, 0, none⟩), .agg #[.int .u64 x, .int .u64 y], .pointer (some ⟨b, 0, none⟩), .int .i64 (k_ : Int), .pointer (some ⟨b, 0, none⟩), .pointer (some ⟨b, 0, none⟩), .pointer (some ⟨b, 0 + k_ * 2, none⟩), .agg #[.int .u64 (((cvP F w0 l) (k_ : Int)).1), .int .u64 (((cvP F w0 l) (k_ : Int)).2)], .agg #[.int .u64 (wo0 x (((cvP F w0 l) (k_ : Int)).1)), .int .u64 (wo1 y (((cvP F w0 l) (k_ : Int)).2))], .slice (some ⟨x9_, 0, none⟩) 0 0, .slice (some ⟨gP, 0, none⟩) n cap, .slice (some ⟨x11_, 0, none⟩) n y11_, .int .i64 (k_ : Int), .slice (some ⟨x13_, 0, none⟩) 1 1, .slice (some ⟨g2, 0, none⟩) (n + 1) cap1, .int .i64 mo, .int .i64 (mo - 1), .tuple #[.slice (some ⟨g3, 0, none⟩) n1 cap2, .bool (stF F w0 l B (m - 1) (x, y) o (k_ : Int) (lk_ + 1)).fd.isSome], J2 80, J2 81, J2 82, J2 83, J2 84, J2 85, J2 86, J2 87, J2 88, J2 89, J2 90, undef], []⟩) (L' := #[true, true, true, true, true, true, true, true, true, true, true, true, true, true, true, true, true, true, false, false, false, false, false]) (by kernel_rfl) (by kernel_rfl) ?_
                   refine wpAny_p1 18 _ (.tuple #[.slice (some ⟨g3, 0, none⟩) n1 cap2, .bool (stF F w0 l B (m - 1) (x, y) o (k_ : Int) (lk_ + 1)).fd.isSome]) rfl (by kernel_rfl) (by kernel_rfl) (OpRun.val (.tuple #[.slice (some ⟨g3, 0, none⟩) n1 cap2, .bool (stF F w0 l B (m - 1) (x, y) o (k_ : Int) (lk_ + 1)).fd.isSome]) (.tuple #[.slice (some ⟨g3, 0, none⟩) n1 cap2, .bool (stF F w0 l B (m - 1) (x, y) o (k_ : Int) (lk_ + 1)).fd.isSome]) (by kernel_rfl) rfl ⟨rfl, rfl⟩) ?_
                   refine RT.wpAny_two 19 20 _ _ (.slice (some ⟨g3, 0, none⟩) n1 cap2) (.bool (stF F w0 l B (m - 1) (x, y) o (k_ : Int) (lk_ + 1)).fd.isSome) rfl rfl (by kernel_rfl) (by kernel_rfl) (by kernel_rfl) (OpRun.val (.slice (some ⟨g3, 0, none⟩) n1 cap2) (.slice (some ⟨g3, 0, none⟩) n1 cap2) (by kernel_rfl) rfl ⟨rfl, rfl⟩) (OpRun.val (.bool (stF F w0 l B (m - 1) (x, y) o (k_ : Int) (lk_ + 1)).fd.isSome) (.bool (stF F w0 l B (m - 1) (x, y) o (k_ : Int) (lk_ + 1)).fd.isSome) (by kernel_rfl) rfl ⟨rfl, rfl⟩) ?_ ?_
                   · refine RT.wpAny_two 20 21 _ _ (.bool (stF F w0 l B (m - 1) (x, y) o (k_ : Int) (lk_ + 1)).fd.isSome) (.slice (some ⟨g3, 0, none⟩) n1 cap2) rfl rfl (by kernel_rfl) (by kernel_rfl) (by kernel_rfl) (OpRun.val (.bool (stF F w0 l B (m - 1) (x, y) o (k_ : Int) (lk_ + 1)).fd.isSome) (.bool (stF F w0 l B (m - 1) (x, y) o (k_ : Int) (lk_ + 1)).fd.isSome) (by kernel_rfl) rfl ⟨rfl, rfl⟩) (OpRun.val (.slice (some ⟨g3, 0, none⟩) n1 cap2) (.slice (some ⟨g3, 0, none⟩) n1 cap2) (by kernel_rfl) rfl ⟨rfl, rfl⟩) ?_ ?_
                     · refine wpAny_p1 21 _ (.slice (some ⟨g3, 0, none⟩) n1 cap2) rfl (by kernel_rfl) (by kernel_rfl) (OpRun.val (.slice (some ⟨g3, 0, none⟩) n1 cap2) (.slice (some ⟨g3, 0, none⟩) n1 cap2) (by kernel_rfl) rfl ⟨rfl, rfl⟩) ?_
                       refine wpAny_p1 22 _ (.bool (stF F w0 l B (m - 1) (x, y) o (k_ : Int) (lk_ + 1)).fd.isSome) rfl (by kernel_rfl) (by kernel_rfl) (OpRun.val (.bool (stF F w0 l B (m - 1) (x, y) o (k_ : Int) (lk_ + 1)).fd.isSome) (.bool (stF F w0 l B (m - 1) (x, y) o (k_ : Int) (lk_ + 1)).fd.isSome) (by kernel_rfl) rfl ⟨rfl, rfl⟩) ?_
                       exact wpAny_fin (by kernel_rfl) (by kernel_rfl) hfin_
                     · refine wpAny_p1 20 _ (.bool (stF F w0 l B (m - 1) (x, y) o (k_ : Int) (lk_ + 1)).fd.isSome) rfl (by kernel_rfl) (by kernel_rfl) (OpRun.val (.bool (stF F w0 l B (m - 1) (x, y) o (k_ : Int) (lk_ + 1)).fd.isSome) (.bool (stF F w0 l B (m - 1) (x, y) o (k_ : Int) (lk_ + 1)).fd.isSome) (by kernel_rfl) rfl ⟨rfl, rfl⟩) ?_
                       refine wpAny_p1 22 _ (.bool (stF F w0 l B (m - 1) (x, y) o (k_ : Int) (lk_ + 1)).fd.isSome) rfl (by kernel_rfl) (by kernel_rfl) (OpRun.val (.bool (stF F w0 l B (m - 1) (x, y) o (k_ : Int) (lk_ + 1)).fd.isSome) (.bool (stF F w0 l B (m - 1) (x, y) o (k_ : Int) (lk_ + 1)).fd.isSome) (by kernel_rfl) rfl ⟨rfl, rfl⟩) ?_
                       exact wpAny_fin (by kernel_rfl) (by kernel_rfl) hfin_
                   · refine wpAny_p1 19 _ (.slice (some ⟨g3, 0, none⟩) n1 cap2) rfl (by kernel_rfl) (by kernel_rfl) (OpRun.val (.slice (some ⟨g3, 0, none⟩) n1 cap2) (.slice (some ⟨g3, 0, none⟩) n1 cap2) (by kernel_rfl) rfl ⟨rfl, rfl⟩) ?_
                     refine wpAny_p1 21 _ (.slice (some ⟨g3, 0, none⟩) n1 cap2) rfl (by kernel_rfl) (by kernel_rfl) (OpRun.val (.slice (some ⟨g3, 0, none⟩) n1 cap2) (.slice (some ⟨g3, 0, none⟩) n1 cap2) (by kernel_rfl) rfl ⟨rfl, rfl⟩) ?_
                     refine wpAny_p1 22 _ (.bool (stF F w0 l B (m - 1) (x, y) o (k_ : Int) (lk_ + 1)).fd.isSome) rfl (by kernel_rfl) (by kernel_rfl) (OpRun.val (.bool (stF F w0 l B (m - 1) (x, y) o (k_ : Int) (lk_ + 1)).fd.isSome) (.bool (stF F w0 l B (m - 1) (x, y) o (k_ : Int) (lk_ + 1)).fd.isSome) (by kernel_rfl) rfl ⟨rfl, rfl⟩) ?_
                     exact wpAny_fin (by kernel_rfl) (by kernel_rfl) hfin_
                 have lo_g3 := Wr.lo or1 lo_g2 (H7).size
                 refine then_normal ?_
                 refine wsr ?_
                 refine wv (.bool ((stF F w0 l B (m - 1) (x, y) o (k_ : Int) (lk_ + 1)).fd.isSome)) ?_
                 refine wbl 82 true h8 ?_
                 refine wv (.bool true) ?_
                 refine wsk ?_
                 refine wsk ?_
                 refine wsk ?_
                 refine wsk ?_
                 refine wv (.bool true) ?_
                 refine wpList_nil (then_normal ?_)
                 refine wct ?_
                 refine wsr ?_
                 refine wv (.slice (some ⟨g3, 0, none⟩) n1 cap2) ?_
                 refine wv (.bool ((stF F w0 l B (m - 1) (x, y) o (k_ : Int) (lk_ + 1)).fd.isSome)) ?_
                 refine wbl 90 true h8 ?_
                 refine wv (.slice (some ⟨g3, 0, none⟩) n1 cap2) ?_
                 refine wv (.bool true) ?_
                 refine wpList_nil (then_normal ?_)
                 refine wp_ret ?_
                 refine block_ret (then_ret (then_ret (block_ret (then_ret ?_))))
                 refine ret2 (.slice (some ⟨g3, 0, none⟩) n1 cap2) (.bool true) rfl ?_ ?_ rfl ?_
                 · exact resT (by kernel_rfl)
                 · exact resT (by kernel_rfl)
                 have H8 := H7.trans X3
                 exact FnR.yes (hI.symm.trans (sp_ret hok hf_ (lt100 (by assumption)) (by assumption) (by assumption) (.inl (by assumption)))) (fd_get (by assumption)) (by first | rfl | assumption) rfl rfl hb H8 B3 S2 n2 (.inr lo_g3)
               · skip
                 refine wp_frame (a' := ⟨#[.pointer (some ⟨b, 0, none⟩), .agg #[.int .u64 x, .int .u64 y], .slice (some ⟨gP, 0, none⟩) n cap, .int .i64 mo, undef, .pointer (some ⟨g1, 0, none⟩), undef, undef, J2 8, J2 9, .int .i64 (f_ : Int), .int .i64 (k_ : Int), J2 12, J2 13, .int .i64 (f_ : Int), .bool (decide ((f_ : Int) < 100)), .bool true, .int .i64 (f_ : Int), .bool (hasB x y (f_ : Int)), .bool (!(hasB x y (f_ : Int))), .bool (!(hasB x y (f_ : Int))), J1 21, J1 22, .int .i64 (f_ : Int), .bool ((f_ : Int) == 100), undef, .int .i64 mo, .bool (mo == 0), undef, .int .i64 (k_ : Int), .bool (decide ((k_ : Int) < 100)), J2 31, J2 32, .pointer (some ⟨b, 0, none⟩), .int .i64 (k_ : Int), .pointer (some ⟨b, 0, none⟩), .pointer (some ⟨b, 0, none⟩), .pointer (some ⟨b, 0 + k_ * 2, none⟩), .int .i64 (f_ : Int), .bool (hasB (((cvP F w0 l) (k_ : Int)).1) (((cvP F w0 l) (k_ : Int)).2) (f_ : Int)), .bool (!(hasB (((cvP F w0 l) (k_ : Int)).1) (((cvP F w0 l) (k_ : Int)).2) (f_ : Int))), .pointer (some ⟨b, 0, none⟩), .pointer (some ⟨b, 0, none⟩), .pointer (some ⟨b, 201, none⟩), .int .i64 lk_, .pointer (some ⟨b, 0, none⟩), .pointer (some ⟨b, 0, none⟩), .pointer (some ⟨b, 200, none⟩), .int .i64 B, .bool (lk_ == B), J2 50, J2 51, J2 52, J2 53, .pointer (some ⟨b, 0, none⟩), .pointer (some ⟨b, 0, none⟩), .pointer (some ⟨b, 201, none⟩), .int .i64 lk_, .int .i64 (lk_ + 1), .pointer (some ⟨b, 0, none⟩), .pointer (some ⟨b, 201, none⟩), J2 61, J2 62, J2 63, J2 64, J2 65, J2 66, J2 67, J2 68, J2 69, J2 70, J2 71, J2 72, J2 73, J2 74, J2 75, J2 76, J2 77, J2 78, J2 79, J2 80, J2 81, J2 82, J2 83, J2 84, J2 85, J2 86, J2 87, J2 88, J2 89, J2 90, undef], []⟩) (by kernel_rfl) ?_
                 replace B1 := X2.blk ((B1.ext E3).ext E4) (Ne.symm q_b_g1)
                 replace hbP := X2.blk ((hbP.ext E3).ext E4) (Ne.symm (Ne.symm hnP))
                 refine RT.region_goB 17 6 [62, 63, 64, 65, 66, 67, 68, 69, 70, 71, 72, 73, 74, 75, 76, 77, 78] [[], [], [], [], [2], [4], [5, 3], [6], [1, 7], [], [], [9, 10, 8], [], [12], [11, 13], [], [15]] (RlQ w6.heap.size 2 n (k_ : Int))
                  (fun i_ => ([.val (.pointer (some ⟨b, 0, none⟩)), .val (.agg #[.int .u64 x, .int .u64 y]), .val (.pointer (some ⟨b, 0, none⟩)), .val (.int .i64 (k_ : Int)), .val (.pointer (some ⟨b, 0, none⟩)), .val (.pointer (some ⟨b, 0, none⟩)), .val (.pointer (some ⟨b, 0 + k_ * 2, none⟩)), .val (.agg #[.int .u64 (((cvP F w0 l) (k_ : Int)).1), .int .u64 (((cvP F w0 l) (k_ : Int)).2)]), .val (.agg #[.int .u64 (wo0 x (((cvP F w0 l) (k_ : Int)).1)), .int .u64 (wo1 y (((cvP F w0 l) (k_ : Int)).2))]), (FqNil w6.heap.size 2 n (k_ : Int)), .val (.slice (some ⟨gP, 0, none⟩) n cap), (FqLst w6.heap.size 2 n (k_ : Int) o), .val (.int .i64 (k_ : Int)), (FqOne w6.heap.size 2 n (k_ : Int)), (FqApp w6.heap.size 2 n (k_ : Int) o hn_), .val (.int .i64 mo), .val (.int .i64 (mo - 1))] : List (RT.Fct (RlQ w6.heap.size 2 n (k_ : Int)))).getD i_ .any)
                  (by kernel_rfl) (by kernel_rfl) rfl (by decide) (by simp) RlQ.trans RlQ.drew rfl (all_succ (all_succ (all_succ (all_succ (all_succ (all_succ (all_succ (all_succ (all_succ (all_succ (all_succ (all_succ (all_succ (all_succ (all_succ (all_succ (all_succ all_zero ?_) ?_) ?_) ?_) ?_) ?_) ?_) ?_) ?_) ?_) ?_) ?_) ?_) ?_) ?_) ?_) ?_) ?_
                 · refine RT.step0 rfl rfl rfl (fun wr hw => ?_)
                   exact OpRun.val (.pointer (some ⟨b, 0, none⟩)) (.pointer (some ⟨b, 0, none⟩)) (by kernel_rfl) rfl ⟨RlQ.of_ext hw.bl.size (Ext.refl _), rfl⟩
                 · refine RT.step0 rfl rfl rfl (fun wr hw => ?_)
                   with_reducible refine OpRun.row (x := (.tmp 5)) row_impl_Cells (hw.blk B1 B1.lt) ?_ ?_ ?_ ?_
                   · rfl
                   · rfl
                   · kernel_rfl
                   · exact ⟨RlQ.of_ext hw.bl.size (Ext.refl _), rfl⟩
                 · refine RT.step0 rfl rfl rfl (fun wr hw => ?_)
                   exact OpRun.val (.pointer (some ⟨b, 0, none⟩)) (.pointer (some ⟨b, 0, none⟩)) (by kernel_rfl) rfl ⟨RlQ.of_ext hw.bl.size (Ext.refl _), rfl⟩
                 · refine RT.step0 rfl rfl rfl (fun wr hw => ?_)
                   exact OpRun.val (.int .i64 (k_ : Int)) (.int .i64 (k_ : Int)) (by kernel_rfl) rfl ⟨RlQ.of_ext hw.bl.size (Ext.refl _), rfl⟩
                 · refine RT.step1 rfl rfl rfl rfl (fun u0 wr hw h0 => ?_)
                   cases h0
                   exact OpRun.val (.pointer (some ⟨b, 0, none⟩)) (.pointer (some ⟨b, 0, none⟩)) (by kernel_rfl) rfl ⟨RlQ.of_ext hw.bl.size (Ext.refl _), rfl⟩
                 · refine RT.step1 rfl rfl rfl rfl (fun u0 wr hw h0 => ?_)
                   cases h0
                   exact OpRun.val (.pointer (some ⟨b, 0, none⟩)) (.pointer (some ⟨b, 0, none⟩)) (by kernel_rfl) rfl ⟨RlQ.of_ext hw.bl.size (Ext.refl _), rfl⟩
                 · refine RT.step2 rfl rfl rfl rfl rfl (fun u0 u1 wr hw h0 h1 => ?_)
                   cases h0
                   cases h1
                   exact OpRun.ixm (i := k_) (k := .i64) (g := b) (off := 0) arrm__100_impl_Cells rfl (by kernel_rfl) (by kernel_rfl) (by omega) ⟨RlQ.of_ext hw.bl.size (Ext.refl _), rfl⟩
                 · refine RT.step1 rfl rfl rfl rfl (fun u0 wr hw h0 => ?_)
                   cases h0
                   exact OpRun.mid (cs := [.int .u64 (((cvP F w0 l) (k_ : Int)).1), .int .u64 (((cvP F w0 l) (k_ : Int)).2)]) row_impl_Cells rfl (srC_range (hw.blk hb hb.lt) (by omega)) rfl (by kernel_rfl) ⟨RlQ.of_ext hw.bl.size (Ext.refl _), rfl⟩
                 · refine RT.step2 rfl rfl rfl rfl rfl (fun u0 u1 wr hw h0 h1 => ?_)
                   cases h0
                   cases h1
                   exact OpRun.call 48 #[.agg #[.int .u64 x, .int .u64 y], .agg #[.int .u64 (((cvP F w0 l) (k_ : Int)).1), .int .u64 (((cvP F w0 l) (k_ : Int)).2)]] (by kernel_rfl) ((sWithout_any x y (((cvP F w0 l) (k_ : Int)).1) (((cvP F w0 l) (k_ : Int)).2) (by first | assumption | exact okP.w2 hok | exact okP.w2 (cvP_ok _) | exact okP.w2 (setC_ok 100 (Nat.le_refl _))) (by first | assumption | exact okP.w2 hok | exact okP.w2 (cvP_ok _) | exact okP.w2 (setC_ok 100 (Nat.le_refl _))) _).mono fun e w1 ⟨he, hb⟩ => ⟨_, he, RlQ.of_ext hw.bl.size hb, rfl⟩)
                 · refine RT.step0 rfl rfl rfl (fun wr hw => ?_)
                   exact OpRun.bslice #[] slt__int64 rfl (by decide) (by kernel_rfl) ⟨RlQ.of_ext hw.bl.size ((Ext.refl _).alloc _), _, rfl, hw.bl.size, Blk.new _ _ _⟩
                 · refine RT.step0 rfl rfl rfl (fun wr hw => ?_)
                   exact OpRun.val (.slice (some ⟨gP, 0, none⟩) n cap) (.slice (some ⟨gP, 0, none⟩) n cap) (by kernel_rfl) rfl ⟨RlQ.of_ext hw.bl.size (Ext.refl _), rfl⟩
                 · refine RT.step3 rfl rfl rfl rfl rfl rfl (fun u0 u1 u2 wr hw h0 h1 h2 => ?_)
                   obtain ⟨g0_, rfl, hgn0, hbn0⟩ := h0
                   cases h1
                   cases h2
                   exact OpRun.mono (OpRun.app0 (B := w6.heap.size) slt__int64 rfl (by kernel_rfl) (by kernel_rfl) hbn0 hgn0 hw.bl.size (hw.blk hbP hbP.lt) hS ⟨(hs_).1, by decide⟩) (fun v_ w_ h_ => ⟨RlQ.of_ext hw.bl.size h_.1, h_.2⟩)
                 · refine RT.step0 rfl rfl rfl (fun wr hw => ?_)
                   exact OpRun.val (.int .i64 (k_ : Int)) (.int .i64 (k_ : Int)) (by kernel_rfl) rfl ⟨RlQ.of_ext hw.bl.size (Ext.refl _), rfl⟩
                 · refine RT.step1 rfl rfl rfl rfl (fun u0 wr hw h0 => ?_)
                   cases h0
                   exact OpRun.bslice #[.int .i64 (k_ : Int)] slt__int64 rfl (by decide) (by kernel_rfl) ⟨RlQ.of_ext hw.bl.size ((Ext.refl _).alloc _), _, rfl, hw.bl.size, Blk.new _ _ _⟩
                 · refine RT.step2 rfl rfl rfl rfl rfl (fun u0 u1 wr hw h0 h1 => ?_)
                   obtain ⟨g0_, cap0_, cs0_, rfl, hgn0, hbn0, hsn0⟩ := h0
                   obtain ⟨g1_, rfl, hgn1, hbn1⟩ := h1
                   exact OpRun.appQ slt__int64 rfl (by kernel_rfl) (by kernel_rfl) hgn0 hbn0 hsn0 hbn1 hn_ hw.bl.size (hs_).2
                 · refine RT.step0 rfl rfl rfl (fun wr hw => ?_)
                   exact OpRun.val (.int .i64 mo) (.int .i64 mo) (by kernel_rfl) rfl ⟨RlQ.of_ext hw.bl.size (Ext.refl _), rfl⟩
                 · refine RT.step1 rfl rfl rfl rfl (fun u0 wr hw h0 => ?_)
                   cases h0
                   exact OpRun.val (.int .i64 (IntKind.i64.wrap (mo - 1))) (.int .i64 (mo - 1)) (by kernel_rfl) (by exact congrArg _ (IntWalk.i64_in _ (by omega))) ⟨RlQ.of_ext hw.bl.size (Ext.refl _), rfl⟩
                 refine RT.endG17 (fun u0 u1 u2 u3 u4 u5 u6 u7 u8 u9 u10 u11 u12 u13 u14 u15 u16 w9 E7 f0 f1 f2 f3 f4 f5 f6 f7 f8 f9 f10 f11 f12 f13 f14 f15 f16 => ?_)
                 cases f0
                 cases f1
                 cases f2
                 cases f3
                 cases f4
                 cases f5
                 cases f6
                 cases f7
                 cases f8
                 obtain ⟨x9_, rfl, _, _⟩ := f9
                 cases f10
                 obtain ⟨x11_, y11_, _, rfl, _, _, _⟩ := f11
                 cases f12
                 obtain ⟨x13_, rfl, _, _⟩ := f13
                 obtain ⟨g4, cap3, cs3, rfl, hgA_, B4, S3⟩ := f14
                 cases f15
                 cases f16
                 have q_b_g4 := Nat.ne_of_lt (Nat.lt_of_lt_of_le hb.lt hgA_)
                 have q_gP_g4 := Nat.ne_of_lt (Nat.lt_of_lt_of_le hbP.lt hgA_)
                 have q_g1_g4 := Nat.ne_of_lt (Nat.lt_of_lt_of_le B1.lt hgA_)
                 have lo_g4 := Nat.le_trans (H6).size hgA_
                 have E8 : Ext w6 w9 := by unfold Ext; exact E7.bl
                 replace hb := hb.ext E8
                 replace hbP := hbP.ext E8
                 replace B1 := B1.ext E8
                 have H9 := H6.trans (Wr.of_ext E8)
                 refine RT.wpAny_frame (a' := ⟨#[.pointer (some ⟨b, 0, none⟩), .agg #[.int .u64 x, .int .u64 y], .slice (some ⟨gP, 0, none⟩) n cap, .int .i64 mo, undef, .pointer (some ⟨g1, 0, none⟩), undef, undef, J2 8, J2 9, .int .i64 (f_ : Int), .int .i64 (k_ : Int), J2 12, J2 13, .int .i64 (f_ : Int), .bool (decide ((f_ : Int) < 100)), .bool true, .int .i64 (f_ : Int), .bool (hasB x y (f_ : Int)), .bool (!(hasB x y (f_ : Int))), .bool (!(hasB x y (f_ : Int))), J1 21, J1 22, .int .i64 (f_ : Int), .bool ((f_ : Int) == 100), undef, .int .i64 mo, .bool (mo == 0), undef, .int .i64 (k_ : Int), .bool (decide ((k_ : Int) < 100)), J2 31, J2 32, .pointer (some ⟨b, 0, none⟩), .int .i64 (k_ : Int), .pointer (some ⟨b, 0, none⟩), .pointer (some ⟨b, 0, none⟩), .pointer (some ⟨b, 0 + k_ * 2, none⟩), .int .i64 (f_ : Int), .bool (hasB (((cvP F w0 l) (k_ : Int)).1) (((cvP F w0 l) (k_ : Int)).2) (f_ : Int)), .bool (!(hasB (((cvP F w0 l) (k_ : Int)).1) (((cvP F w0 l) (k_ : Int)).2) (f_ : Int))), .pointer (some ⟨b, 0, none⟩), .pointer (some ⟨b, 0, none⟩), .pointer (some ⟨b, 201, none⟩), .int .i64 lk_, .pointer (some ⟨b, 0, none⟩), .pointer (some ⟨b, 0, none⟩), .pointer (some ⟨b, 200, none⟩), .int .i64 B, .bool (lk_ == B), J2 50, J2 51, J2 52, J2 53, .pointer (some ⟨b, 0, none⟩), .pointer (some ⟨b, 0, none⟩), .pointer (some ⟨b, 201, none⟩), .int .i64 lk_, .int .i64 (lk_ + 1), .pointer (some ⟨b, 0, none⟩), .pointer (some ⟨b, 201, none⟩), J2 61, .pointer (some ⟨b, 0, none⟩), .agg #[.int .u64 x, .int .u64 y], .pointer (some ⟨b, 0, none⟩), .int .i64 (k_ : Int), .pointer (some ⟨b, 0, none⟩), .pointer (some ⟨b, 0, none⟩), .pointer (some ⟨b, 0 + k_ * 2, none⟩), .agg #[.int .u64 (((cvP F w0 l) (k_ : Int)).1), .int .u64 (((cvP F w0 l) (k_ : Int)).2)], .agg #[.int .u64 (wo0 x (((cvP F w0 l) (k_ : Int)).1)), .int .u64 (wo1 y (((cvP F w0 l) (k_ : Int)).2))], .slice (some ⟨x9_, 0, none⟩) 0 0, .slice (some ⟨gP, 0, none⟩) n cap, .slice (some ⟨x11_, 0, none⟩) n y11_, .int .i64 (k_ : Int), .slice (some ⟨x13_, 0, none⟩) 1 1, .slice (some ⟨g4, 0, none⟩) (n + 1) cap3, .int .i64 mo, .int .i64 (mo - 1), J2 79, J2 80, J2 81, J2 82, J2 83, J2 84, J2 85, J2 86, J2 87, J2 88, J2 89, J2 90, undef], []⟩) (L' := #[true, true, true, true, true, true, true, true, true, true, true, true, true, true, true, true, true, false, false, false, false, false, false]) (by kernel_rfl) (by kernel_rfl) ?_
                 refine RT.wpAny_one 17 _ (FnS w9 b 60 2 (cvP F w0 l) B g4 (stF F w0 l B (m - 1) (x, y) o (k_ : Int) (lk_ + 1))) rfl (by kernel_rfl) (by kernel_rfl) (OpRun.call 29 #[.pointer (some ⟨b, 0, none⟩), .agg #[.int .u64 (wo0 x (((cvP F w0 l) (k_ : Int)).1)), .int .u64 (wo1 y (((cvP F w0 l) (k_ : Int)).2))], .slice (some ⟨g4, 0, none⟩) (n + 1) cap3, .int .i64 (mo - 1)] (by kernel_rfl) (IH (m - 1) (hm_ (by assumption)).2.1 _ b (wo0 x (((cvP F w0 l) (k_ : Int)).1)) (wo1 y (((cvP F w0 l) (k_ : Int)).2)) (o ++ [(k_ : Int)]) (n + 1) g4 cap3 cs3 (mo - 1) (lk_ + 1) (hm_ (by assumption)).2.2.1 (wo_ok (s := (x, y)) hok (cvP_ok _)) S3 (hm_ (by assumption)).2.2.2 (Ne.symm q_b_g4) (lk_nn hk0) (lk_up hkB (by assumption)) hb B4)) (fun v_ w_ hR_ => ?_)
                 obtain ⟨u1, rfl, hb_, X4⟩ := hR_.not
                 clear hR_
                 clear hb; have hb := hb_; clear hb_
                 refine fin_any (a' := ⟨#[.pointer (some ⟨b, 0, none⟩), .agg #[.int .u64 x, .int .u64 y], .slice (some ⟨gP, 0, none⟩) n cap, .int .i64 mo, undef, .pointer (some ⟨g1, 0, none⟩), undef, undef, J2 8, J2 9, .int .i64 (f_ : Int), .int .i64 (k_ : Int), u1, .bool (stF F w0 l B (m - 1) (x, y) o (k_ : Int) (lk_ + 1)).fd.isSome, .int .i64 (f_ : Int), .bool (decide ((f_ : Int) < 100)), .bool true, .int .i64 (f_ : Int), .bool (hasB x y (f_ : Int)), .bool (!(hasB x y (f_ : Int))), .bool (!(hasB x y (f_ : Int))), J1 21, J1 22, .int .i64 (f_ : Int), .bool ((f_ : Int) == 100), undef, .int .i64 mo, .bool (mo == 0), undef, .int .i64 (k_ : Int), .bool (decide ((k_ : Int) < 100)), J2 31, J2 32, .pointer (some ⟨b, 0, none⟩), .int .i64 (k_ : Int), .pointer (some ⟨b, 0, none⟩), .pointer (some ⟨b, 0, none⟩), .pointer (some ⟨b, 0 + k_ * 2, none⟩), .int .i64 (f_ : Int), .bool (hasB (((cvP F w0 l) (k_ : Int)).1) (((cvP F w0 l) (k_ : Int)).2) (f_ : Int)), .bool (!(hasB (((cvP F w0 l) (k_ : Int)).1) (((cvP F w0 l) (k_ : Int)).2) (f_ : Int))), .pointer (some ⟨b, 0, none⟩), .pointer (some ⟨b, 0, none⟩), .pointer (some ⟨b, 201, none⟩), .int .i64 lk_, .pointer (some ⟨b, 0, none⟩), .pointer (some ⟨b, 0, none⟩), .pointer (some ⟨b, 200, none⟩), .int .i64 B, .bool (lk_ == B), J2 50, J2 51, J2 52, J2 53, .pointer (some ⟨b, 0, none⟩), .pointer (some ⟨b, 0, none⟩), .pointer (some ⟨b, 201, none⟩), .int .i64 lk_, .int .i64 (lk_ + 1), .pointer (some ⟨b, 0, none⟩), .pointer (some ⟨b, 201, none⟩), .tuple #[u1, .bool (stF F w0 l B (m - 1) (x, y) o (k_ : Int) (lk_ + 1)).fd.isSome], .pointer (some ⟨b, 0, none⟩), .agg #[.int .u64 x, .int .u64 y], .pointer (some ⟨b, 0, none⟩), .int .i64 (k_ : Int), .pointer (some ⟨b, 0, none⟩), .pointer (some ⟨b, 0, none⟩), .pointer (some ⟨b, 0 + k_ * 2, none⟩), .agg #[.int .u64 (((cvP F w0 l) (k_ : Int)).1), .int .u64 (((cvP F w0 l) (k_ : Int)).2)], .agg #[.int .u64 (wo0 x (((cvP F w0 l) (k_ : Int)).1)), .int .u64 (wo1 y (((cvP F w0 l) (k_ : Int)).2))], .slice (some ⟨x9_, 0, none⟩) 0 0, .slice (some ⟨gP, 0, none⟩) n cap, .slice (some ⟨x11_, 0, none⟩) n y11_, .int .i64 (k_ : Int), .slice (some ⟨x13_, 0, none⟩) 1 1, .slice (some ⟨g4, 0, none⟩) (n + 1) cap3, .int .i64 mo, .int .i64 (mo - 1), .tuple #[u1, .bool (stF F w0 l B (m - 1) (x, y) o (k_ : Int) (lk_ + 1)).fd.isSome], u1, .bool (stF F w0 l B (m - 1) (x, y) o (k_ : Int) (lk_ + 1)).fd.isSome, J2 82, J2 83, J2 84, J2 85, J2 86, J2 87, J2 88, J2 89, J2 90, undef], []⟩) ?_ (fun hfin_ => ?_)
                 rotate_left
                 · refine RT.wpAny_frame (a' := ⟨#[.pointer (some ⟨b, 0, none⟩), .agg #[.int .u64 x, .int .u64 y], .slice (some ⟨gP, 0, none⟩) n cap, .int .i64 mo, undef, .pointer (some ⟨g1, 0, none⟩), undef, undef, J2 8, J2 9, .int .i64 (f_ : Int), .int .i64 (k_ : Int), J2 12, J2 13, .int .i64 (f_ : Int), .bool (decide ((f_ : Int) < 100)), .bool true, .int .i64 (f_ : Int), .bool (hasB x y (f_ : Int)), .bool (!(hasB x y (f_ : Int))), .bool (!(hasB x y (f_ : Int))), J1 21, J1 22, .int .i64 (f_ : Int), .bool ((f_ : Int) == 100), undef, .int .i64 mo, .bool (mo == 0), undef, .int .i64 (k_ : Int), .bool (decide ((k_ : Int) < 100)), J2 31, J2 32, .pointer (some ⟨b, 0, none⟩), .int .i64 (k_ : Int), .pointer (some ⟨b, 0, none⟩), .pointer (some ⟨b, 0, none⟩), .pointer (some ⟨b, 0 + k_ * 2, none⟩), .int .i64 (f_ : Int), .bool (hasB (((cvP F w0 l) (k_ : Int)).1) (((cvP F w0 l) (k_ : Int)).2) (f_ : Int)), .bool (!(hasB (((cvP F w0 l) (k_ : Int)).1) (((cvP F w0 l) (k_ : Int)).2) (f_ : Int))), .pointer (some ⟨b, 0, none⟩), .pointer (some ⟨b, 0, none⟩), .pointer (some ⟨b, 201, none⟩), .int .i64 lk_, .pointer (some ⟨b, 0, none⟩), .pointer (some ⟨b, 0, none⟩), .pointer (some ⟨b, 200, none⟩), .int .i64 B, .bool (lk_ == B), J2 50, J2 51, J2 52, J2 53, .pointer (some ⟨b, 0, none⟩), .pointer (some ⟨b, 0, none⟩), .pointer (some ⟨b, 201, none⟩), .int .i64 lk_, .int .i64 (lk_ + 1), .pointer (some ⟨b, 0, none⟩), .pointer (some ⟨b, 201, none⟩), J2 61, .pointer (some ⟨b, 0, none⟩), .agg #[.int .u64 x, .int .u64 y], .pointer (some ⟨b, 0, none⟩), .int .i64 (k_ : Int), .pointer (some ⟨b, 0, none⟩), .pointer (some ⟨b, 0, none⟩), .pointer (some ⟨b, 0 + k_ * 2, none⟩), .agg #[.int .u64 (((cvP F w0 l) (k_ : Int)).1), .int .u64 (((cvP F w0 l) (k_ : Int)).2)], .agg #[.int .u64 (wo0 x (((cvP F w0 l) (k_ : Int)).1)), .int .u64 (wo1 y (((cvP F w0 l) (k_ : Int)).2))], .slice (some ⟨x9_, 0, none⟩) 0 0, .slice (some ⟨gP, 0, none⟩) n cap, .slice (some ⟨x11_, 0, none⟩) n y11_, .int .i64 (k_ : Int), .slice (some ⟨x13_, 0, none⟩) 1 1, .slice (some ⟨g4, 0, none⟩) (n + 1) cap3, .int .i64 mo, .int .i64 (mo - 1), .tuple #[u1, .bool (stF F w0 l B (m - 1) (x, y) o (k_ : Int) (lk_ + 1)).fd.isSome], J2 80, J2 81, J2 82, J2 83, J2 84, J2 85, J2 86, J2 87, J2 88, J2 89, J2 90, undef], []⟩) (L' := #[true, true, true, true, true, true, true, true, true, true, true, true, true, true, true, true, true, true, false, false, false, false, false]) (by kernel_rfl) (by kernel_rfl) ?_
                   refine wpAny_p1 18 _ (.tuple #[u1, .bool (stF F w0 l B (m - 1) (x, y) o (k_ : Int) (lk_ + 1)).fd.isSome]) rfl (by kernel_rfl) (by kernel_rfl) (OpRun.val (.tuple #[u1, .bool (stF F w0 l B (m - 1) (x, y) o (k_ : Int) (lk_ + 1)).fd.isSome]) (.tuple #[u1, .bool (stF F w0 l B (m - 1) (x, y) o (k_ : Int) (lk_ + 1)).fd.isSome]) (by kernel_rfl) rfl ⟨rfl, rfl⟩) ?_
                   refine RT.wpAny_two 19 20 _ _ (u1) (.bool (stF F w0 l B (m - 1) (x, y) o (k_ : Int) (lk_ + 1)).fd.isSome) rfl rfl (by kernel_rfl) (by kernel_rfl) (by kernel_rfl) (OpRun.val (u1) (u1) (by kernel_rfl) rfl ⟨rfl, rfl⟩) (OpRun.val (.bool (stF F w0 l B (m - 1) (x, y) o (k_ : Int) (lk_ + 1)).fd.isSome) (.bool (stF F w0 l B (m - 1) (x, y) o (k_ : Int) (lk_ + 1)).fd.isSome) (by kernel_rfl) rfl ⟨rfl, rfl⟩) ?_ ?_
                   · refine RT.wpAny_two 20 21 _ _ (.bool (stF F w0 l B (m - 1) (x, y) o (k_ : Int) (lk_ + 1)).fd.isSome) (u1) rfl rfl (by kernel_rfl) (by kernel_rfl) (by kernel_rfl) (OpRun.val (.bool (stF F w0 l B (m - 1) (x, y) o (k_ : Int) (lk_ + 1)).fd.isSome) (.bool (stF F w0 l B (m - 1) (x, y) o (k_ : Int) (lk_ + 1)).fd.isSome) (by kernel_rfl) rfl ⟨rfl, rfl⟩) (OpRun.val (u1) (u1) (by kernel_rfl) rfl ⟨rfl, rfl⟩) ?_ ?_
                     · refine wpAny_p1 21 _ (u1) rfl (by kernel_rfl) (by kernel_rfl) (OpRun.val (u1) (u1) (by kernel_rfl) rfl ⟨rfl, rfl⟩) ?_
                       refine wpAny_p1 22 _ (.bool (stF F w0 l B (m - 1) (x, y) o (k_ : Int) (lk_ + 1)).fd.isSome) rfl (by kernel_rfl) (by kernel_rfl) (OpRun.val (.bool (stF F w0 l B (m - 1) (x, y) o (k_ : Int) (lk_ + 1)).fd.isSome) (.bool (stF F w0 l B (m - 1) (x, y) o (k_ : Int) (lk_ + 1)).fd.isSome) (by kernel_rfl) rfl ⟨rfl, rfl⟩) ?_
                       exact wpAny_fin (by kernel_rfl) (by kernel_rfl) hfin_
                     · refine wpAny_p1 20 _ (.bool (stF F w0 l B (m - 1) (x, y) o (k_ : Int) (lk_ + 1)).fd.isSome) rfl (by kernel_rfl) (by kernel_rfl) (OpRun.val (.bool (stF F w0 l B (m - 1) (x, y) o (k_ : Int) (lk_ + 1)).fd.isSome) (.bool (stF F w0 l B (m - 1) (x, y) o (k_ : Int) (lk_ + 1)).fd.isSome) (by kernel_rfl) rfl ⟨rfl, rfl⟩) ?_
                       refine wpAny_p1 22 _ (.bool (stF F w0 l B (m - 1) (x, y) o (k_ : Int) (lk_ + 1)).fd.isSome) rfl (by kernel_rfl) (by kernel_rfl) (OpRun.val (.bool (stF F w0 l B (m - 1) (x, y) o (k_ : Int) (lk_ + 1)).fd.isSome) (.bool (stF F w0 l B (m - 1) (x, y) o (k_ : Int) (lk_ + 1)).fd.isSome) (by kernel_rfl) rfl ⟨rfl, rfl⟩) ?_
                       exact wpAny_fin (by kernel_rfl) (by kernel_rfl) hfin_
                   · refine wpAny_p1 19 _ (u1) rfl (by kernel_rfl) (by kernel_rfl) (OpRun.val (u1) (u1) (by kernel_rfl) rfl ⟨rfl, rfl⟩) ?_
                     refine wpAny_p1 21 _ (u1) rfl (by kernel_rfl) (by kernel_rfl) (OpRun.val (u1) (u1) (by kernel_rfl) rfl ⟨rfl, rfl⟩) ?_
                     refine wpAny_p1 22 _ (.bool (stF F w0 l B (m - 1) (x, y) o (k_ : Int) (lk_ + 1)).fd.isSome) rfl (by kernel_rfl) (by kernel_rfl) (OpRun.val (.bool (stF F w0 l B (m - 1) (x, y) o (k_ : Int) (lk_ + 1)).fd.isSome) (.bool (stF F w0 l B (m - 1) (x, y) o (k_ : Int) (lk_ + 1)).fd.isSome) (by kernel_rfl) rfl ⟨rfl, rfl⟩) ?_
                     exact wpAny_fin (by kernel_rfl) (by kernel_rfl) hfin_
                 refine then_normal ?_
                 refine wsr ?_
                 refine wv (.bool ((stF F w0 l B (m - 1) (x, y) o (k_ : Int) (lk_ + 1)).fd.isSome)) ?_
                 refine wbl 82 false h8 ?_
                 refine wv (.bool false) ?_
                 refine wv (.pointer (some ⟨b, 0, none⟩)) ?_
                 refine wv (.pointer (some ⟨b, 0, none⟩)) ?_
                 refine wv (.pointer (some ⟨b, 202, none⟩)) ?_
                 refine wld b (202) scal_bool (hb.get (srC_o)) ?_
                 refine wv (.bool ((stF F w0 l B (m - 1) (x, y) o (k_ : Int) (lk_ + 1)).ov)) ?_
                 refine wpList_nil (then_normal ?_)
                 have H10 := H9.trans X4
                 refine wsplit ((stF F w0 l B (m - 1) (x, y) o (k_ : Int) (lk_ + 1)).ov) (fun h9 => ?_) (fun h9 => ?_)
                 · skip
                   refine wsr ?_
                   refine wv u1 ?_
                   refine wv (.bool ((stF F w0 l B (m - 1) (x, y) o (k_ : Int) (lk_ + 1)).fd.isSome)) ?_
                   refine wbl 90 false h8 ?_
                   refine wv u1 ?_
                   refine wv (.bool false) ?_
                   refine wpList_nil (then_normal ?_)
                   refine wp_ret ?_
                   refine block_ret (then_ret (then_ret (block_ret (then_ret ?_))))
                   refine ret2 u1 (.bool false) rfl ?_ ?_ rfl ?_
                   · exact resT (by kernel_rfl)
                   · exact resT (by kernel_rfl)
                   exact FnR.no (hI.symm.trans (sp_ret hok hf_ (lt100 (by assumption)) (by assumption) (by assumption) (.inr (by assumption)))) (by assumption) (by first | rfl | assumption) rfl rfl hb H10
                 · skip
                   refine wp_skip ?_
                   refine block_normal (then_normal ?_)
                   refine wp_region_lit ?_
                   refine wv (.int .i64 (k_ : Int)) ?_
                   refine wi64 ((k_ : Int) + 1) ?_
                   refine wv (.int .i64 ((k_ : Int) + 1)) ?_
                   refine wpList_nil (then_normal ?_)
                   replace hbP := X4.blk hbP (Ne.symm (Ne.symm hnP))
                   replace B1 := X4.blk B1 (Ne.symm q_b_g1)
                   refine ⟨_, ?_, k_ + 1, (stF F w0 l B (m - 1) (x, y) o (k_ : Int) (lk_ + 1)).lk, rfl, ?_, ?_, ?_, ?_, ?_, H10, ?_, hbP, B1, exJ (by kernel_rfl)⟩
                   · omega
                   · omega
                   · first | exact (sp_skip hok hf_ (lt100 (by assumption)) (by assumption)).symm.trans hI | exact (sp_next hok hf_ (lt100 (by assumption)) (by assumption) (by assumption) (no_or (by assumption) (by assumption))).symm.trans hI
                   · first | exact hk0 | exact (seek_lk (lk_nn hk0) (lk_up hkB (by assumption))).1
                   · first | exact hkB | exact (seek_lk (lk_nn hk0) (lk_up hkB (by assumption))).2
                   · exact hf_
                   · first | exact hb | (rw [show (stF F w0 l B (m - 1) (x, y) o (k_ : Int) (lk_ + 1)).ov = false by assumption] at hb; exact hb)
         · skip
           have h5d := dF h5
           refine wp_exit ?_
           refine then_exit ?_
           refine then_exit ?_
           refine block_exit ?_
           refine then_normal ?_
           refine wsr ?_
           refine wv (.slice (some ⟨gP, 0, none⟩) n cap) ?_
           refine wv (.slice (some ⟨gP, 0, none⟩) n cap) ?_
           refine wv (.bool false) ?_
           refine wpList_nil (then_normal ?_)
           refine wp_ret ?_
           refine ret2 (.slice (some ⟨gP, 0, none⟩) n cap) (.bool false) rfl ?_ ?_ rfl ?_
           · exact resT (by kernel_rfl)
           · exact resT (by kernel_rfl)
           exact FnR.no (hI.symm.trans (sp_end (ge100 (by assumption)) hi_)) rfl rfl rfl rfl hb HL2
 · skip
   refine wbl 16 false h1 ?_
   have h1d := dF h1
   refine wsk ?_
   refine wsk ?_
   refine wsk ?_
   refine wv (.bool false) ?_
   refine wpList_nil (then_normal ?_)
   refine wcf ?_
   refine wp_exit ?_
   refine then_exit ?_
   refine then_exit ?_
   refine block_exit ?_
   refine then_normal ?_
   refine wp_seq ?_
   refine wsr ?_
   refine wv (.int .i64 (f_ : Int)) ?_
   refine wv (.bool ((f_ : Int) == 100)) ?_
   refine wpList_nil (then_normal ?_)
   refine wsplit ((f_ : Int) == 100) (fun h10 => ?_) (fun h10 => ?_)
   · skip
     have h10d := eT h10
     refine wsr ?_
     refine wv (.slice (some ⟨gP, 0, none⟩) n cap) ?_
     refine wv (.slice (some ⟨gP, 0, none⟩) n cap) ?_
     refine wv (.bool true) ?_
     refine wpList_nil (then_normal ?_)
     refine wp_ret ?_
     refine then_ret ?_
     refine ret2 (.slice (some ⟨gP, 0, none⟩) n cap) (.bool true) rfl ?_ ?_ rfl ?_
     · exact resT (by kernel_rfl)
     · exact resT (by kernel_rfl)
     exact FnR.yes (seek_e (fsC_none hok (fun j hj => hfa j (by omega)))) rfl rfl rfl rfl hb HL1 hbP hS hnP (.inl rfl)
   · skip
     have h10d := eF h10
     refine wp_skip ?_
     refine then_normal ?_
     refine wp_seq ?_
     refine wsr ?_
     refine wv (.int .i64 mo) ?_
     refine wv (.bool (mo == 0)) ?_
     refine wpList_nil (then_normal ?_)
     refine wsplit (mo == 0) (fun h11 => ?_) (fun h11 => ?_)
     · skip
       have h11d := eT h11
       refine wsr ?_
       refine wv (.slice (some ⟨gP, 0, none⟩) n cap) ?_
       refine wv (.slice (some ⟨gP, 0, none⟩) n cap) ?_
       refine wv (.bool false) ?_
       refine wpList_nil (then_normal ?_)
       refine wp_ret ?_
       refine then_ret ?_
       refine ret2 (.slice (some ⟨gP, 0, none⟩) n cap) (.bool false) rfl ?_ ?_ rfl ?_
       · exact resT (by kernel_rfl)
       · exact resT (by kernel_rfl)
       exact FnR.no ((congrArg (fun m_ => seekF F w0 l B m_ (x, y) o lk) (hm0_ (by assumption))).trans (seek_0 (by first | exact (fs_ok hok (by omega) hfa (by assumption)).1 | (exfalso; omega)))) rfl rfl rfl rfl hb HL1
     · skip
       have h11d := eF h11
       refine wp_skip ?_
       refine then_normal ?_
       refine wp_seq ?_
       refine wsr ?_
       refine wv (.int .i64 0) ?_
       refine wpList_nil (then_normal ?_)
       refine wp_block ?_
       refine wp_loop_k (fun m3 a wl3 => ∃ (k_ : Nat) (lk_ : Int), m3 = 100 - k_ ∧ k_ ≤ 100 ∧ atF F w0 l B (m - 1) (x, y) o (cpN F k_) lk_ = seekF F w0 l B m (x, y) o lk ∧ 0 ≤ lk_ ∧ lk_ ≤ B ∧ fsC (x, y) = (f_ : Int) ∧ Wr b w wl3 ∧ Blk wl3 b 60 (srC (cvP F w0 l) B lk_ false) ∧ Blk wl3 gP 2 cs ∧ Blk wl3 g1 43 #[.int .u64 x, .int .u64 y] ∧ (∃ J3 : Nat → Value, a = ⟨#[.pointer (some ⟨b, 0, none⟩), .agg #[.int .u64 x, .int .u64 y], .slice (some ⟨gP, 0, none⟩) n cap, .int .i64 mo, undef, .pointer (some ⟨g1, 0, none⟩), undef, undef, J3 8, J3 9, .int .i64 (f_ : Int), .int .i64 (k_ : Int), J3 12, J3 13, .int .i64 (f_ : Int), .bool (decide ((f_ : Int) < 100)), .bool false, undef, undef, undef, .bool false, J1 21, J1 22, .int .i64 (f_ : Int), .bool ((f_ : Int) == 100), undef, .int .i64 mo, .bool (mo == 0), undef, J3 29, J3 30, J3 31, J3 32, J3 33, J3 34, J3 35, J3 36, J3 37, J3 38, J3 39, J3 40, J3 41, J3 42, J3 43, J3 44, J3 45, J3 46, J3 47, J3 48, J3 49, J3 50, J3 51, J3 52, J3 53, J3 54, J3 55, J3 56, J3 57, J3 58, J3 59, J3 60, J3 61, J3 62, J3 63, J3 64, J3 65, J3 66, J3 67, J3 68, J3 69, J3 70, J3 71, J3 72, J3 73, J3 74, J3 75, J3 76, J3 77, J3 78, J3 79, J3 80, J3 81, J3 82, J3 83, J3 84, J3 85, J3 86, J3 87, J3 88, J3 89, J3 90, undef], []⟩)) (100) ?_ ?_
       · refine ⟨0, lk, rfl, ?_, ?_, ?_, ?_, ?_, HL1, hb, hbP, B1, exJ (by kernel_rfl)⟩
         · omega
         · rw [cpN_0]
           first | exact (seekf_t (fs_ok hok (by omega) hfa (by assumption)).1 (hm_ (by assumption)).1).symm | (exfalso; omega)
         · omega
         · omega
         · first | exact (fs_ok hok (by omega) hfa (by assumption)).2 | (exfalso; omega)
       intro m3 a wl3 hI
       obtain ⟨k_, lk_, rfl, hi_, hI, hk0, hkB, hf_, HL3, hb, hbP, B1, J3, rfl⟩ := hI
       refine wp_seq ?_
       refine wsr ?_
       refine wv (.int .i64 (k_ : Int)) ?_
       refine wv (.bool (decide ((k_ : Int) < 100))) ?_
       refine wpList_nil (then_normal ?_)
       refine wsplit (decide ((k_ : Int) < 100)) (fun h12 => ?_) (fun h12 => ?_)
       · skip
         have h12d := dT h12
         refine wp_skip ?_
         refine then_normal ?_
         refine wp_seq ?_
         refine wp_block ?_
         refine wp_seq ?_
         refine wsr ?_
         refine wv (.pointer (some ⟨b, 0, none⟩)) ?_
         refine wv (.int .i64 (k_ : Int)) ?_
         refine wv (.pointer (some ⟨b, 0, none⟩)) ?_
         refine wv (.pointer (some ⟨b, 0, none⟩)) ?_
         refine wixm (m := 2) b 0 k_ .i64 arrm__100_impl_Cells (by omega) ?_
         refine wv (.int .i64 (f_ : Int)) ?_
         refine wcl (l01HasO_any (((cvP F w0 l) (k_ : Int)).1) (((cvP F w0 l) (k_ : Int)).2) b (0 + k_ * 2) _ _ (srC_x (by omega)) (srC_y (by omega)) (f_ : Int) _ hb) ?_
         intro w11 E9
         refine wv (.bool (!(hasB (((cvP F w0 l) (k_ : Int)).1) (((cvP F w0 l) (k_ : Int)).2) (f_ : Int)))) ?_
         refine wpList_nil (then_normal ?_)
         have H11 := HL3.trans (Wr.of_ext E9)
         refine wsplit (!(hasB (((cvP F w0 l) (k_ : Int)).1) (((cvP F w0 l) (k_ : Int)).2) (f_ : Int))) (fun h13 => ?_) (fun h13 => ?_)
         · skip
           replace h13 := nbT h13
           refine wp_exit ?_
           refine then_exit ?_
           refine block_exit ?_
           refine then_normal ?_
           refine wp_region_lit ?_
           refine wv (.int .i64 (k_ : Int)) ?_
           refine wi64 ((k_ : Int) + 1) ?_
           refine wv (.int .i64 ((k_ : Int) + 1)) ?_
           refine wpList_nil (then_normal ?_)
           replace hb := hb.ext E9
           replace hbP := hbP.ext E9
           replace B1 := B1.ext E9
           refine ⟨_, ?_, k_ + 1, lk_, rfl, ?_, ?_, ?_, ?_, ?_, H11, ?_, hbP, B1, exJ (by kernel_rfl)⟩
           · omega
           · omega
           · first | exact (sp_skip hok hf_ (lt100 (by assumption)) (by assumption)).symm.trans hI | exact (sp_next hok hf_ (lt100 (by assumption)) (by assumption) (by assumption) (no_or (by assumption) (by assumption))).symm.trans hI
           · first | exact hk0 | exact (seek_lk (lk_nn hk0) (lk_up hkB (by assumption))).1
           · first | exact hkB | exact (seek_lk (lk_nn hk0) (lk_up hkB (by assumption))).2
           · exact hf_
           · first | exact hb | (rw [show (stF F w0 l B (m - 1) (x, y) o (k_ : Int) (lk_ + 1)).ov = false by assumption] at hb; exact hb)
         · skip
           replace h13 := nbF h13
           refine wp_skip ?_
           refine then_normal ?_
           refine wp_seq ?_
           refine wp_seq ?_
           refine wp_frame (a' := ⟨#[.pointer (some ⟨b, 0, none⟩), .agg #[.int .u64 x, .int .u64 y], .slice (some ⟨gP, 0, none⟩) n cap, .int .i64 mo, undef, .pointer (some ⟨g1, 0, none⟩), undef, undef, J3 8, J3 9, .int .i64 (f_ : Int), .int .i64 (k_ : Int), J3 12, J3 13, .int .i64 (f_ : Int), .bool (decide ((f_ : Int) < 100)), .bool false, undef, undef, undef, .bool false, J1 21, J1 22, .int .i64 (f_ : Int), .bool ((f_ : Int) == 100), undef, .int .i64 mo, .bool (mo == 0), undef, .int .i64 (k_ : Int), .bool (decide ((k_ : Int) < 100)), J3 31, J3 32, .pointer (some ⟨b, 0, none⟩), .int .i64 (k_ : Int), .pointer (some ⟨b, 0, none⟩), .pointer (some ⟨b, 0, none⟩), .pointer (some ⟨b, 0 + k_ * 2, none⟩), .int .i64 (f_ : Int), .bool (hasB (((cvP F w0 l) (k_ : Int)).1) (((cvP F w0 l) (k_ : Int)).2) (f_ : Int)), .bool (!(hasB (((cvP F w0 l) (k_ : Int)).1) (((cvP F w0 l) (k_ : Int)).2) (f_ : Int))), J3 41, J3 42, J3 43, J3 44, J3 45, J3 46, J3 47, J3 48, J3 49, J3 50, J3 51, J3 52, J3 53, J3 54, J3 55, J3 56, J3 57, J3 58, J3 59, J3 60, J3 61, J3 62, J3 63, J3 64, J3 65, J3 66, J3 67, J3 68, J3 69, J3 70, J3 71, J3 72, J3 73, J3 74, J3 75, J3 76, J3 77, J3 78, J3 79, J3 80, J3 81, J3 82, J3 83, J3 84, J3 85, J3 86, J3 87, J3 88, J3 89, J3 90, undef], []⟩) (by kernel_rfl) ?_
           replace hb := hb.ext E9
           refine region_go 9 [41, 42, 43, 44, 45, 46, 47, 48, 49] [[], [0], [1], [2], [], [4], [5], [6], [3, 7]]
            (fun i_ => ([.val (.pointer (some ⟨b, 0, none⟩)), .val (.pointer (some ⟨b, 0, none⟩)), .val (.pointer (some ⟨b, 201, none⟩)), .val (.int .i64 lk_), .val (.pointer (some ⟨b, 0, none⟩)), .val (.pointer (some ⟨b, 0, none⟩)), .val (.pointer (some ⟨b, 200, none⟩)), .val (.int .i64 B), .val (.bool (lk_ == B))] : List Fct).getD i_ .any)
            (by kernel_rfl) (by kernel_rfl) (by decide) (by simp) rfl (all_succ (all_succ (all_succ (all_succ (all_succ (all_succ (all_succ (all_succ (all_succ all_zero ?_) ?_) ?_) ?_) ?_) ?_) ?_) ?_) ?_) ?_
           · refine step0 rfl rfl rfl (fun wr hw => ?_)
             exact OpRun.val (.pointer (some ⟨b, 0, none⟩)) (.pointer (some ⟨b, 0, none⟩)) (by kernel_rfl) rfl ⟨Ext.refl _, rfl⟩
           · refine step1 rfl rfl rfl rfl (fun u0 wr hw h0 => ?_)
             cases h0
             exact OpRun.val (.pointer (some ⟨b, 0, none⟩)) (.pointer (some ⟨b, 0, none⟩)) (by kernel_rfl) rfl ⟨Ext.refl _, rfl⟩
           · refine step1 rfl rfl rfl rfl (fun u0 wr hw h0 => ?_)
             cases h0
             exact OpRun.val (.pointer (some ⟨b, 201, none⟩)) (.pointer (some ⟨b, 201, none⟩)) (by kernel_rfl) rfl ⟨Ext.refl _, rfl⟩
           · refine step1 rfl rfl rfl rfl (fun u0 wr hw h0 => ?_)
             cases h0
             exact OpRun.cell (g := b) (off := 201) (v := .int .i64 lk_) scal_int64 rfl (by kernel_rfl) ((hb.ext hw).get (srC_l)) ⟨Ext.refl _, rfl⟩
           · refine step0 rfl rfl rfl (fun wr hw => ?_)
             exact OpRun.val (.pointer (some ⟨b, 0, none⟩)) (.pointer (some ⟨b, 0, none⟩)) (by kernel_rfl) rfl ⟨Ext.refl _, rfl⟩
           · refine step1 rfl rfl rfl rfl (fun u0 wr hw h0 => ?_)
             cases h0
             exact OpRun.val (.pointer (some ⟨b, 0, none⟩)) (.pointer (some ⟨b, 0, none⟩)) (by kernel_rfl) rfl ⟨Ext.refl _, rfl⟩
           · refine step1 rfl rfl rfl rfl (fun u0 wr hw h0 => ?_)
             cases h0
             exact OpRun.val (.pointer (some ⟨b, 200, none⟩)) (.pointer (some ⟨b, 200, none⟩)) (by kernel_rfl) rfl ⟨Ext.refl _, rfl⟩
           · refine step1 rfl rfl rfl rfl (fun u0 wr hw h0 => ?_)
             cases h0
             exact OpRun.cell (g := b) (off := 200) (v := .int .i64 B) scal_int64 rfl (by kernel_rfl) ((hb.ext hw).get (srC_B)) ⟨Ext.refl _, rfl⟩
           · refine step2 rfl rfl rfl rfl rfl (fun u0 u1 wr hw h0 h1 => ?_)
             cases h0
             cases h1
             exact OpRun.val (.bool (lk_ == B)) (.bool (lk_ == B)) (by kernel_rfl) rfl ⟨Ext.refl _, rfl⟩
           refine end9 (fun u0 u1 u2 u3 u4 u5 u6 u7 u8 w12 E10 f0 f1 f2 f3 f4 f5 f6 f7 f8 => ?_)
           cases f0
           cases f1
           cases f2
           cases f3
           cases f4
           cases f5
           cases f6
           cases f7
           cases f8
           refine wpList_nil (then_normal ?_)
           have H12 := H11.trans (Wr.of_ext E10)
           refine wsplit (lk_ == B) (fun h14 => ?_) (fun h14 => ?_)
           · skip
             have h14d := eT h14
             refine wsr ?_
             refine wv (.pointer (some ⟨b, 0, none⟩)) ?_
             refine wv (.pointer (some ⟨b, 0, none⟩)) ?_
             refine wv (.pointer (some ⟨b, 202, none⟩)) ?_
             replace hb := hb.ext E10
             refine wst b (202) (.bool true) scal_bool hb (srC_seto) (by rw [srC_size]; omega) ?_
             intro w13 hb_ X5
             clear hb; have hb := hb_; clear hb_
             refine wpList_nil (then_normal ?_)
             refine wsr ?_
             refine wv (.slice (some ⟨gP, 0, none⟩) n cap) ?_
             refine wv (.slice (some ⟨gP, 0, none⟩) n cap) ?_
             refine wv (.bool false) ?_
             refine wpList_nil (then_normal ?_)
             refine wp_ret ?_
             refine then_ret (block_ret (then_ret (then_ret (block_ret (then_ret ?_)))))
             refine ret2 (.slice (some ⟨gP, 0, none⟩) n cap) (.bool false) rfl ?_ ?_ rfl ?_
             · exact resT (by kernel_rfl)
             · exact resT (by kernel_rfl)
             have H13 := H12.trans X5
             exact FnR.no (hI.symm.trans (sp_over hok hf_ (lt100 (by assumption)) (by assumption) (by assumption))) rfl rfl rfl rfl hb H13
           · skip
             have h14d := eF h14
             refine wp_skip ?_
             refine then_normal ?_
             refine wsr ?_
             refine wv (.pointer (some ⟨b, 0, none⟩)) ?_
             refine wv (.pointer (some ⟨b, 0, none⟩)) ?_
             refine wv (.pointer (some ⟨b, 201, none⟩)) ?_
             replace hb := hb.ext E10
             refine wld b (201) scal_int64 (hb.get (srC_l)) ?_
             refine wi64 (lk_ + 1) ?_
             refine wv (.pointer (some ⟨b, 0, none⟩)) ?_
             refine wv (.pointer (some ⟨b, 201, none⟩)) ?_
             refine wst b (201) (.int .i64 (lk_ + 1)) scal_int64 hb (srC_setl) (by rw [srC_size]; omega) ?_
             intro w14 hb_ X6
             clear hb; have hb := hb_; clear hb_
             refine wpList_nil (then_normal ?_)
             refine wp_seq ?_
             have H14 := H12.trans X6
             refine split_bool ((stF F w0 l B (m - 1) (x, y) o (k_ : Int) (lk_ + 1)).fd.isSome) (fun h15 => ?_) (fun h15 => ?_)
             · skip
               refine wp_frame (a' := ⟨#[.pointer (some ⟨b, 0, none⟩), .agg #[.int .u64 x, .int .u64 y], .slice (some ⟨gP, 0, none⟩) n cap, .int .i64 mo, undef, .pointer (some ⟨g1, 0, none⟩), undef, undef, J3 8, J3 9, .int .i64 (f_ : Int), .int .i64 (k_ : Int), J3 12, J3 13, .int .i64 (f_ : Int), .bool (decide ((f_ : Int) < 100)), .bool false, undef, undef, undef, .bool false, J1 21, J1 22, .int .i64 (f_ : Int), .bool ((f_ : Int) == 100), undef, .int .i64 mo, .bool (mo == 0), undef, .int .i64 (k_ : Int), .bool (decide ((k_ : Int) < 100)), J3 31, J3 32, .pointer (some ⟨b, 0, none⟩), .int .i64 (k_ : Int), .pointer (some ⟨b, 0, none⟩), .pointer (some ⟨b, 0, none⟩), .pointer (some ⟨b, 0 + k_ * 2, none⟩), .int .i64 (f_ : Int), .bool (hasB (((cvP F w0 l) (k_ : Int)).1) (((cvP F w0 l) (k_ : Int)).2) (f_ : Int)), .bool (!(hasB (((cvP F w0 l) (k_ : Int)).1) (((cvP F w0 l) (k_ : Int)).2) (f_ : Int))), .pointer (some ⟨b, 0, none⟩), .pointer (some ⟨b, 0, none⟩), .pointer (some ⟨b, 201, none⟩), .int .i64 lk_, .pointer (some ⟨b, 0, none⟩), .pointer (some ⟨b, 0, none⟩), .pointer (some ⟨b, 200, none⟩), .int .i64 B, .bool (lk_ == B), J3 50, J3 51, J3 52, J3 53, .pointer (some ⟨b, 0, none⟩), .pointer (some ⟨b, 0, none⟩), .pointer (some ⟨b, 201, none⟩), .int .i64 lk_, .int .i64 (lk_ + 1), .pointer (some ⟨b, 0, none⟩), .pointer (some ⟨b, 201, none⟩), J3 61, J3 62, J3 63, J3 64, J3 65, J3 66, J3 67, J3 68, J3 69, J3 70, J3 71, J3 72, J3 73, J3 74, J3 75, J3 76, J3 77, J3 78, J3 79, J3 80, J3 81, J3 82, J3 83, J3 84, J3 85, J3 86, J3 87, J3 88, J3 89, J3 90, undef], []⟩) (by kernel_rfl) ?_
               replace B1 := X6.blk ((B1.ext E9).ext E10) (Ne.symm q_b_g1)
               replace hbP := X6.blk ((hbP.ext E9).ext E10) (Ne.symm (Ne.symm hnP))
               refine RT.region_goB 17 6 [62, 63, 64, 65, 66, 67, 68, 69, 70, 71, 72, 73, 74, 75, 76, 77, 78] [[], [], [], [], [2], [4], [5, 3], [6], [1, 7], [], [], [9, 10, 8], [], [12], [11, 13], [], [15]] (RlQ w14.heap.size 2 n (k_ : Int))
                (fun i_ => ([.val (.pointer (some ⟨b, 0, none⟩)), .val (.agg #[.int .u64 x, .int .u64 y]), .val (.pointer (some ⟨b, 0, none⟩)), .val (.int .i64 (k_ : Int)), .val (.pointer (some ⟨b, 0, none⟩)), .val (.pointer (some ⟨b, 0, none⟩)), .val (.pointer (some ⟨b, 0 + k_ * 2, none⟩)), .val (.agg #[.int .u64 (((cvP F w0 l) (k_ : Int)).1), .int .u64 (((cvP F w0 l) (k_ : Int)).2)]), .val (.agg #[.int .u64 (wo0 x (((cvP F w0 l) (k_ : Int)).1)), .int .u64 (wo1 y (((cvP F w0 l) (k_ : Int)).2))]), (FqNil w14.heap.size 2 n (k_ : Int)), .val (.slice (some ⟨gP, 0, none⟩) n cap), (FqLst w14.heap.size 2 n (k_ : Int) o), .val (.int .i64 (k_ : Int)), (FqOne w14.heap.size 2 n (k_ : Int)), (FqApp w14.heap.size 2 n (k_ : Int) o hn_), .val (.int .i64 mo), .val (.int .i64 (mo - 1))] : List (RT.Fct (RlQ w14.heap.size 2 n (k_ : Int)))).getD i_ .any)
                (by kernel_rfl) (by kernel_rfl) rfl (by decide) (by simp) RlQ.trans RlQ.drew rfl (all_succ (all_succ (all_succ (all_succ (all_succ (all_succ (all_succ (all_succ (all_succ (all_succ (all_succ (all_succ (all_succ (all_succ (all_succ (all_succ (all_succ all_zero ?_) ?_) ?_) ?_) ?_) ?_) ?_) ?_) ?_) ?_) ?_) ?_) ?_) ?_) ?_) ?_) ?_) ?_
               · refine RT.step0 rfl rfl rfl (fun wr hw => ?_)
                 exact OpRun.val (.pointer (some ⟨b, 0, none⟩)) (.pointer (some ⟨b, 0, none⟩)) (by kernel_rfl) rfl ⟨RlQ.of_ext hw.bl.size (Ext.refl _), rfl⟩
               · refine RT.step0 rfl rfl rfl (fun wr hw => ?_)
                 with_reducible refine OpRun.row (x := (.tmp 5)) row_impl_Cells (hw.blk B1 B1.lt) ?_ ?_ ?_ ?_
                 · rfl
                 · rfl
                 · kernel_rfl
                 · exact ⟨RlQ.of_ext hw.bl.size (Ext.refl _), rfl⟩
               · refine RT.step0 rfl rfl rfl (fun wr hw => ?_)
                 exact OpRun.val (.pointer (some ⟨b, 0, none⟩)) (.pointer (some ⟨b, 0, none⟩)) (by kernel_rfl) rfl ⟨RlQ.of_ext hw.bl.size (Ext.refl _), rfl⟩
               · refine RT.step0 rfl rfl rfl (fun wr hw => ?_)
                 exact OpRun.val (.int .i64 (k_ : Int)) (.int .i64 (k_ : Int)) (by kernel_rfl) rfl ⟨RlQ.of_ext hw.bl.size (Ext.refl _), rfl⟩
               · refine RT.step1 rfl rfl rfl rfl (fun u0 wr hw h0 => ?_)
                 cases h0
                 exact OpRun.val (.pointer (some ⟨b, 0, none⟩)) (.pointer (some ⟨b, 0, none⟩)) (by kernel_rfl) rfl ⟨RlQ.of_ext hw.bl.size (Ext.refl _), rfl⟩
               · refine RT.step1 rfl rfl rfl rfl (fun u0 wr hw h0 => ?_)
                 cases h0
                 exact OpRun.val (.pointer (some ⟨b, 0, none⟩)) (.pointer (some ⟨b, 0, none⟩)) (by kernel_rfl) rfl ⟨RlQ.of_ext hw.bl.size (Ext.refl _), rfl⟩
               · refine RT.step2 rfl rfl rfl rfl rfl (fun u0 u1 wr hw h0 h1 => ?_)
                 cases h0
                 cases h1
                 exact OpRun.ixm (i := k_) (k := .i64) (g := b) (off := 0) arrm__100_impl_Cells rfl (by kernel_rfl) (by kernel_rfl) (by omega) ⟨RlQ.of_ext hw.bl.size (Ext.refl _), rfl⟩
               · refine RT.step1 rfl rfl rfl rfl (fun u0 wr hw h0 => ?_)
                 cases h0
                 exact OpRun.mid (cs := [.int .u64 (((cvP F w0 l) (k_ : Int)).1), .int .u64 (((cvP F w0 l) (k_ : Int)).2)]) row_impl_Cells rfl (srC_range (hw.blk hb hb.lt) (by omega)) rfl (by kernel_rfl) ⟨RlQ.of_ext hw.bl.size (Ext.refl _), rfl⟩
               · refine RT.step2 rfl rfl rfl rfl rfl (fun u0 u1 wr hw h0 h1 => ?_)
                 cases h0
                 cases h1
                 exact OpRun.call 48 #[.agg #[.int .u64 x, .int .u64 y], .agg #[.int .u64 (((cvP F w0 l) (k_ : Int)).1), .int .u64 (((cvP F w0 l) (k_ : Int)).2)]] (by kernel_rfl) ((sWithout_any x y (((cvP F w0 l) (k_ : Int)).1) (((cvP F w0 l) (k_ : Int)).2) (by first | assumption | exact okP.w2 hok | exact okP.w2 (cvP_ok _) | exact okP.w2 (setC_ok 100 (Nat.le_refl _))) (by first | assumption | exact okP.w2 hok | exact okP.w2 (cvP_ok _) | exact okP.w2 (setC_ok 100 (Nat.le_refl _))) _).mono fun e w1 ⟨he, hb⟩ => ⟨_, he, RlQ.of_ext hw.bl.size hb, rfl⟩)
               · refine RT.step0 rfl rfl rfl (fun wr hw => ?_)
                 exact OpRun.bslice #[] slt__int64 rfl (by decide) (by kernel_rfl) ⟨RlQ.of_ext hw.bl.size ((Ext.refl _).alloc _), _, rfl, hw.bl.size, Blk.new _ _ _⟩
               · refine RT.step0 rfl rfl rfl (fun wr hw => ?_)
                 exact OpRun.val (.slice (some ⟨gP, 0, none⟩) n cap) (.slice (some ⟨gP, 0, none⟩) n cap) (by kernel_rfl) rfl ⟨RlQ.of_ext hw.bl.size (Ext.refl _), rfl⟩
               · refine RT.step3 rfl rfl rfl rfl rfl rfl (fun u0 u1 u2 wr hw h0 h1 h2 => ?_)
                 obtain ⟨g0_, rfl, hgn0, hbn0⟩ := h0
                 cases h1
                 cases h2
                 exact OpRun.mono (OpRun.app0 (B := w14.heap.size) slt__int64 rfl (by kernel_rfl) (by kernel_rfl) hbn0 hgn0 hw.bl.size (hw.blk hbP hbP.lt) hS ⟨(hs_).1, by decide⟩) (fun v_ w_ h_ => ⟨RlQ.of_ext hw.bl.size h_.1, h_.2⟩)
               · refine RT.step0 rfl rfl rfl (fun wr hw => ?_)
                 exact OpRun.val (.int .i64 (k_ : Int)) (.int .i64 (k_ : Int)) (by kernel_rfl) rfl ⟨RlQ.of_ext hw.bl.size (Ext.refl _), rfl⟩
               · refine RT.step1 rfl rfl rfl rfl (fun u0 wr hw h0 => ?_)
                 cases h0
                 exact OpRun.bslice #[.int .i64 (k_ : Int)] slt__int64 rfl (by decide) (by kernel_rfl) ⟨RlQ.of_ext hw.bl.size ((Ext.refl _).alloc _), _, rfl, hw.bl.size, Blk.new _ _ _⟩
               · refine RT.step2 rfl rfl rfl rfl rfl (fun u0 u1 wr hw h0 h1 => ?_)
                 obtain ⟨g0_, cap0_, cs0_, rfl, hgn0, hbn0, hsn0⟩ := h0
                 obtain ⟨g1_, rfl, hgn1, hbn1⟩ := h1
                 exact OpRun.appQ slt__int64 rfl (by kernel_rfl) (by kernel_rfl) hgn0 hbn0 hsn0 hbn1 hn_ hw.bl.size (hs_).2
               · refine RT.step0 rfl rfl rfl (fun wr hw => ?_)
                 exact OpRun.val (.int .i64 mo) (.int .i64 mo) (by kernel_rfl) rfl ⟨RlQ.of_ext hw.bl.size (Ext.refl _), rfl⟩
               · refine RT.step1 rfl rfl rfl rfl (fun u0 wr hw h0 => ?_)
                 cases h0
                 exact OpRun.val (.int .i64 (IntKind.i64.wrap (mo - 1))) (.int .i64 (mo - 1)) (by kernel_rfl) (by exact congrArg _ (IntWalk.i64_in _ (by omega))) ⟨RlQ.of_ext hw.bl.size (Ext.refl _), rfl⟩
               refine RT.endG17 (fun u0 u1 u2 u3 u4 u5 u6 u7 u8 u9 u10 u11 u12 u13 u14 u15 u16 w15 E11 f0 f1 f2 f3 f4 f5 f6 f7 f8 f9 f10 f11 f12 f13 f14 f15 f16 => ?_)
               cases f0
               cases f1
               cases f2
               cases f3
               cases f4
               cases f5
               cases f6
               cases f7
               cases f8
               obtain ⟨x9_, rfl, _, _⟩ := f9
               cases f10
               obtain ⟨x11_, y11_, _, rfl, _, _, _⟩ := f11
               cases f12
               obtain ⟨x13_, rfl, _, _⟩ := f13
               obtain ⟨g5, cap4, cs4, rfl, hgA_, B5, S4⟩ := f14
               cases f15
               cases f16
               have q_b_g5 := Nat.ne_of_lt (Nat.lt_of_lt_of_le hb.lt hgA_)
               have q_gP_g5 := Nat.ne_of_lt (Nat.lt_of_lt_of_le hbP.lt hgA_)
               have q_g1_g5 := Nat.ne_of_lt (Nat.lt_of_lt_of_le B1.lt hgA_)
               have lo_g5 := Nat.le_trans (H14).size hgA_
               have E12 : Ext w14 w15 := by unfold Ext; exact E11.bl
               replace hb := hb.ext E12
               replace hbP := hbP.ext E12
               replace B1 := B1.ext E12
               have H15 := H14.trans (Wr.of_ext E12)
               refine RT.wpAny_frame (a' := ⟨#[.pointer (some ⟨b, 0, none⟩), .agg #[.int .u64 x, .int .u64 y], .slice (some ⟨gP, 0, none⟩) n cap, .int .i64 mo, undef, .pointer (some ⟨g1, 0, none⟩), undef, undef, J3 8, J3 9, .int .i64 (f_ : Int), .int .i64 (k_ : Int), J3 12, J3 13, .int .i64 (f_ : Int), .bool (decide ((f_ : Int) < 100)), .bool false, undef, undef, undef, .bool false, J1 21, J1 22, .int .i64 (f_ : Int), .bool ((f_ : Int) == 100), undef, .int .i64 mo, .bool (mo == 0), undef, .int .i64 (k_ : Int), .bool (decide ((k_ : Int) < 100)), J3 31, J3 32, .pointer (some ⟨b, 0, none⟩), .int .i64 (k_ : Int), .pointer (some ⟨b, 0, none⟩), .pointer (some ⟨b, 0, none⟩), .pointer (some ⟨b, 0 + k_ * 2, none⟩), .int .i64 (f_ : Int), .bool (hasB (((cvP F w0 l) (k_ : Int)).1) (((cvP F w0 l) (k_ : Int)).2) (f_ : Int)), .bool (!(hasB (((cvP F w0 l) (k_ : Int)).1) (((cvP F w0 l) (k_ : Int)).2) (f_ : Int))), .pointer (some ⟨b, 0, none⟩), .pointer (some ⟨b, 0, none⟩), .pointer (some ⟨b, 201, none⟩), .int .i64 lk_, .pointer (some ⟨b, 0, none⟩), .pointer (some ⟨b, 0, none⟩), .pointer (some ⟨b, 200, none⟩), .int .i64 B, .bool (lk_ == B), J3 50, J3 51, J3 52, J3 53, .pointer (some ⟨b, 0, none⟩), .pointer (some ⟨b, 0, none⟩), .pointer (some ⟨b, 201, none⟩), .int .i64 lk_, .int .i64 (lk_ + 1), .pointer (some ⟨b, 0, none⟩), .pointer (some ⟨b, 201, none⟩), J3 61, .pointer (some ⟨b, 0, none⟩), .agg #[.int .u64 x, .int .u64 y], .pointer (some ⟨b, 0, none⟩), .int .i64 (k_ : Int), .pointer (some ⟨b, 0, none⟩), .pointer (some ⟨b, 0, none⟩), .pointer (some ⟨b, 0 + k_ * 2, none⟩), .agg #[.int .u64 (((cvP F w0 l) (k_ : Int)).1), .int .u64 (((cvP F w0 l) (k_ : Int)).2)], .agg #[.int .u64 (wo0 x (((cvP F w0 l) (k_ : Int)).1)), .int .u64 (wo1 y (((cvP F w0 l) (k_ : Int)).2))], .slice (some ⟨x9_, 0, none⟩) 0 0, .slice (some ⟨gP, 0, none⟩) n cap, .slice (some ⟨x11_, 0, none⟩) n y11_, .int .i64 (k_ : Int), .slice (some ⟨x13_, 0, none⟩) 1 1, .slice (some ⟨g5, 0, none⟩) (n + 1) cap4, .int .i64 mo, .int .i64 (mo - 1), J3 79, J3 80, J3 81, J3 82, J3 83, J3 84, J3 85, J3 86, J3 87, J3 88, J3 89, J3 90, undef], []⟩) (L' := #[true, true, true, true, true, true, true, true, true, true, true, true, true, true, true, true, true, false, false, false, false, false, false]) (by kernel_rfl) (by kernel_rfl) ?_
               refine RT.wpAny_one 17 _ (FnS w15 b 60 2 (cvP F w0 l) B g5 (stF F w0 l B (m - 1) (x, y) o (k_ : Int) (lk_ + 1))) rfl (by kernel_rfl) (by kernel_rfl) (OpRun.call 29 #[.pointer (some ⟨b, 0, none⟩), .agg #[.int .u64 (wo0 x (((cvP F w0 l) (k_ : Int)).1)), .int .u64 (wo1 y (((cvP F w0 l) (k_ : Int)).2))], .slice (some ⟨g5, 0, none⟩) (n + 1) cap4, .int .i64 (mo - 1)] (by kernel_rfl) (IH (m - 1) (hm_ (by assumption)).2.1 _ b (wo0 x (((cvP F w0 l) (k_ : Int)).1)) (wo1 y (((cvP F w0 l) (k_ : Int)).2)) (o ++ [(k_ : Int)]) (n + 1) g5 cap4 cs4 (mo - 1) (lk_ + 1) (hm_ (by assumption)).2.2.1 (wo_ok (s := (x, y)) hok (cvP_ok _)) S4 (hm_ (by assumption)).2.2.2 (Ne.symm q_b_g5) (lk_nn hk0) (lk_up hkB (by assumption)) hb B5)) (fun v_ w_ hR_ => ?_)
               obtain ⟨g6, n3, cap5, cs5, rfl, hb_, X7, B6, S5, n4, or2⟩ := hR_.got h15
               clear hR_
               clear hb; have hb := hb_; clear hb_
               refine fin_any (a' := ⟨#[.pointer (some ⟨b, 0, none⟩), .agg #[.int .u64 x, .int .u64 y], .slice (some ⟨gP, 0, none⟩) n cap, .int .i64 mo, undef, .pointer (some ⟨g1, 0, none⟩), undef, undef, J3 8, J3 9, .int .i64 (f_ : Int), .int .i64 (k_ : Int), .slice (some ⟨g6, 0, none⟩) n3 cap5, .bool (stF F w0 l B (m - 1) (x, y) o (k_ : Int) (lk_ + 1)).fd.isSome, .int .i64 (f_ : Int), .bool (decide ((f_ : Int) < 100)), .bool false, undef, undef, undef, .bool false, J1 21, J1 22, .int .i64 (f_ : Int), .bool ((f_ : Int) == 100), undef, .int .i64 mo, .bool (mo == 0), undef, .int .i64 (k_ : Int), .bool (decide ((k_ : Int) < 100)), J3 31, J3 32, .pointer (some ⟨b, 0, none⟩), .int .i64 (k_ : Int), .pointer (some ⟨b, 0, none⟩), .pointer (some ⟨b, 0, none⟩), .pointer (some ⟨b, 0 + k_ * 2, none⟩), .int .i64 (f_ : Int), .bool (hasB (((cvP F w0 l) (k_ : Int)).1) (((cvP F w0 l) (k_ : Int)).2) (f_ : Int)), .bool (!(hasB (((cvP F w0 l) (k_ : Int)).1) (((cvP F w0 l) (k_ : Int)).2) (f_ : Int))), .pointer (some ⟨b, 0, none⟩), .pointer (some ⟨b, 0, none⟩), .pointer (some ⟨b, 201, none⟩), .int .i64 lk_, .pointer (some ⟨b, 0, none⟩), .pointer (some ⟨b, 0, none⟩), .pointer (some ⟨b, 200, none⟩), .int .i64 B, .bool (lk_ == B), J3 50, J3 51, J3 52, J3 53, .pointer (some ⟨b, 0, none⟩), .pointer (some ⟨b, 0, none⟩), .pointer (some ⟨b, 201, none⟩), .int .i64 lk_, .int .i64 (lk_ + 1), .pointer (some ⟨b, 0, none⟩), .pointer (some ⟨b, 201, none⟩), .tuple #[.slice (some ⟨g6, 0, none⟩) n3 cap5, .bool (stF F w0 l B (m - 1) (x, y) o (k_ : Int) (lk_ + 1)).fd.isSome], .pointer (some ⟨b, 0, none⟩), .agg #[.int .u64 x, .int .u64 y], .pointer (some ⟨b, 0, none⟩), .int .i64 (k_ : Int), .pointer (some ⟨b, 0, none⟩), .pointer (some ⟨b, 0, none⟩), .pointer (some ⟨b, 0 + k_ * 2, none⟩), .agg #[.int .u64 (((cvP F w0 l) (k_ : Int)).1), .int .u64 (((cvP F w0 l) (k_ : Int)).2)], .agg #[.int .u64 (wo0 x (((cvP F w0 l) (k_ : Int)).1)), .int .u64 (wo1 y (((cvP F w0 l) (k_ : Int)).2))], .slice (some ⟨x9_, 0, none⟩) 0 0, .slice (some ⟨gP, 0, none⟩) n cap, .slice (some ⟨x11_, 0, none⟩) n y11_, .int .i64 (k_ : Int), .slice (some ⟨x13_, 0, none⟩) 1 1, .slice (some ⟨g5, 0, none⟩) (n + 1) cap4, .int .i64 mo, .int .i64 (mo - 1), .tuple #[.slice (some ⟨g6, 0, none⟩) n3 cap5, .bool (stF F w0 l B (m - 1) (x, y) o (k_ : Int) (lk_ + 1)).fd.isSome], .slice (some ⟨g6, 0, none⟩) n3 cap5, .bool (stF F w0 l B (m - 1) (x, y) o (k_ : Int) (lk_ + 1)).fd.isSome, J3 82, J3 83, J3 84, J3 85, J3 86, J3 87, J3 88, J3 89, J3 90, undef], []⟩) ?_ (fun hfin_ => ?_)
               rotate_left
               · refine RT.wpAny_frame (a' := ⟨#[.pointer (some ⟨b, 0, none⟩), .agg #[.int .u64 x, .int .u64 y], .slice (some ⟨gP, 0, none⟩) n cap, .int .i64 mo, undef, .pointer (some ⟨g1, 0, none⟩), undef, undef, J3 8, J3 9, .int .i64 (f_ : Int), .int .i64 (k_ : Int), J3 12, J3 13, .int .i64 (f_ : Int), .bool (decide ((f_ : Int) < 100)), .bool false, undef, undef, undef, .bool false, J1 21, J1 22, .int .i64 (f_ : Int), .bool ((f_ : Int) == 100), undef, .int .i64 mo, .bool (mo == 0), undef, .int .i64 (k_ : Int), .bool (decide ((k_ : Int) < 100)), J3 31, J3 32, .pointer (some ⟨b, 0, none⟩), .int .i64 (k_ : Int), .pointer (some ⟨b, 0, none⟩), .pointer (some ⟨b, 0, none⟩), .pointer (some ⟨b, 0 + k_ * 2, none⟩), .int .i64 (f_ : Int), .bool (hasB (((cvP F w0 l) (k_ : Int)).1) (((cvP F w0 l) (k_ : Int)).2) (f_ : Int)), .bool (!(hasB (((cvP F w0 l) (k_ : Int)).1) (((cvP F w0 l) (k_ : Int)).2) (f_ : Int))), .pointer (some ⟨b, 0, none⟩), .pointer (some ⟨b, 0, none⟩), .pointer (some ⟨b, 201, none⟩), .int .i64 lk_, .pointer (some ⟨b, 0, none⟩), .pointer (some ⟨b, 0, none⟩), .pointer (some ⟨b, 200, none⟩), .int .i64 B, .bool (lk_ == B), J3 50, J3 51, J3 52, J3 53, .pointer (some ⟨b, 0, none⟩), .pointer (some ⟨b, 0, none⟩), .pointer (some ⟨b, 201, none⟩), .int .i64 lk_, .int .i64 (lk_ + 1), .pointer (some ⟨b, 0, none⟩), .pointer (some ⟨b, 201, none⟩), J3 61, .pointer (some ⟨b, 0, none⟩), .agg #[.int .u64 x, .int .u64 y], .pointer (some ⟨b, 0, none⟩), .int .i64 (k_ : Int), .pointer (some ⟨b, 0, none⟩), .pointer (some ⟨b, 0, none⟩), .pointer (some ⟨b, 0 + k_ * 2, none⟩), .agg #[.int .u64 (((cvP F w0 l) (k_ : Int)).1), .int .u64 (((cvP F w0 l) (k_ : Int)).2)], .agg #[.int .u64 (wo0 x (((cvP F w0 l) (k_ : Int)).1)), .int .u64 (wo1 y (((cvP F w0 l) (k_ : Int)).2))], .slice (some ⟨x9_, 0, none⟩) 0 0, .slice (some ⟨gP, 0, none⟩) n cap, .slice (some ⟨x11_, 0, none⟩) n y11_, .int .i64 (k_ : Int), .slice (some ⟨x13_, 0, none⟩) 1 1, .slice (some ⟨g5, 0, none⟩) (n + 1) cap4, .int .i64 mo, .int .i64 (mo - 1), .tuple #[.slice (some ⟨g6, 0, none⟩) n3 cap5, .bool (stF F w0 l B (m - 1) (x, y) o (k_ : Int) (lk_ + 1)).fd.isSome], J3 80, J3 81, J3 82, J3 83, J3 84, J3 85, J3 86, J3 87, J3 88, J3 89, J3 90, undef], []⟩) (L' := #[true, true, true, true, true, true, true, true, true, true, true, true, true, true, true, true, true, true, false, false, false, false, false]) (by kernel_rfl) (by kernel_rfl) ?_
                 refine wpAny_p1 18 _ (.tuple #[.slice (some ⟨g6, 0, none⟩) n3 cap5, .bool (stF F w0 l B (m - 1) (x, y) o (k_ : Int) (lk_ + 1)).fd.isSome]) rfl (by kernel_rfl) (by kernel_rfl) (OpRun.val (.tuple #[.slice (some ⟨g6, 0, none⟩) n3 cap5, .bool (stF F w0 l B (m - 1) (x, y) o (k_ : Int) (lk_ + 1)).fd.isSome]) (.tuple #[.slice (some ⟨g6, 0, none⟩) n3 cap5, .bool (stF F w0 l B (m - 1) (x, y) o (k_ : Int) (lk_ + 1)).fd.isSome]) (by kernel_rfl) rfl ⟨rfl, rfl⟩) ?_
                 refine RT.wpAny_two 19 20 _ _ (.slice (some ⟨g6, 0, none⟩) n3 cap5) (.bool (stF F w0 l B (m - 1) (x, y) o (k_ : Int) (lk_ + 1)).fd.isSome) rfl rfl (by kernel_rfl) (by kernel_rfl) (by kernel_rfl) (OpRun.val (.slice (some ⟨g6, 0, none⟩) n3 cap5) (.slice (some ⟨g6, 0, none⟩) n3 cap5) (by kernel_rfl) rfl ⟨rfl, rfl⟩) (OpRun.val (.bool (stF F w0 l B (m - 1) (x, y) o (k_ : Int) (lk_ + 1)).fd.isSome) (.bool (stF F w0 l B (m - 1) (x, y) o (k_ : Int) (lk_ + 1)).fd.isSome) (by kernel_rfl) rfl ⟨rfl, rfl⟩) ?_ ?_
                 · refine RT.wpAny_two 20 21 _ _ (.bool (stF F w0 l B (m - 1) (x, y) o (k_ : Int) (lk_ + 1)).fd.isSome) (.slice (some ⟨g6, 0, none⟩) n3 cap5) rfl rfl (by kernel_rfl) (by kernel_rfl) (by kernel_rfl) (OpRun.val (.bool (stF F w0 l B (m - 1) (x, y) o (k_ : Int) (lk_ + 1)).fd.isSome) (.bool (stF F w0 l B (m - 1) (x, y) o (k_ : Int) (lk_ + 1)).fd.isSome) (by kernel_rfl) rfl ⟨rfl, rfl⟩) (OpRun.val (.slice (some ⟨g6, 0, none⟩) n3 cap5) (.slice (some ⟨g6, 0, none⟩) n3 cap5) (by kernel_rfl) rfl ⟨rfl, rfl⟩) ?_ ?_
                   · refine wpAny_p1 21 _ (.slice (some ⟨g6, 0, none⟩) n3 cap5) rfl (by kernel_rfl) (by kernel_rfl) (OpRun.val (.slice (some ⟨g6, 0, none⟩) n3 cap5) (.slice (some ⟨g6, 0, none⟩) n3 cap5) (by kernel_rfl) rfl ⟨rfl, rfl⟩) ?_
                     refine wpAny_p1 22 _ (.bool (stF F w0 l B (m - 1) (x, y) o (k_ : Int) (lk_ + 1)).fd.isSome) rfl (by kernel_rfl) (by kernel_rfl) (OpRun.val (.bool (stF F w0 l B (m - 1) (x, y) o (k_ : Int) (lk_ + 1)).fd.isSome) (.bool (stF F w0 l B (m - 1) (x, y) o (k_ : Int) (lk_ + 1)).fd.isSome) (by kernel_rfl) rfl ⟨rfl, rfl⟩) ?_
                     exact wpAny_fin (by kernel_rfl) (by kernel_rfl) hfin_
                   · refine wpAny_p1 20 _ (.bool (stF F w0 l B (m - 1) (x, y) o (k_ : Int) (lk_ + 1)).fd.isSome) rfl (by kernel_rfl) (by kernel_rfl) (OpRun.val (.bool (stF F w0 l B (m - 1) (x, y) o (k_ : Int) (lk_ + 1)).fd.isSome) (.bool (stF F w0 l B (m - 1) (x, y) o (k_ : Int) (lk_ + 1)).fd.isSome) (by kernel_rfl) rfl ⟨rfl, rfl⟩) ?_
                     refine wpAny_p1 22 _ (.bool (stF F w0 l B (m - 1) (x, y) o (k_ : Int) (lk_ + 1)).fd.isSome) rfl (by kernel_rfl) (by kernel_rfl) (OpRun.val (.bool (stF F w0 l B (m - 1) (x, y) o (k_ : Int) (lk_ + 1)).fd.isSome) (.bool (stF F w0 l B (m - 1) (x, y) o (k_ : Int) (lk_ + 1)).fd.isSome) (by kernel_rfl) rfl ⟨rfl, rfl⟩) ?_
                     exact wpAny_fin (by kernel_rfl) (by kernel_rfl) hfin_
                 · refine wpAny_p1 19 _ (.slice (some ⟨g6, 0, none⟩) n3 cap5) rfl (by kernel_rfl) (by kernel_rfl) (OpRun.val (.slice (some ⟨g6, 0, none⟩) n3 cap5) (.slice (some ⟨g6, 0, none⟩) n3 cap5) (by kernel_rfl) rfl ⟨rfl, rfl⟩) ?_
                   refine wpAny_p1 21 _ (.slice (some ⟨g6, 0, none⟩) n3 cap5) rfl (by kernel_rfl) (by kernel_rfl) (OpRun.val (.slice (some ⟨g6, 0, none⟩) n3 cap5) (.slice (some ⟨g6, 0, none⟩) n3 cap5) (by kernel_rfl) rfl ⟨rfl, rfl⟩) ?_
                   refine wpAny_p1 22 _ (.bool (stF F w0 l B (m - 1) (x, y) o (k_ : Int) (lk_ + 1)).fd.isSome) rfl (by kernel_rfl) (by kernel_rfl) (OpRun.val (.bool (stF F w0 l B (m - 1) (x, y) o (k_ : Int) (lk_ + 1)).fd.isSome) (.bool (stF F w0 l B (m - 1) (x, y) o (k_ : Int) (lk_ + 1)).fd.isSome) (by kernel_rfl) rfl ⟨rfl, rfl⟩) ?_
                   exact wpAny_fin (by kernel_rfl) (by kernel_rfl) hfin_
               have lo_g6 := Wr.lo or2 lo_g5 (H15).size
               refine then_normal ?_
               refine wsr ?_
               refine wv (.bool ((stF F w0 l B (m - 1) (x, y) o (k_ : Int) (lk_ + 1)).fd.isSome)) ?_
               refine wbl 82 true h15 ?_
               refine wv (.bool true) ?_
               refine wsk ?_
               refine wsk ?_
               refine wsk ?_
               refine wsk ?_
               refine wv (.bool true) ?_
               refine wpList_nil (then_normal ?_)
               refine wct ?_
               refine wsr ?_
               refine wv (.slice (some ⟨g6, 0, none⟩) n3 cap5) ?_
               refine wv (.bool ((stF F w0 l B (m - 1) (x, y) o (k_ : Int) (lk_ + 1)).fd.isSome)) ?_
               refine wbl 90 true h15 ?_
               refine wv (.slice (some ⟨g6, 0, none⟩) n3 cap5) ?_
               refine wv (.bool true) ?_
               refine wpList_nil (then_normal ?_)
               refine wp_ret ?_
               refine block_ret (then_ret (then_ret (block_ret (then_ret ?_))))
               refine ret2 (.slice (some ⟨g6, 0, none⟩) n3 cap5) (.bool true) rfl ?_ ?_ rfl ?_
               · exact resT (by kernel_rfl)
               · exact resT (by kernel_rfl)
               have H16 := H15.trans X7
               exact FnR.yes (hI.symm.trans (sp_ret hok hf_ (lt100 (by assumption)) (by assumption) (by assumption) (.inl (by assumption)))) (fd_get (by assumption)) (by first | rfl | assumption) rfl rfl hb H16 B6 S5 n4 (.inr lo_g6)
             · skip
               refine wp_frame (a' := ⟨#[.pointer (some ⟨b, 0, none⟩), .agg #[.int .u64 x, .int .u64 y], .slice (some ⟨gP, 0, none⟩) n cap, .int .i64 mo, undef, .pointer (some ⟨g1, 0, none⟩), undef, undef, J3 8, J3 9, .int .i64 (f_ : Int), .int .i64 (k_ : Int), J3 12, J3 13, .int .i64 (f_ : Int), .bool (decide ((f_ : Int) < 100)), .bool false, undef, undef, undef, .bool false, J1 21, J1 22, .int .i64 (f_ : Int), .bool ((f_ : Int) == 100), undef, .int .i64 mo, .bool (mo == 0), undef, .int .i64 (k_ : Int), .bool (decide ((k_ : Int) < 100)), J3 31, J3 32, .pointer (some ⟨b, 0, none⟩), .int .i64 (k_ : Int), .pointer (some ⟨b, 0, none⟩), .pointer (some ⟨b, 0, none⟩), .pointer (some ⟨b, 0 + k_ * 2, none⟩), .int .i64 (f_ : Int), .bool (hasB (((cvP F w0 l) (k_ : Int)).1) (((cvP F w0 l) (k_ : Int)).2) (f_ : Int)), .bool (!(hasB (((cvP F w0 l) (k_ : Int)).1) (((cvP F w0 l) (k_ : Int)).2) (f_ : Int))), .pointer (some ⟨b, 0, none⟩), .pointer (some ⟨b, 0, none⟩), .pointer (some ⟨b, 201, none⟩), .int .i64 lk_, .pointer (some ⟨b, 0, none⟩), .pointer (some ⟨b, 0, none⟩), .pointer (some ⟨b, 200, none⟩), .int .i64 B, .bool (lk_ == B), J3 50, J3 51, J3 52, J3 53, .pointer (some ⟨b, 0, none⟩), .pointer (some ⟨b, 0, none⟩), .pointer (some ⟨b, 201, none⟩), .int .i64 lk_, .int .i64 (lk_ + 1), .pointer (some ⟨b, 0, none⟩), .pointer (some ⟨b, 201, none⟩), J3 61, J3 62, J3 63, J3 64, J3 65, J3 66, J3 67, J3 68, J3 69, J3 70, J3 71, J3 72, J3 73, J3 74, J3 75, J3 76, J3 77, J3 78, J3 79, J3 80, J3 81, J3 82, J3 83, J3 84, J3 85, J3 86, J3 87, J3 88, J3 89, J3 90, undef], []⟩) (by kernel_rfl) ?_
               replace B1 := X6.blk ((B1.ext E9).ext E10) (Ne.symm q_b_g1)
               replace hbP := X6.blk ((hbP.ext E9).ext E10) (Ne.symm (Ne.symm hnP))
               refine RT.region_goB 17 6 [62, 63, 64, 65, 66, 67, 68, 69, 70, 71, 72, 73, 74, 75, 76, 77, 78] [[], [], [], [], [2], [4], [5, 3], [6], [1, 7], [], [], [9, 10, 8], [], [12], [11, 13], [], [15]] (RlQ w14.heap.size 2 n (k_ : Int))
                (fun i_ => ([.val (.pointer (some ⟨b, 0, none⟩)), .val (.agg #[.int .u64 x, .int .u64 y]), .val (.pointer (some ⟨b, 0, none⟩)), .val (.int .i64 (k_ : Int)), .val (.pointer (some ⟨b, 0, none⟩)), .val (.pointer (some ⟨b, 0, none⟩)), .val (.pointer (some ⟨b, 0 + k_ * 2, none⟩)), .val (.agg #[.int .u64 (((cvP F w0 l) (k_ : Int)).1), .int .u64 (((cvP F w0 l) (k_ : Int)).2)]), .val (.agg #[.int .u64 (wo0 x (((cvP F w0 l) (k_ : Int)).1)), .int .u64 (wo1 y (((cvP F w0 l) (k_ : Int)).2))]), (FqNil w14.heap.size 2 n (k_ : Int)), .val (.slice (some ⟨gP, 0, none⟩) n cap), (FqLst w14.heap.size 2 n (k_ : Int) o), .val (.int .i64 (k_ : Int)), (FqOne w14.heap.size 2 n (k_ : Int)), (FqApp w14.heap.size 2 n (k_ : Int) o hn_), .val (.int .i64 mo), .val (.int .i64 (mo - 1))] : List (RT.Fct (RlQ w14.heap.size 2 n (k_ : Int)))).getD i_ .any)
                (by kernel_rfl) (by kernel_rfl) rfl (by decide) (by simp) RlQ.trans RlQ.drew rfl (all_succ (all_succ (all_succ (all_succ (all_succ (all_succ (all_succ (all_succ (all_succ (all_succ (all_succ (all_succ (all_succ (all_succ (all_succ (all_succ (all_succ all_zero ?_) ?_) ?_) ?_) ?_) ?_) ?_) ?_) ?_) ?_) ?_) ?_) ?_) ?_) ?_) ?_) ?_) ?_
               · refine RT.step0 rfl rfl rfl (fun wr hw => ?_)
                 exact OpRun.val (.pointer (some ⟨b, 0, none⟩)) (.pointer (some ⟨b, 0, none⟩)) (by kernel_rfl) rfl ⟨RlQ.of_ext hw.bl.size (Ext.refl _), rfl⟩
               · refine RT.step0 rfl rfl rfl (fun wr hw => ?_)
                 with_reducible refine OpRun.row (x := (.tmp 5)) row_impl_Cells (hw.blk B1 B1.lt) ?_ ?_ ?_ ?_
                 · rfl
                 · rfl
                 · kernel_rfl
                 · exact ⟨RlQ.of_ext hw.bl.size (Ext.refl _), rfl⟩
               · refine RT.step0 rfl rfl rfl (fun wr hw => ?_)
                 exact OpRun.val (.pointer (some ⟨b, 0, none⟩)) (.pointer (some ⟨b, 0, none⟩)) (by kernel_rfl) rfl ⟨RlQ.of_ext hw.bl.size (Ext.refl _), rfl⟩
               · refine RT.step0 rfl rfl rfl (fun wr hw => ?_)
                 exact OpRun.val (.int .i64 (k_ : Int)) (.int .i64 (k_ : Int)) (by kernel_rfl) rfl ⟨RlQ.of_ext hw.bl.size (Ext.refl _), rfl⟩
               · refine RT.step1 rfl rfl rfl rfl (fun u0 wr hw h0 => ?_)
                 cases h0
                 exact OpRun.val (.pointer (some ⟨b, 0, none⟩)) (.pointer (some ⟨b, 0, none⟩)) (by kernel_rfl) rfl ⟨RlQ.of_ext hw.bl.size (Ext.refl _), rfl⟩
               · refine RT.step1 rfl rfl rfl rfl (fun u0 wr hw h0 => ?_)
                 cases h0
                 exact OpRun.val (.pointer (some ⟨b, 0, none⟩)) (.pointer (some ⟨b, 0, none⟩)) (by kernel_rfl) rfl ⟨RlQ.of_ext hw.bl.size (Ext.refl _), rfl⟩
               · refine RT.step2 rfl rfl rfl rfl rfl (fun u0 u1 wr hw h0 h1 => ?_)
                 cases h0
                 cases h1
                 exact OpRun.ixm (i := k_) (k := .i64) (g := b) (off := 0) arrm__100_impl_Cells rfl (by kernel_rfl) (by kernel_rfl) (by omega) ⟨RlQ.of_ext hw.bl.size (Ext.refl _), rfl⟩
               · refine RT.step1 rfl rfl rfl rfl (fun u0 wr hw h0 => ?_)
                 cases h0
                 exact OpRun.mid (cs := [.int .u64 (((cvP F w0 l) (k_ : Int)).1), .int .u64 (((cvP F w0 l) (k_ : Int)).2)]) row_impl_Cells rfl (srC_range (hw.blk hb hb.lt) (by omega)) rfl (by kernel_rfl) ⟨RlQ.of_ext hw.bl.size (Ext.refl _), rfl⟩
               · refine RT.step2 rfl rfl rfl rfl rfl (fun u0 u1 wr hw h0 h1 => ?_)
                 cases h0
                 cases h1
                 exact OpRun.call 48 #[.agg #[.int .u64 x, .int .u64 y], .agg #[.int .u64 (((cvP F w0 l) (k_ : Int)).1), .int .u64 (((cvP F w0 l) (k_ : Int)).2)]] (by kernel_rfl) ((sWithout_any x y (((cvP F w0 l) (k_ : Int)).1) (((cvP F w0 l) (k_ : Int)).2) (by first | assumption | exact okP.w2 hok | exact okP.w2 (cvP_ok _) | exact okP.w2 (setC_ok 100 (Nat.le_refl _))) (by first | assumption | exact okP.w2 hok | exact okP.w2 (cvP_ok _) | exact okP.w2 (setC_ok 100 (Nat.le_refl _))) _).mono fun e w1 ⟨he, hb⟩ => ⟨_, he, RlQ.of_ext hw.bl.size hb, rfl⟩)
               · refine RT.step0 rfl rfl rfl (fun wr hw => ?_)
                 exact OpRun.bslice #[] slt__int64 rfl (by decide) (by kernel_rfl) ⟨RlQ.of_ext hw.bl.size ((Ext.refl _).alloc _), _, rfl, hw.bl.size, Blk.new _ _ _⟩
               · refine RT.step0 rfl rfl rfl (fun wr hw => ?_)
                 exact OpRun.val (.slice (some ⟨gP, 0, none⟩) n cap) (.slice (some ⟨gP, 0, none⟩) n cap) (by kernel_rfl) rfl ⟨RlQ.of_ext hw.bl.size (Ext.refl _), rfl⟩
               · refine RT.step3 rfl rfl rfl rfl rfl rfl (fun u0 u1 u2 wr hw h0 h1 h2 => ?_)
                 obtain ⟨g0_, rfl, hgn0, hbn0⟩ := h0
                 cases h1
                 cases h2
                 exact OpRun.mono (OpRun.app0 (B := w14.heap.size) slt__int64 rfl (by kernel_rfl) (by kernel_rfl) hbn0 hgn0 hw.bl.size (hw.blk hbP hbP.lt) hS ⟨(hs_).1, by decide⟩) (fun v_ w_ h_ => ⟨RlQ.of_ext hw.bl.size h_.1, h_.2⟩)
               · refine RT.step0 rfl rfl rfl (fun wr hw => ?_)
                 exact OpRun.val (.int .i64 (k_ : Int)) (.int .i64 (k_ : Int)) (by kernel_rfl) rfl ⟨RlQ.of_ext hw.bl.size (Ext.refl _), rfl⟩
               · refine RT.step1 rfl rfl rfl rfl (fun u0 wr hw h0 => ?_)
                 cases h0
                 exact OpRun.bslice #[.int .i64 (k_ : Int)] slt__int64 rfl (by decide) (by kernel_rfl) ⟨RlQ.of_ext hw.bl.size ((Ext.refl _).alloc _), _, rfl, hw.bl.size, Blk.new _ _ _⟩
               · refine RT.step2 rfl rfl rfl rfl rfl (fun u0 u1 wr hw h0 h1 => ?_)
                 obtain ⟨g0_, cap0_, cs0_, rfl, hgn0, hbn0, hsn0⟩ := h0
                 obtain ⟨g1_, rfl, hgn1, hbn1⟩ := h1
                 exact OpRun.appQ slt__int64 rfl (by kernel_rfl) (by kernel_rfl) hgn0 hbn0 hsn0 hbn1 hn_ hw.bl.size (hs_).2
               · refine RT.step0 rfl rfl rfl (fun wr hw => ?_)
                 exact OpRun.val (.int .i64 mo) (.int .i64 mo) (by kernel_rfl) rfl ⟨RlQ.of_ext hw.bl.size (Ext.refl _), rfl⟩
               · refine RT.step1 rfl rfl rfl rfl (fun u0 wr hw h0 => ?_)
                 cases h0
                 exact OpRun.val (.int .i64 (IntKind.i64.wrap (mo - 1))) (.int .i64 (mo - 1)) (by kernel_rfl) (by exact congrArg _ (IntWalk.i64_in _ (by omega))) ⟨RlQ.of_ext hw.bl.size (Ext.refl _), rfl⟩
               refine RT.endG17 (fun u0 u1 u2 u3 u4 u5 u6 u7 u8 u9 u10 u11 u12 u13 u14 u15 u16 w17 E13 f0 f1 f2 f3 f4 f5 f6 f7 f8 f9 f10 f11 f12 f13 f14 f15 f16 => ?_)
               cases f0
               cases f1
               cases f2
               cases f3
               cases f4
               cases f5
               cases f6
               cases f7
               cases f8
               obtain ⟨x9_, rfl, _, _⟩ := f9
               cases f10
               obtain ⟨x11_, y11_, _, rfl, _, _, _⟩ := f11
               cases f12
               obtain ⟨x13_, rfl, _, _⟩ := f13
               obtain ⟨g7, cap6, cs6, rfl, hgA_, B7, S6⟩ := f14
               cases f15
               cases f16
               have q_b_g7 := Nat.ne_of_lt (Nat.lt_of_lt_of_le hb.lt hgA_)
               have q_gP_g7 := Nat.ne_of_lt (Nat.lt_of_lt_of_le hbP.lt hgA_)
               have q_g1_g7 := Nat.ne_of_lt (Nat.lt_of_lt_of_le B1.lt hgA_)
               have lo_g7 := Nat.le_trans (H14).size hgA_
               have E14 : Ext w14 w17 := by unfold Ext; exact E13.bl
               replace hb := hb.ext E14
               replace hbP := hbP.ext E14
               replace B1 := B1.ext E14
               have H17 := H14.trans (Wr.of_ext E14)
               refine RT.wpAny_frame (a' := ⟨#[.pointer (some ⟨b, 0, none⟩), .agg #[.int .u64 x, .int .u64 y], .slice (some ⟨gP, 0, none⟩) n cap, .int .i64 mo, undef, .pointer (some ⟨g1, 0, none⟩), undef, undef, J3 8, J3 9, .int .i64 (f_ : Int), .int .i64 (k_ : Int), J3 12, J3 13, .int .i64 (f_ : Int), .bool (decide ((f_ : Int) < 100)), .bool false, undef, undef, undef, .bool false, J1 21, J1 22, .int .i64 (f_ : Int), .bool ((f_ : Int) == 100), undef, .int .i64 mo, .bool (mo == 0), undef, .int .i64 (k_ : Int), .bool (decide ((k_ : Int) < 100)), J3 31, J3 32, .pointer (some ⟨b, 0, none⟩), .int .i64 (k_ : Int), .pointer (some ⟨b, 0, none⟩), .pointer (some ⟨b, 0, none⟩), .pointer (some ⟨b, 0 + k_ * 2, none⟩), .int .i64 (f_ : Int), .bool (hasB (((cvP F w0 l) (k_ : Int)).1) (((cvP F w0 l) (k_ : Int)).2) (f_ : Int)), .bool (!(hasB (((cvP F w0 l) (k_ : Int)).1) (((cvP F w0 l) (k_ : Int)).2) (f_ : Int))), .pointer (some ⟨b, 0, none⟩), .pointer (some ⟨b, 0, none⟩), .pointer (some ⟨b, 201, none⟩), .int .i64 lk_, .pointer (some ⟨b, 0, none⟩), .pointer (some ⟨b, 0, none⟩), .pointer (some ⟨b, 200, none⟩), .int .i64 B, .bool (lk_ == B), J3 50, J3 51, J3 52, J3 53, .pointer (some ⟨b, 0, none⟩), .pointer (some ⟨b, 0, none⟩), .pointer (some ⟨b, 201, none⟩), .int .i64 lk_, .int .i64 (lk_ + 1), .pointer (some ⟨b, 0, none⟩), .pointer (some ⟨b, 201, none⟩), J3 61, .pointer (some ⟨b, 0, none⟩), .agg #[.int .u64 x, .int .u64 y], .pointer (some ⟨b, 0, none⟩), .int .i64 (k_ : Int), .pointer (some ⟨b, 0, none⟩), .pointer (some ⟨b, 0, none⟩), .pointer (some ⟨b, 0 + k_ * 2, none⟩), .agg #[.int .u64 (((cvP F w0 l) (k_ : Int)).1), .int .u64 (((cvP F w0 l) (k_ : Int)).2)], .agg #[.int .u64 (wo0 x (((cvP F w0 l) (k_ : Int)).1)), .int .u64 (wo1 y (((cvP F w0 l) (k_ : Int)).2))], .slice (some ⟨x9_, 0, none⟩) 0 0, .slice (some ⟨gP, 0, none⟩) n cap, .slice (some ⟨x11_, 0, none⟩) n y11_, .int .i64 (k_ : Int), .slice (some ⟨x13_, 0, none⟩) 1 1, .slice (some ⟨g7, 0, none⟩) (n + 1) cap6, .int .i64 mo, .int .i64 (mo - 1), J3 79, J3 80, J3 81, J3 82, J3 83, J3 84, J3 85, J3 86, J3 87, J3 88, J3 89, J3 90, undef], []⟩) (L' := #[true, true, true, true, true, true, true, true, true, true, true, true, true, true, true, true, true, false, false, false, false, false, false]) (by kernel_rfl) (by kernel_rfl) ?_
               refine RT.wpAny_one 17 _ (FnS w17 b 60 2 (cvP F w0 l) B g7 (stF F w0 l B (m - 1) (x, y) o (k_ : Int) (lk_ + 1))) rfl (by kernel_rfl) (by kernel_rfl) (OpRun.call 29 #[.pointer (some ⟨b, 0, none⟩), .agg #[.int .u64 (wo0 x (((cvP F w0 l) (k_ : Int)).1)), .int .u64 (wo1 y (((cvP F w0 l) (k_ : Int)).2))], .slice (some ⟨g7, 0, none⟩) (n + 1) cap6, .int .i64 (mo - 1)] (by kernel_rfl) (IH (m - 1) (hm_ (by assumption)).2.1 _ b (wo0 x (((cvP F w0 l) (k_ : Int)).1)) (wo1 y (((cvP F w0 l) (k_ : Int)).2)) (o ++ [(k_ : Int)]) (n + 1) g7 cap6 cs6 (mo - 1) (lk_ + 1) (hm_ (by assumption)).2.2.1 (wo_ok (s := (x, y)) hok (cvP_ok _)) S6 (hm_ (by assumption)).2.2.2 (Ne.symm q_b_g7) (lk_nn hk0) (lk_up hkB (by assumption)) hb B7)) (fun v_ w_ hR_ => ?_)
               obtain ⟨u2, rfl, hb_, X8⟩ := hR_.not
               clear hR_
               clear hb; have hb := hb_; clear hb_
               refine fin_any (a' := ⟨#[.pointer (some ⟨b, 0, none⟩), .agg #[.int .u64 x, .int .u64 y], .slice (some ⟨gP, 0, none⟩) n cap, .int .i64 mo, undef, .pointer (some ⟨g1, 0, none⟩), undef, undef, J3 8, J3 9, .int .i64 (f_ : Int), .int .i64 (k_ : Int), u2, .bool (stF F w0 l B (m - 1) (x, y) o (k_ : Int) (lk_ + 1)).fd.isSome, .int .i64 (f_ : Int), .bool (decide ((f_ : Int) < 100)), .bool false, undef, undef, undef, .bool false, J1 21, J1 22, .int .i64 (f_ : Int), .bool ((f_ : Int) == 100), undef, .int .i64 mo, .bool (mo == 0), undef, .int .i64 (k_ : Int), .bool (decide ((k_ : Int) < 100)), J3 31, J3 32, .pointer (some ⟨b, 0, none⟩), .int .i64 (k_ : Int), .pointer (some ⟨b, 0, none⟩), .pointer (some ⟨b, 0, none⟩), .pointer (some ⟨b, 0 + k_ * 2, none⟩), .int .i64 (f_ : Int), .bool (hasB (((cvP F w0 l) (k_ : Int)).1) (((cvP F w0 l) (k_ : Int)).2) (f_ : Int)), .bool (!(hasB (((cvP F w0 l) (k_ : Int)).1) (((cvP F w0 l) (k_ : Int)).2) (f_ : Int))), .pointer (some ⟨b, 0, none⟩), .pointer (some ⟨b, 0, none⟩), .pointer (some ⟨b, 201, none⟩), .int .i64 lk_, .pointer (some ⟨b, 0, none⟩), .pointer (some ⟨b, 0, none⟩), .pointer (some ⟨b, 200, none⟩), .int .i64 B, .bool (lk_ == B), J3 50, J3 51, J3 52, J3 53, .pointer (some ⟨b, 0, none⟩), .pointer (some ⟨b, 0, none⟩), .pointer (some ⟨b, 201, none⟩), .int .i64 lk_, .int .i64 (lk_ + 1), .pointer (some ⟨b, 0, none⟩), .pointer (some ⟨b, 201, none⟩), .tuple #[u2, .bool (stF F w0 l B (m - 1) (x, y) o (k_ : Int) (lk_ + 1)).fd.isSome], .pointer (some ⟨b, 0, none⟩), .agg #[.int .u64 x, .int .u64 y], .pointer (some ⟨b, 0, none⟩), .int .i64 (k_ : Int), .pointer (some ⟨b, 0, none⟩), .pointer (some ⟨b, 0, none⟩), .pointer (some ⟨b, 0 + k_ * 2, none⟩), .agg #[.int .u64 (((cvP F w0 l) (k_ : Int)).1), .int .u64 (((cvP F w0 l) (k_ : Int)).2)], .agg #[.int .u64 (wo0 x (((cvP F w0 l) (k_ : Int)).1)), .int .u64 (wo1 y (((cvP F w0 l) (k_ : Int)).2))], .slice (some ⟨x9_, 0, none⟩) 0 0, .slice (some ⟨gP, 0, none⟩) n cap, .slice (some ⟨x11_, 0, none⟩) n y11_, .int .i64 (k_ : Int), .slice (some ⟨x13_, 0, none⟩) 1 1, .slice (some ⟨g7, 0, none⟩) (n + 1) cap6, .int .i64 mo, .int .i64 (mo - 1), .tuple #[u2, .bool (stF F w0 l B (m - 1) (x, y) o (k_ : Int) (lk_ + 1)).fd.isSome], u2, .bool (stF F w0 l B (m - 1) (x, y) o (k_ : Int) (lk_ + 1)).fd.isSome, J3 82, J3 83, J3 84, J3 85, J3 86, J3 87, J3 88, J3 89, J3 90, undef], []⟩) ?_ (fun hfin_ => ?_)
               rotate_left
               · refine RT.wpAny_frame (a' := ⟨#[.pointer (some ⟨b, 0, none⟩), .agg #[.int .u64 x, .int .u64 y], .slice (some ⟨gP, 0, none⟩) n cap, .int .i64 mo, undef, .pointer (some ⟨g1, 0, none⟩), undef, undef, J3 8, J3 9, .int .i64 (f_ : Int), .int .i64 (k_ : Int), J3 12, J3 13, .int .i64 (f_ : Int), .bool (decide ((f_ : Int) < 100)), .bool false, undef, undef, undef, .bool false, J1 21, J1 22, .int .i64 (f_ : Int), .bool ((f_ : Int) == 100), undef, .int .i64 mo, .bool (mo == 0), undef, .int .i64 (k_ : Int), .bool (decide ((k_ : Int) < 100)), J3 31, J3 32, .pointer (some ⟨b, 0, none⟩), .int .i64 (k_ : Int), .pointer (some ⟨b, 0, none⟩), .pointer (some ⟨b, 0, none⟩), .pointer (some ⟨b, 0 + k_ * 2, none⟩), .int .i64 (f_ : Int), .bool (hasB (((cvP F w0 l) (k_ : Int)).1) (((cvP F w0 l) (k_ : Int)).2) (f_ : Int)), .bool (!(hasB (((cvP F w0 l) (k_ : Int)).1) (((cvP F w0 l) (k_ : Int)).2) (f_ : Int))), .pointer (some ⟨b, 0, none⟩), .pointer (some ⟨b, 0, none⟩), .pointer (some ⟨b, 201, none⟩), .int .i64 lk_, .pointer (some ⟨b, 0, none⟩), .pointer (some ⟨b, 0, none⟩), .pointer (some ⟨b, 200, none⟩), .int .i64 B, .bool (lk_ == B), J3 50, J3 51, J3 52, J3 53, .pointer (some ⟨b, 0, none⟩), .pointer (some ⟨b, 0, none⟩), .pointer (some ⟨b, 201, none⟩), .int .i64 lk_, .int .i64 (lk_ + 1), .pointer (some ⟨b, 0, none⟩), .pointer (some ⟨b, 201, none⟩), J3 61, .pointer (some ⟨b, 0, none⟩), .agg #[.int .u64 x, .int .u64 y], .pointer (some ⟨b, 0, none⟩), .int .i64 (k_ : Int), .pointer (some ⟨b, 0, none⟩), .pointer (some ⟨b, 0, none⟩), .pointer (some ⟨b, 0 + k_ * 2, none⟩), .agg #[.int .u64 (((cvP F w0 l) (k_ : Int)).1), .int .u64 (((cvP F w0 l) (k_ : Int)).2)], .agg #[.int .u64 (wo0 x (((cvP F w0 l) (k_ : Int)).1)), .int .u64 (wo1 y (((cvP F w0 l) (k_ : Int)).2))], .slice (some ⟨x9_, 0, none⟩) 0 0, .slice (some ⟨gP, 0, none⟩) n cap, .slice (some ⟨x11_, 0, none⟩) n y11_, .int .i64 (k_ : Int), .slice (some ⟨x13_, 0, none⟩) 1 1, .slice (some ⟨g7, 0, none⟩) (n + 1) cap6, .int .i64 mo, .int .i64 (mo - 1), .tuple #[u2, .bool (stF F w0 l B (m - 1) (x, y) o (k_ : Int) (lk_ + 1)).fd.isSome], J3 80, J3 81, J3 82, J3 83, J3 84, J3 85, J3 86, J3 87, J3 88, J3 89, J3 90, undef], []⟩) (L' := #[true, true, true, true, true, true, true, true, true, true, true, true, true, true, true, true, true, true, false, false, false, false, false]) (by kernel_rfl) (by kernel_rfl) ?_
                 refine wpAny_p1 18 _ (.tuple #[u2, .bool (stF F w0 l B (m - 1) (x, y) o (k_ : Int) (lk_ + 1)).fd.isSome]) rfl (by kernel_rfl) (by kernel_rfl) (OpRun.val (.tuple #[u2, .bool (stF F w0 l B (m - 1) (x, y) o (k_ : Int) (lk_ + 1)).fd.isSome]) (.tuple #[u2, .bool (stF F w0 l B (m - 1) (x, y) o (k_ : Int) (lk_ + 1)).fd.isSome]) (by kernel_rfl) rfl ⟨rfl, rfl⟩) ?_
                 refine RT.wpAny_two 19 20 _ _ (u2) (.bool (stF F w0 l B (m - 1) (x, y) o (k_ : Int) (lk_ + 1)).fd.isSome) rfl rfl (by kernel_rfl) (by kernel_rfl) (by kernel_rfl) (OpRun.val (u2) (u2) (by kernel_rfl) rfl ⟨rfl, rfl⟩) (OpRun.val (.bool (stF F w0 l B (m - 1) (x, y) o (k_ : Int) (lk_ + 1)).fd.isSome) (.bool (stF F w0 l B (m - 1) (x, y) o (k_ : Int) (lk_ + 1)).fd.isSome) (by kernel_rfl) rfl ⟨rfl, rfl⟩) ?_ ?_
                 · refine RT.wpAny_two 20 21 _ _ (.bool (stF F w0 l B (m - 1) (x, y) o (k_ : Int) (lk_ + 1)).fd.isSome) (u2) rfl rfl (by kernel_rfl) (by kernel_rfl) (by kernel_rfl) (OpRun.val (.bool (stF F w0 l B (m - 1) (x, y) o (k_ : Int) (lk_ + 1)).fd.isSome) (.bool (stF F w0 l B (m - 1) (x, y) o (k_ : Int) (lk_ + 1)).fd.isSome) (by kernel_rfl) rfl ⟨rfl, rfl⟩) (OpRun.val (u2) (u2) (by kernel_rfl) rfl ⟨rfl, rfl⟩) ?_ ?_
                   · refine wpAny_p1 21 _ (u2) rfl (by kernel_rfl) (by kernel_rfl) (OpRun.val (u2) (u2) (by kernel_rfl) rfl ⟨rfl, rfl⟩) ?_
                     refine wpAny_p1 22 _ (.bool (stF F w0 l B (m - 1) (x, y) o (k_ : Int) (lk_ + 1)).fd.isSome) rfl (by kernel_rfl) (by kernel_rfl) (OpRun.val (.bool (stF F w0 l B (m - 1) (x, y) o (k_ : Int) (lk_ + 1)).fd.isSome) (.bool (stF F w0 l B (m - 1) (x, y) o (k_ : Int) (lk_ + 1)).fd.isSome) (by kernel_rfl) rfl ⟨rfl, rfl⟩) ?_
                     exact wpAny_fin (by kernel_rfl) (by kernel_rfl) hfin_
                   · refine wpAny_p1 20 _ (.bool (stF F w0 l B (m - 1) (x, y) o (k_ : Int) (lk_ + 1)).fd.isSome) rfl (by kernel_rfl) (by kernel_rfl) (OpRun.val (.bool (stF F w0 l B (m - 1) (x, y) o (k_ : Int) (lk_ + 1)).fd.isSome) (.bool (stF F w0 l B (m - 1) (x, y) o (k_ : Int) (lk_ + 1)).fd.isSome) (by kernel_rfl) rfl ⟨rfl, rfl⟩) ?_
                     refine wpAny_p1 22 _ (.bool (stF F w0 l B (m - 1) (x, y) o (k_ : Int) (lk_ + 1)).fd.isSome) rfl (by kernel_rfl) (by kernel_rfl) (OpRun.val (.bool (stF F w0 l B (m - 1) (x, y) o (k_ : Int) (lk_ + 1)).fd.isSome) (.bool (stF F w0 l B (m - 1) (x, y) o (k_ : Int) (lk_ + 1)).fd.isSome) (by kernel_rfl) rfl ⟨rfl, rfl⟩) ?_
                     exact wpAny_fin (by kernel_rfl) (by kernel_rfl) hfin_
                 · refine wpAny_p1 19 _ (u2) rfl (by kernel_rfl) (by kernel_rfl) (OpRun.val (u2) (u2) (by kernel_rfl) rfl ⟨rfl, rfl⟩) ?_
                   refine wpAny_p1 21 _ (u2) rfl (by kernel_rfl) (by kernel_rfl) (OpRun.val (u2) (u2) (by kernel_rfl) rfl ⟨rfl, rfl⟩) ?_
                   refine wpAny_p1 22 _ (.bool (stF F w0 l B (m - 1) (x, y) o (k_ : Int) (lk_ + 1)).fd.isSome) rfl (by kernel_rfl) (by kernel_rfl) (OpRun.val (.bool (stF F w0 l B (m - 1) (x, y) o (k_ : Int) (lk_ + 1)).fd.isSome) (.bool (stF F w0 l B (m - 1) (x, y) o (k_ : Int) (lk_ + 1)).fd.isSome) (by kernel_rfl) rfl ⟨rfl, rfl⟩) ?_
                   exact wpAny_fin (by kernel_rfl) (by kernel_rfl) hfin_
               refine then_normal ?_
               refine wsr ?_
               refine wv (.bool ((stF F w0 l B (m - 1) (x, y) o (k_ : Int) (lk_ + 1)).fd.isSome)) ?_
               refine wbl 82 false h15 ?_
               refine wv (.bool false) ?_
               refine wv (.pointer (some ⟨b, 0, none⟩)) ?_
               refine wv (.pointer (some ⟨b, 0, none⟩)) ?_
               refine wv (.pointer (some ⟨b, 202, none⟩)) ?_
               refine wld b (202) scal_bool (hb.get (srC_o)) ?_
               refine wv (.bool ((stF F w0 l B (m - 1) (x, y) o (k_ : Int) (lk_ + 1)).ov)) ?_
               refine wpList_nil (then_normal ?_)
               have H18 := H17.trans X8
               refine wsplit ((stF F w0 l B (m - 1) (x, y) o (k_ : Int) (lk_ + 1)).ov) (fun h16 => ?_) (fun h16 => ?_)
               · skip
                 refine wsr ?_
                 refine wv u2 ?_
                 refine wv (.bool ((stF F w0 l B (m - 1) (x, y) o (k_ : Int) (lk_ + 1)).fd.isSome)) ?_
                 refine wbl 90 false h15 ?_
                 refine wv u2 ?_
                 refine wv (.bool false) ?_
                 refine wpList_nil (then_normal ?_)
                 refine wp_ret ?_
                 refine block_ret (then_ret (then_ret (block_ret (then_ret ?_))))
                 refine ret2 u2 (.bool false) rfl ?_ ?_ rfl ?_
                 · exact resT (by kernel_rfl)
                 · exact resT (by kernel_rfl)
                 exact FnR.no (hI.symm.trans (sp_ret hok hf_ (lt100 (by assumption)) (by assumption) (by assumption) (.inr (by assumption)))) (by assumption) (by first | rfl | assumption) rfl rfl hb H18
               · skip
                 refine wp_skip ?_
                 refine block_normal (then_normal ?_)
                 refine wp_region_lit ?_
                 refine wv (.int .i64 (k_ : Int)) ?_
                 refine wi64 ((k_ : Int) + 1) ?_
                 refine wv (.int .i64 ((k_ : Int) + 1)) ?_
                 refine wpList_nil (then_normal ?_)
                 replace hbP := X8.blk hbP (Ne.symm (Ne.symm hnP))
                 replace B1 := X8.blk B1 (Ne.symm q_b_g1)
                 refine ⟨_, ?_, k_ + 1, (stF F w0 l B (m - 1) (x, y) o (k_ : Int) (lk_ + 1)).lk, rfl, ?_, ?_, ?_, ?_, ?_, H18, ?_, hbP, B1, exJ (by kernel_rfl)⟩
                 · omega
                 · omega
                 · first | exact (sp_skip hok hf_ (lt100 (by assumption)) (by assumption)).symm.trans hI | exact (sp_next hok hf_ (lt100 (by assumption)) (by assumption) (by assumption) (no_or (by assumption) (by assumption))).symm.trans hI
                 · first | exact hk0 | exact (seek_lk (lk_nn hk0) (lk_up hkB (by assumption))).1
                 · first | exact hkB | exact (seek_lk (lk_nn hk0) (lk_up hkB (by assumption))).2
                 · exact hf_
                 · first | exact hb | (rw [show (stF F w0 l B (m - 1) (x, y) o (k_ : Int) (lk_ + 1)).ov = false by assumption] at hb; exact hb)
       · skip
         have h12d := dF h12
         refine wp_exit ?_
         refine then_exit ?_
         refine then_exit ?_
         refine block_exit ?_
         refine then_normal ?_
         refine wsr ?_
         refine wv (.slice (some ⟨gP, 0, none⟩) n cap) ?_
         refine wv (.slice (some ⟨gP, 0, none⟩) n cap) ?_
         refine wv (.bool false) ?_
         refine wpList_nil (then_normal ?_)
         refine wp_ret ?_
         refine ret2 (.slice (some ⟨gP, 0, none⟩) n cap) (.bool false) rfl ?_ ?_ rfl ?_
         · exact resT (by kernel_rfl)
         · exact resT (by kernel_rfl)
         exact FnR.no (hI.symm.trans (sp_end (ge100 (by assumption)) hi_)) rfl rfl rfl rfl hb HL3


--# find_any
-- 29
theorem find_any (F : Fld) (w0 l B : Int) (hB : B ≤ 20000) : ∀ m, FnP F w0 l B m := by
  intro m
  induction m using Nat.strongRecOn with
  | _ m IH =>
    intro w b x y o n gP cap cs mo lk hmo hok hS hn hnP hl0 hlB hb hbP
    exact find_step F w0 l B m b lk x y o n gP cap cs hS mo hmo hok hn hnP hl0 hlB hB w hb hbP IH
end Go.Proofs.Ytldlaohefgianaa
