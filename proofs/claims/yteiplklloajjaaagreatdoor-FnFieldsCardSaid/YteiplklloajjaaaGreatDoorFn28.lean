/-
  Contracts: texts cut, numbers read. Conditions: what the variables hold (TW).
-/
import Derived.Test.YteiplklloajjaaaGreatDoorTy
import Derived.Test.YteiplklloajjaaaGreatDoorSl
import Derived.Test.YteiplklloajjaaaGreatDoorMth
import Derived.Test.YteiplklloajjaaaGreatDoorFn7
import Derived.Test.YteiplklloajjaaaGreatDoorTn
import Derived.Test.YteiplklloajjaaaGreatDoorLx
namespace Go.Proofs.YteiplklloajjaaaGreatDoor
open Go.RowKit
set_option linter.unusedSimpArgs false
set_option linter.unusedVariables false
set_option maxHeartbeats 4000000
set_option maxRecDepth 100000
attribute [local irreducible] wpList Code.wp
--# parseInt
-- 57
theorem parseInt_t (l : List UInt8) (hl : l.length ≤ 1048576) (h : okT l = true) (w : World) (hT : TW w) :
    Calls Tryz.prog 57 #[.string (bs l), .int .i64 10, .int .i64 64] w fun e w' => e = .returned (.tuple #[.int .i64 (piV l), .nilIface]) ∧ Ext w w' := by
  have h1 := Any.strconv_ParseInt_10_at64_ok lPar (bs l) (by rw [bs_size]; omega) (piV l) (okT_t h) w
  change Calls Tryz.prog 57 _ _ _ at h1
  refine h1.mono ?_
  rintro e w' ⟨rfl, hw⟩
  refine ⟨rfl, ?_⟩
  rcases hw with rfl | ⟨t, rfl⟩
  · exact Ext.refl _
  · exact ext_of (Lib.bytesWorld_below _ _ _)
def PrnR (w : World) (e : Ending) (w' : World) : Prop := ∃ (v : Int) (N : Nat), e = .returned (.tuple #[.int .i64 v, .iface (lPar_ren.t 168) (.pointer (some ⟨N, 0, none⟩))]) ∧ Ext w w'
theorem parseInt_f (l : List UInt8) (hl : l.length ≤ 1048576) (h : okT l = false) (w : World) (hT : TW w) :
    Calls Tryz.prog 57 #[.string (bs l), .int .i64 10, .int .i64 64] w (PrnR w) := by
  rcases hp : Lib.parseIntB 64 l with v | _ | _
  · exact absurd hp (okT_f h v)
  · obtain ⟨ev, hv, hev⟩ := hT.es
    have h := Any.strconv_ParseInt_10_at64_syntax lPar (bs l) (by rw [bs_size]; omega) hp ev w hv hev
    change Calls Tryz.prog 57 _ _ _ at h
    refine h.mono ?_
    rintro e w' ⟨N, rfl, _, _, hb⟩
    exact ⟨_, _, rfl, ext_of hb⟩
  · obtain ⟨ev, hv, hev⟩ := hT.er
    have h := Any.strconv_ParseInt_10_at64_range lPar (bs l) (by rw [bs_size]; omega) hp ev w hv hev
    change Calls Tryz.prog 57 _ _ _ at h
    refine h.mono ?_
    rintro e w' ⟨N, rfl, _, _, hb⟩
    exact ⟨_, _, rfl, ext_of hb⟩
theorem wprn {P : Program} {ops : Array Oper} {Q : Exit → Act → World → Prop} {rest : List Oper} {op : Oper} {a : Act} {w : World} {f : FuncId} {args : Array Value} (hc : Calls P f args w (PrnR w))
    (k : ∀ (v : Int) (N : Nat) w', Ext w w' → wpList P ops Q rest (putL a op.dst (.tuple #[.int .i64 v, .iface (lPar_ren.t 168) (.pointer (some ⟨N, 0, none⟩))])) w')
    (hw : Region.wanted op (yielded ops a.tmps) = true := by kernel_rfl) (he : (execOp (evalL a) op).run P w = .ok (.enter f args) w := by kernel_rfl) : wpList P ops Q (op :: rest) a w :=
  wpl_callx (S := fun v w' => ∃ (n : Int) (N : Nat), v = .tuple #[.int .i64 n, .iface (lPar_ren.t 168) (.pointer (some ⟨N, 0, none⟩))] ∧ Ext w w') f args rfl hw he hc
    (fun e w' ⟨u, N, h1, h2⟩ => ⟨_, h1, u, N, rfl, h2⟩) (fun v w' ⟨u, N, h1, h3⟩ => by rw [h1]; exact k u N w' h3)

--# iparse_any
theorem iparse_any (l : List UInt8) (hl : l.length ≤ 1048576) (lo hi : Int) (hlo : 0 ≤ lo) (hhi : hi ≤ 999999999) (w : World) (hT : TW w) :
 Calls Tryz.prog 31 #[.string (bs l), .int .i64 lo, .int .i64 hi] w fun e w' => ParR w l lo hi e w' := by
 refine calls_of_wp Tryz.func31 rfl ?_
 refine wp_frame (a' := ⟨#[.string (bs l), .int .i64 lo, .int .i64 hi, undef, undef, undef, undef, undef, undef, undef, undef, undef, undef, undef, undef, undef, undef, undef, undef, undef, undef, undef, undef, undef, undef, undef, undef, undef, undef, undef], []⟩) (by kernel_rfl) ?_
 refine wsr ?_
 refine wv (.int .i64 0) ?_
 refine wv (.bool false) ?_
 refine wpList_nil (then_normal ?_)
 refine wsr ?_
 refine wv (.string (bs l)) ?_
 refine split_bool (okT l) (fun h1 => ?_) (fun h1 => ?_)
 · skip
   refine wcl (parseInt_t l (by omega) h1 _ (TW.ext hT (Ext.refl w))) ?_
   intro w1 E1
   refine wv (.tuple #[.int .i64 (piV l), .nilIface]) ?_
   refine wv (.int .i64 (piV l)) ?_
   refine wv .nilIface ?_
   refine wv (.int .i64 (piV l)) ?_
   refine wv .nilIface ?_
   refine wpList_nil (then_normal ?_)
   refine wsr ?_
   refine wv (.int .i64 (piV l)) ?_
   refine wv .nilIface ?_
   refine wv (.bool true) ?_
   refine wv (.bool true) ?_
   refine wv (.int .i64 (piV l)) ?_
   refine wv (.int .i64 lo) ?_
   refine wv (.int .i64 hi) ?_
   refine wcl (within_any (piV l) lo hi _) ?_
   intro w2 E2
   refine wv (.bool (inB (piV l) lo hi)) ?_
   refine wv (.bool (inB (piV l) lo hi)) ?_
   have H1 := ((Ext.refl w).trans E1).trans E2
   refine split_bool (inB (piV l) lo hi) (fun h2 => ?_) (fun h2 => ?_)
   · skip
     refine wbl 24 true h2 ?_
     have h2d := inT h2
     refine wv (.int .i64 (piV l)) ?_
     refine wcl (format_any (piV l) (by omega) _ (TW.t (TW.ext hT H1))) ?_
     intro w3 E3
     refine wv (.string (bs l)) ?_
     refine wvv (.bool (((bs (Lib.itoa (piV l))).toList == (bs l).toList))) (.bool (decide (Lib.itoa (piV l) = l))) (congrArg Value.bool (bs_eqv _ _)) ?_
     refine wv (.bool (decide (Lib.itoa (piV l) = l))) ?_
     refine wv (.int .i64 (piV l)) ?_
     refine wv (.bool (decide (Lib.itoa (piV l) = l))) ?_
     refine wpList_nil (then_normal ?_)
     refine wp_ret ?_
     refine ret2 (.int .i64 (piV l)) (.bool (parO l lo hi)) rfl ?_ ?_ rfl ?_
     · exact resT (by kernel_rfl)
     · refine (resT (v := .bool (decide (Lib.itoa (piV l) = l))) (by kernel_rfl)).trans ?_
       refine congrArg Value.bool ?_
       first | (rw [par_n (by assumption)]; done) | (rw [par_v hlo hhi (by assumption)]; simp [*]; done)
     have H2 := H1.trans E3
     exact ⟨_, rfl, par_val (by assumption), H2⟩
   · skip
     refine wbl 24 false h2 ?_
     have h2d := inF h2
     refine wsk ?_
     refine wsk ?_
     refine wsk ?_
     refine wsk ?_
     refine wv (.bool false) ?_
     refine wv (.int .i64 (piV l)) ?_
     refine wv (.bool false) ?_
     refine wpList_nil (then_normal ?_)
     refine wp_ret ?_
     refine ret2 (.int .i64 (piV l)) (.bool (parO l lo hi)) rfl ?_ ?_ rfl ?_
     · exact resT (by kernel_rfl)
     · refine (resT (v := .bool false) (by kernel_rfl)).trans ?_
       refine congrArg Value.bool ?_
       first | (rw [par_n (by assumption)]; done) | (rw [par_v hlo hhi (by assumption)]; simp [*]; done)
     exact ⟨_, rfl, par_val (by assumption), H1⟩
 · skip
   refine wprn (parseInt_f l (by omega) h1 _ (TW.ext hT (Ext.refl w))) ?_
   intro v1 N1 w4 E4
   refine wv (.tuple #[.int .i64 v1, .iface (lPar_ren.t 168) (.pointer (some ⟨N1, 0, none⟩))]) ?_
   refine wv (.int .i64 v1) ?_
   refine wv (.iface (lPar_ren.t 168) (.pointer (some ⟨N1, 0, none⟩))) ?_
   refine wv (.int .i64 v1) ?_
   refine wv (.iface (lPar_ren.t 168) (.pointer (some ⟨N1, 0, none⟩))) ?_
   refine wpList_nil (then_normal ?_)
   refine wsr ?_
   refine wv (.int .i64 v1) ?_
   refine wv (.iface (lPar_ren.t 168) (.pointer (some ⟨N1, 0, none⟩))) ?_
   refine wv (.bool false) ?_
   refine wv (.bool false) ?_
   refine wsk ?_
   refine wsk ?_
   refine wsk ?_
   refine wsk ?_
   refine wv (.bool false) ?_
   refine wv (.bool false) ?_
   refine wsk ?_
   refine wsk ?_
   refine wsk ?_
   refine wsk ?_
   refine wv (.bool false) ?_
   refine wv (.int .i64 v1) ?_
   refine wv (.bool false) ?_
   refine wpList_nil (then_normal ?_)
   refine wp_ret ?_
   refine ret2 (.int .i64 v1) (.bool (parO l lo hi)) rfl ?_ ?_ rfl ?_
   · exact resT (by kernel_rfl)
   · refine (resT (v := .bool false) (by kernel_rfl)).trans ?_
     refine congrArg Value.bool ?_
     first | (rw [par_n (by assumption)]; done) | (rw [par_v hlo hhi (by assumption)]; simp [*]; done)
   have H3 := (Ext.refl w).trans E4
   exact ⟨_, rfl, (fun h => by rw [par_n (by assumption)] at h; cases h), H3⟩

end Go.Proofs.YteiplklloajjaaaGreatDoor
