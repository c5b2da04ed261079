/-
  The library's contracts on texts, brought into the walks' form. Conditions: what the package-level variables hold (TW).
-/
import Derived.Test.YteiplklloajjaaaGreatDoorTs
import Derived.Test.YteiplklloajjaaaGreatDoorTy
import Derived.Test.YteiplklloajjaaaGreatDoorLyx
import Derived.Lib.SmallJoins
import Derived.Lib.AppendIntMem
namespace Go.Proofs.YteiplklloajjaaaGreatDoor
open Go.RowKit
set_option linter.unusedSimpArgs false
set_option linter.unusedVariables false

--# tw
/-- What the variables hold that the texts' functions read. -/
structure TW (w : World) : Prop where
  tab : Lib.TabIs Tryz.prog w "internal/strconv.uint64pow10" .u64 Lib.pow10Tab
  mx : ∃ m, w.cell? ⟨lSpl_ren.g 1, 0, none⟩ = some (.int .i64 m)
  es : ∃ ev, w.cell? ⟨lPar_ren.g 15, 0, none⟩ = some ev ∧ (ev = .nilIface ∨ ∃ te pe, ev = .iface te pe)
  er : ∃ ev, w.cell? ⟨lPar_ren.g 16, 0, none⟩ = some ev ∧ (ev = .nilIface ∨ ∃ te pe, ev = .iface te pe)
theorem TW.ext {w w' : World} (h : TW w) (e : Ext w w') : TW w' := by
  have hb := e.below
  refine ⟨Joins.tab_stays (g := (Tryz.prog.globalNamed "internal/strconv.uint64pow10").get (by kernel_rfl)) (by kernel_rfl) h.tab hb (Nat.le_refl _), ?_, ?_, ?_⟩
  · obtain ⟨m, hm⟩ := h.mx
    exact ⟨m, (e.cell _ _ (World.block_lt_of_cell? w _ hm)).trans hm⟩
  · obtain ⟨m, hm, h2⟩ := h.es
    exact ⟨m, (e.cell _ _ (World.block_lt_of_cell? w _ hm)).trans hm, h2⟩
  · obtain ⟨m, hm, h2⟩ := h.er
    exact ⟨m, (e.cell _ _ (World.block_lt_of_cell? w _ hm)).trans hm, h2⟩
/-- The table of powers of ten alone. -/
def TWt (w : World) : Prop := Lib.TabIs Tryz.prog w "internal/strconv.uint64pow10" .u64 Lib.pow10Tab
theorem TW.t {w : World} (h : TW w) : TWt w := h.tab
theorem TWt.ext {w w' : World} (h : TWt w) (e : Ext w w') : TWt w' :=
  Joins.tab_stays (g := (Tryz.prog.globalNamed "internal/strconv.uint64pow10").get (by kernel_rfl)) (by kernel_rfl) h e.below (Nat.le_refl _)
theorem ext_of {w w' : World} (h : Below w.heap.size w w') : Ext w w' := by unfold Ext; exact h

--# split
-- 29
theorem split_any (l : List UInt8) (c : UInt8) (hl : l.length ≤ 4294967280) (w : World) (hT : TW w) :
    Calls Tryz.prog 29 #[.string (bs l), .string ⟨#[c]⟩] w (RetS w 9 (cutL c l)) := by
  obtain ⟨m, hm⟩ := hT.mx
  have h := Any.strings_Split { lSpl with } lSpl.i9 (bs l) ⟨#[c]⟩ m w (by rw [bs_size]; omega) hm (by exact Nat.le_refl 1)
  change Calls Tryz.prog 29 _ _ _ at h
  refine h.mono ?_
  rintro e w' ⟨rfl, rfl⟩
  rw [splitB_cut, bs_data, sv_split, countB_cut, bs_data]
  have hn : (cutL c l).length ≤ maxLen := by have := cutL_len c l; simp only [maxLen]; omega
  exact ⟨_, _, _, _, rfl, Blk.new _ _ _, SlS.all _ hn, (Ext.refl w).alloc _, Nat.le_refl _⟩

--# format
-- 58
theorem format_any (n : Int) (h0 : -9223372036854775808 ≤ n ∧ n ≤ 9223372036854775807) (w : World) (hT : TWt w) :
    Calls Tryz.prog 58 #[.int .i64 n, .int .i64 10] w fun e w' => e = .returned (.string (bs (Lib.itoa n))) ∧ Ext w w' := by
  have h := Any.strconv_FormatInt_10 lFmt n h0.1 h0.2 w hT
  change Calls Tryz.prog 58 _ _ _ at h
  refine h.mono ?_
  rintro e w' ⟨rfl, k, os, rfl⟩
  exact ⟨rfl, ext_of (Lib.below_grow _ w (Nat.le_refl _) k os)⟩

--# join
-- 61
theorem bextra : Builder.Extra Tryz.prog lJoi_ren where
  sizeBuilder := by kernel_rfl
  liesBuilder := by kernel_rfl
  t5 := by kernel_rfl
  a5 := fun _ => by kernel_rfl
  z5 := fun _ => by kernel_rfl
  v5 := fun _ => by kernel_rfl
  infoByte := by kernel_rfl
  cellsByte := by kernel_rfl
  sizeByte := by kernel_rfl
  neB5 := by decide
theorem join_glu (c : UInt8) : ∀ xs : List (List UInt8), Lib.join xs [c] = gluL c xs
  | [] => rfl
  | [p] => by simp [Lib.join, gluL]
  | p :: q :: r => by
    have ih := join_glu c (q :: r)
    unfold Lib.join at ih ⊢
    rw [gluL_cons (by simp), ← ih]
    simp [List.intercalate]
theorem sv_map (xs : List (List UInt8)) : (xs.map bs).map (·.data.toList) = xs := by
  rw [List.map_map]
  conv => rhs; rw [← List.map_id xs]
  rfl
theorem join_any (xs : List (List UInt8)) (c : UInt8) (n b cap : Nat) (cs : Array Value) (hS : SlS cs n cap xs) (hn : xs.length ≤ 1048576) (hl : (gluL c xs).length ≤ 140737488355328) (w : World) (hb : Blk w b 9 cs) :
    Calls Tryz.prog 61 #[.slice (some ⟨b, 0, none⟩) n cap, .string ⟨#[c]⟩] w fun e w' => e = .returned (.string (bs (gluL c xs))) ∧ Ext w w' := by
  have hlen := hS.len
  subst hlen
  have h := Any.strings_Join lJoi bextra b 0 cap (xs.map bs) ⟨#[c]⟩ w (fun j x hx => by
      rw [List.getElem?_map] at hx
      have hj : j < xs.length := by
        rcases Nat.lt_or_ge j xs.length with h' | h'
        · exact h'
        · rw [List.getElem?_eq_none h'] at hx; cases hx
      rw [hb.cell, hS.get hj]
      rw [List.getElem?_eq_getElem hj] at hx
      rw [← Option.some.inj hx]
      unfold atL
      rw [List.getD, List.getElem?_eq_getElem hj]
      rfl) hb.lt (by rw [List.length_map]; omega) (by rw [List.length_map]; exact SlO.nc hS) (by rw [sv_map, show (⟨#[c]⟩ : ByteArray).data.toList = [c] from rfl, join_glu]; exact hl)
  rw [sv_map, show (⟨#[c]⟩ : ByteArray).data.toList = [c] from rfl, join_glu, List.length_map] at h
  change Calls Tryz.prog 61 _ _ _ at h
  refine h.mono ?_
  rintro e w' ⟨rfl, hw⟩
  exact ⟨rfl, ext_of hw⟩

--# builder
-- 60
/-- A Builder in block b that holds the text l. -/
def Bld (w : World) (b : Nat) (l : List UInt8) : Prop := Lib.IsBuilder 82 5 b b (Lib.byteCells l) w
end Go.Proofs.YteiplklloajjaaaGreatDoor
