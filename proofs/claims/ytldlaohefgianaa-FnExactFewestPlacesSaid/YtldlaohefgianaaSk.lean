/-
  What a search answers. No conditions.
-/
import Derived.Test.YtldlaohefgianaaFw
import Derived.Test.YtldlaohefgianaaMp
import Derived.Test.YtldlaohefgianaaCn
import Derived.Test.YtldlaohefgianaaFn19
namespace Go.Proofs.Ytldlaohefgianaa
open Go.RowKit
set_option linter.unusedSimpArgs false
set_option linter.unusedVariables false

--# skr
-- 35
/-- What the search answers: the list that it found, or nil; the looks stand in the seeker. -/
def SkR (w : World) (b : Nat) (t tI : TypeId) (c0 c1 : Value) (B : Int) (gP : Nat) (r : FwR) (e : Ending) (w' : World) : Prop :=
  ∃ v, e = .returned (.tuple #[v, .bool (!r.ov)]) ∧ Blk w' b t #[c0, c1, .int .i64 r.lk, .int .i64 B] ∧ Wr b w w' ∧
    ((r.fd = none ∧ v = .slice none 0 0) ∨ ∃ Q g n cap cs, r.fd = some Q ∧ v = .slice (some ⟨g, 0, none⟩) n cap ∧ Blk w' g tI cs ∧ SlI cs n cap .i64 Q ∧ g ≠ b ∧ (g = gP ∨ w.heap.size ≤ g))
section
variable {P : Program} {ops : Array Oper} {Q : Exit → Act → World → Prop} {rest : List Oper} {o : Oper} {a : Act} {w : World} {f : FuncId} {args : Array Value} {b : Nat} {t tI : TypeId} {c0 c1 : Value} {B : Int} {gP : Nat} {r : FwR}
theorem wskT (hc : Calls P f args w (SkR w b t tI c0 c1 B gP r)) (hr : r.fd.isSome = true)
    (k : ∀ g n cap cs w', Blk w' b t #[c0, c1, .int .i64 r.lk, .int .i64 B] → Wr b w w' → Blk w' g tI cs → SlI cs n cap .i64 (r.fd.getD []) → g ≠ b → (g = gP ∨ w.heap.size ≤ g) → wpList P ops Q rest (putL a o.dst (.tuple #[.slice (some ⟨g, 0, none⟩) n cap, .bool (!r.ov)])) w')
    (hw : Region.wanted o (yielded ops a.tmps) = true := by kernel_rfl) (he : (execOp (evalL a) o).run P w = .ok (.enter f args) w := by kernel_rfl) : wpList P ops Q (o :: rest) a w :=
  wpl_callx (S := fun u w' => ∃ g n cap cs, u = .tuple #[.slice (some ⟨g, 0, none⟩) n cap, .bool (!r.ov)] ∧ Blk w' b t #[c0, c1, .int .i64 r.lk, .int .i64 B] ∧ Wr b w w' ∧ Blk w' g tI cs ∧ SlI cs n cap .i64 (r.fd.getD []) ∧ g ≠ b ∧ (g = gP ∨ w.heap.size ≤ g)) f args rfl hw he hc
    (fun e w' ⟨v, he, h1, h2, h3⟩ => by
      rcases h3 with ⟨h3, _⟩ | ⟨Q, g, n, cap, cs, h3, rfl, h4, h5, h6, h7⟩
      · rw [h3] at hr; exact absurd hr (by decide)
      · exact ⟨_, he, g, n, cap, cs, rfl, h1, h2, h4, by rw [h3]; exact h5, h6, h7⟩)
    (fun u w' ⟨g, n, cap, cs, hv, h1, h2, h3, h4, h5, h6⟩ => by rw [hv]; exact k g n cap cs w' h1 h2 h3 h4 h5 h6)
theorem wskF (hc : Calls P f args w (SkR w b t tI c0 c1 B gP r)) (hr : r.fd.isSome = false)
    (k : ∀ w', Blk w' b t #[c0, c1, .int .i64 r.lk, .int .i64 B] → Wr b w w' → wpList P ops Q rest (putL a o.dst (.tuple #[.slice none 0 0, .bool (!r.ov)])) w')
    (hw : Region.wanted o (yielded ops a.tmps) = true := by kernel_rfl) (he : (execOp (evalL a) o).run P w = .ok (.enter f args) w := by kernel_rfl) : wpList P ops Q (o :: rest) a w :=
  wpl_callx (S := fun u w' => u = .tuple #[.slice none 0 0, .bool (!r.ov)] ∧ Blk w' b t #[c0, c1, .int .i64 r.lk, .int .i64 B] ∧ Wr b w w') f args rfl hw he hc
    (fun e w' ⟨v, he, h1, h2, h3⟩ => by
      rcases h3 with ⟨h3, rfl⟩ | ⟨Q, g, n, cap, cs, h3, _⟩
      · exact ⟨_, he, rfl, h1, h2⟩
      · rw [h3] at hr; simp at hr)
    (fun u w' ⟨hv, h1, h2⟩ => by rw [hv]; exact k w' h1 h2)
end
theorem SkR.nil {w w' : World} {b : Nat} {t tI : TypeId} {c0 c1 : Value} {B : Int} {gP : Nat} {r r' : FwR} {bv : Bool} {lk : Int} (hr : r = r') (hf : r'.fd.isSome = false) (ho : bv = !r'.ov) (hl : lk = r'.lk) (hb : Blk w' b t #[c0, c1, .int .i64 lk, .int .i64 B]) (hw : Wr b w w') :
    SkR w b t tI c0 c1 B gP r (.returned (.tuple #[.slice none 0 0, .bool bv])) w' := by
  subst hr ho hl
  exact ⟨_, rfl, hb, hw, .inl ⟨by cases h : r.fd with | none => rfl | some _ => rw [h] at hf; simp at hf, rfl⟩⟩
theorem SkR.some {w w' : World} {b : Nat} {t tI : TypeId} {c0 c1 : Value} {B : Int} {gP : Nat} {r r' : FwR} {bv : Bool} {lk : Int} {Q : List Int} {g n cap : Nat} {cs : Array Value} (hr : r = r') (hf : r'.fd = some Q) (ho : bv = !r'.ov) (hl : lk = r'.lk) (hb : Blk w' b t #[c0, c1, .int .i64 lk, .int .i64 B]) (hw : Wr b w w')
    (hg : Blk w' g tI cs) (hS : SlI cs n cap .i64 Q) (hne : g ≠ b) (hlo : g = gP ∨ w.heap.size ≤ g) : SkR w b t tI c0 c1 B gP r (.returned (.tuple #[.slice (some ⟨g, 0, none⟩) n cap, .bool bv])) w' := by
  subst hr ho hl
  exact ⟨_, rfl, hb, hw, .inr ⟨Q, g, n, cap, cs, hf, rfl, hg, hS, hne, hlo⟩⟩
theorem fd_get {r : FwR} (h : r.fd.isSome = true) : r.fd = Option.some (r.fd.getD []) := by
  cases h2 : r.fd with
  | none => rw [h2] at h; simp at h
  | some Q => rfl
/-- The search with m places more answers as told. -/
def SeekP (F : Fld) (w0 l B : Int) (m : Nat) : Prop := F.wf → ∀ (w : World) (bf : Nat) (tf : TypeId) (bm b : Nat) (x y : Int) (o : List Int) (n gP cap : Nat) (cs : Array Value) (mo lk : Int), mo = (m : Int) → okP (x, y) → SlI cs n cap .i64 o → n + m ≤ 1000 → bf ≠ b → bm ≠ b → gP ≠ b → 0 ≤ lk → lk ≤ B →
  Blk w bf tf F.cells → MV w bm (.agg #[.int .u64 0, .int .u64 0]) (cvV F w0 l) → Blk w b 74 #[.pointer (some ⟨bf, 0, none⟩), .map (some bm), .int .i64 lk, .int .i64 B] → Blk w gP 2 cs →
  Calls Try.prog 35 #[.pointer (some ⟨b, 0, none⟩), .agg #[.int .u64 x, .int .u64 y], .slice (some ⟨gP, 0, none⟩) n cap, .int .i64 mo] w (SkR w b 74 2 (.pointer (some ⟨bf, 0, none⟩)) (.map (some bm)) B gP (seekF F w0 l B m (x, y) o lk))

--# mpm
/-- A map of its own, told together with what stands beside it. -/
def Fct.mpm (B : Nat) (z : Value) (v : Int → Value) (mk : Value → Value) : Fct := ⟨fun u w => ∃ g, u = mk (.map (some g)) ∧ B ≤ g ∧ MV w g z v, fun _ _ _ h k => by
  obtain ⟨g, e, hB, hb⟩ := h
  exact ⟨g, e, hB, hb.ext k⟩⟩

--# fwg
section
variable {F : Fld} {w l B c k lk : Int} {s : Int × Int} {x y tx ty : Int} {m n i j f : Nat}
/-- The fewest places: the code, the list, the looks. -/
def fwG (F : Fld) (w l B : Int) (s : Int × Int) : Nat → Nat → Int → Int × List Int × Int
  | 0, _, _ => (6, [], 0)
  | f + 1, n, lk => if (seekF F w l B n s [] lk).ov = true then (7, [], 0) else if (seekF F w l B n s [] lk).fd.isSome = true then (0, (seekF F w l B n s [] lk).fd.getD [], (seekF F w l B n s [] lk).lk) else fwG F w l B s f (n + 1) (seekF F w l B n s [] lk).lk
def fwT (F : Fld) (w l B tx ty : Int) : Int × List Int × Int := fwG F w l B (gr0 F tx ty) 21 0 0
def fwC (F : Fld) (w l B : Int) : Int := code F ((inB w 1 1000 && inB l 1 1000) && inB B 0 20000)
def fwK (F : Fld) (w l B tx ty : Int) : Int := if fwC F w l B = 0 then (fwT F w l B tx ty).1 else fwC F w l B
def fwX (F : Fld) (w l B tx ty : Int) : List Int := (fwT F w l B tx ty).2.1
def fwL (F : Fld) (w l B tx ty : Int) : Int := (fwT F w l B tx ty).2.2
/-- Where the search stands. -/
def fwI (F : Fld) (w l B tx ty : Int) (n : Nat) (lk : Int) : Prop := 0 ≤ lk ∧ lk ≤ B ∧ fwG F w l B (gr0 F tx ty) (21 - n) n lk = fwT F w l B tx ty
theorem fwI_0 (hB : 0 ≤ B) : fwI F w l B tx ty 0 0 := ⟨Int.le_refl _, hB, rfl⟩
theorem fwI_u (h : fwI F w l B tx ty n lk) (hn : n < 21) : fwT F w l B tx ty = fwG F w l B (gr0 F tx ty) ((20 - n) + 1) n lk := by
  rw [← h.2.2, show 21 - n = (20 - n) + 1 by omega]
theorem fwI_o (h : fwI F w l B tx ty n lk) (hn : n < 21) (ho : (seekF F w l B n (gr0 F tx ty) [] lk).ov = true) : fwT F w l B tx ty = (7, [], 0) := by rw [fwI_u h hn, fwG, if_pos ho]
theorem fwI_f (h : fwI F w l B tx ty n lk) (hn : n < 21) (ho : (seekF F w l B n (gr0 F tx ty) [] lk).ov = false) (hf : (seekF F w l B n (gr0 F tx ty) [] lk).fd.isSome = true) : fwT F w l B tx ty = (0, (seekF F w l B n (gr0 F tx ty) [] lk).fd.getD [], (seekF F w l B n (gr0 F tx ty) [] lk).lk) := by rw [fwI_u h hn, fwG, if_neg (by rw [ho]; decide), if_pos hf]
theorem fwI_s (h : fwI F w l B tx ty n lk) (hn : n < 21) (ho : (seekF F w l B n (gr0 F tx ty) [] lk).ov = false) (hf : (seekF F w l B n (gr0 F tx ty) [] lk).fd.isSome = false) : fwI F w l B tx ty (n + 1) (seekF F w l B n (gr0 F tx ty) [] lk).lk := by
  have h2 := seek_lk (F := F) (w := w) (l := l) (s := gr0 F tx ty) (o := []) (m := n) h.1 h.2.1
  refine ⟨h2.1, h2.2, ?_⟩
  rw [fwI_u h hn, fwG, if_neg (by rw [ho]; decide), if_neg (by rw [hf]; decide), show 21 - (n + 1) = 20 - n by omega]
theorem fwI_e (h : fwI F w l B tx ty n lk) (hn : 21 ≤ n) : fwT F w l B tx ty = (6, [], 0) := by
  rw [← h.2.2, show 21 - n = 0 by omega]
  rfl
theorem fwK_n (h : fwC F w l B ≠ 0) : fwK F w l B tx ty = fwC F w l B := if_neg h
theorem fwK_n' (h : fwC F w l B ≠ 0) : fwK F w l B tx ty ≠ 0 := by rw [fwK_n h]; exact h
theorem fwK_t {r : Int × List Int × Int} (h : fwC F w l B = 0) (ht : fwT F w l B tx ty = r) : fwK F w l B tx ty = r.1 := by unfold fwK; rw [if_pos h, ht]
theorem fwX_t {r : Int × List Int × Int} (ht : fwT F w l B tx ty = r) : r.2.1 = fwX F w l B tx ty := by unfold fwX; rw [ht]
theorem fwL_t {r : Int × List Int × Int} (ht : fwT F w l B tx ty = r) : r.2.2 = fwL F w l B tx ty := by unfold fwL; rw [ht]
theorem fwG_length : ∀ f n lk, n + f ≤ 21 → (fwG F w l B s f n lk).2.1.length ≤ 20
  | 0, _, _, _ => by simp [fwG]
  | f + 1, n, lk, h => by
    rw [fwG]
    split
    · simp
    · split
      · next hf =>
        have e := fd_get hf
        have := seek_len hf _ e
        simp only [List.length_nil] at this
        show ((seekF F w l B n s [] lk).fd.getD []).length ≤ 20
        omega
      · exact fwG_length f (n + 1) _ (by omega)
theorem fwX_length : (fwX F w l B tx ty).length ≤ 20 := fwG_length 21 0 0 (by omega)
theorem fwC_s : fwC F w l B = if code F (inB w 1 1000 && inB l 1 1000) = 0 then (if inB B 0 20000 = true then 0 else 2) else code F (inB w 1 1000 && inB l 1 1000) := by
  unfold fwC
  cases h1 : okB F with
  | false => rw [code_1 h1, code_1 h1, if_neg (by omega)]
  | true =>
    cases h2 : (inB w 1 1000 && inB l 1 1000) with
    | false => rw [Bool.false_and, code_2 h1 rfl, if_neg (by omega)]
    | true =>
      rw [Bool.true_and, code_0 h1 rfl, if_pos rfl]
      cases h3 : inB B 0 20000 with
      | true => rw [code_0 h1 rfl, if_pos rfl]
      | false => rw [code_2 h1 rfl, if_neg (by decide)]
end

--# fwl
section
variable {F : Fld} {w l B c k lk : Int} {x y : Int} {o L : List Int} {m n i j : Nat}
theorem len_e (hs : okP (x, y)) (h : ((listL x y).length : Int) = 0) : eq2 x y 0 0 = true := cn_f hs (by simp only; omega)
theorem len_n (hs : okP (x, y)) (h : ((listL x y).length : Int) ≠ 0) : eq2 x y 0 0 = false := cn_t hs (by simp only; omega)
theorem fsC_at (h : ((listL x y).length : Int) ≠ 0) : fsC (x, y) = atI (listL x y) 0 := if_neg (by simp only; omega)
theorem seekf_e (hs : okP (x, y)) (h : ((listL x y).length : Int) = 0) : seekF F w l B m (x, y) o lk = ⟨some o, false, lk⟩ := seek_e (len_e hs h)
theorem seekf_0 (hs : okP (x, y)) (h : ((listL x y).length : Int) ≠ 0) (hm : m = 0) : seekF F w l B m (x, y) o lk = ⟨none, false, lk⟩ := by
  subst hm
  exact seek_0 (len_n hs h)
theorem seekf_s (hs : okP (x, y)) (h : ((listL x y).length : Int) ≠ 0) (hm : m ≠ 0) : seekF F w l B m (x, y) o lk = atF F w l B (m - 1) (x, y) o 0 lk := by
  obtain ⟨m', rfl⟩ : ∃ m', m = m' + 1 := ⟨m - 1, by omega⟩
  exact seek_s (len_n hs h)
end
end Go.Proofs.Ytldlaohefgianaa
