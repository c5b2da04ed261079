/-
  Short forms of the rules for each kind of operation, for walks that a program prints. No conditions.
-/
import Derived.Test.YtdhidmigngmgjaaOps
namespace Go.Proofs.Ytdhidmigngmgjaa
open Go.RowKit
set_option linter.unusedSimpArgs false
set_option linter.unusedVariables false

--# short
theorem Blk.get {w : World} {g off : Nat} {t : TypeId} {cs : Array Value} {v : Value} (hb : Blk w g t cs) (h : cs[off]? = some v) : w.cell? ⟨g, off, none⟩ = some v := by rw [hb.cell]; exact h
theorem get_arr0 {n : Nat} {k : IntKind} {f : Nat → Int} {i : Nat} (h : i < n) : (arr n k f)[0 + i]? = some (.int k (f i)) := by rw [Nat.zero_add]; exact get_arr h
theorem set_arr0 {n : Nat} {k : IntKind} {f : Nat → Int} {i : Nat} {v : Int} : (arr n k f).setIfInBounds (0 + i) (.int k v) = arr n k (upd f i v) := by rw [Nat.zero_add]; exact set_arr
theorem exJ {a : Act} {f : (Nat → Value) → Act} (h : a = f (fun i => evalL a (.tmp i))) : ∃ J, a = f J := ⟨_, h⟩
theorem dT {p : Prop} [Decidable p] (h : decide p = true) : p := of_decide_eq_true h
theorem dF {p : Prop} [Decidable p] (h : decide p = false) : ¬ p := of_decide_eq_false h
theorem eT {x y : Int} (h : (x == y) = true) : x = y := by simpa using h
theorem eF {x y : Int} (h : (x == y) = false) : x ≠ y := by simpa using h
theorem nT {x y : Int} (h : (x != y) = true) : x ≠ y := by simpa using h
theorem nF {x y : Int} (h : (x != y) = false) : x = y := by simpa using h
theorem bnT {x : Bool} (h : x = true) : (!x) = false := by rw [h]; rfl
theorem bnF {x : Bool} (h : x = false) : (!x) = true := by rw [h]; rfl
theorem nbT {x : Bool} (h : (!x) = true) : x = false := by cases x; rfl; exact absurd h (by decide)
theorem nbF {x : Bool} (h : (!x) = false) : x = true := by cases x; exact absurd h (by decide); rfl
theorem andT {x y : Bool} (h : (x && y) = true) : x = true ∧ y = true := by simpa using h
theorem resT {a : Act} {t : Nat} {v : Value} (h : evalL a (.tmp t) = v) : a.tmps.getD t undef = v := by rw [← h, ← evalL_eq]; rfl
theorem inT {n l h : Int} (k : inB n l h = true) : l ≤ n ∧ n ≤ h := by unfold inB at k; simpa using k
theorem inF {n l h : Int} (k : inB n l h = false) : ¬ (l ≤ n ∧ n ≤ h) := by
  intro hc
  unfold inB at k
  rw [decide_eq_true hc.1, decide_eq_true hc.2] at k
  exact absurd k (by decide)
section
variable {P : Program} {ops : Array Oper} {Q : Exit → Act → World → Prop} {rest : List Oper} {o : Oper} {a : Act} {w : World}
theorem wv (v : Value) (k : wpList P ops Q rest (putL a o.dst v) w) (hw : Region.wanted o (yielded ops a.tmps) = true := by kernel_rfl) (hv : (execOp (evalL a) o).run P w = .ok (.value v) w := by kernel_rfl) :
    wpList P ops Q (o :: rest) a w := wpl_val v v rfl hw hv rfl k
theorem wvv (v0 v : Value) (he : v0 = v) (k : wpList P ops Q rest (putL a o.dst v) w) (hw : Region.wanted o (yielded ops a.tmps) = true := by kernel_rfl) (hv : (execOp (evalL a) o).run P w = .ok (.value v0) w := by kernel_rfl) :
    wpList P ops Q (o :: rest) a w := wpl_val v0 v rfl hw hv he k
theorem wsk (k : wpList P ops Q rest (putL a o.dst undef) w) (hw : Region.wanted o (yielded ops a.tmps) = false := by kernel_rfl) : wpList P ops Q (o :: rest) a w := wpl_skip rfl hw k
theorem wi64 (n : Int) (k : wpList P ops Q rest (putL a o.dst (.int .i64 n)) w) (hr : -9223372036854775808 ≤ n ∧ n ≤ 9223372036854775807 := by omega) (hw : Region.wanted o (yielded ops a.tmps) = true := by kernel_rfl) (hv : (execOp (evalL a) o).run P w = .ok (.value (.int .i64 (IntKind.i64.wrap n))) w := by kernel_rfl) :
    wpList P ops Q (o :: rest) a w := wpl_val _ _ rfl hw hv (congrArg _ (IntWalk.i64_in _ hr)) k
theorem wi32 (n : Int) (k : wpList P ops Q rest (putL a o.dst (.int .i32 n)) w) (hr : -2147483648 ≤ n ∧ n ≤ 2147483647 := by omega) (hw : Region.wanted o (yielded ops a.tmps) = true := by kernel_rfl) (hv : (execOp (evalL a) o).run P w = .ok (.value (.int .i32 (IntKind.i32.wrap n))) w := by kernel_rfl) :
    wpList P ops Q (o :: rest) a w := wpl_val _ _ rfl hw hv (congrArg _ (IntWalk.i32_in _ hr)) k
theorem wi16 (n : Int) (k : wpList P ops Q rest (putL a o.dst (.int .i16 n)) w) (hr : -32768 ≤ n ∧ n ≤ 32767 := by omega) (hw : Region.wanted o (yielded ops a.tmps) = true := by kernel_rfl) (hv : (execOp (evalL a) o).run P w = .ok (.value (.int .i16 (IntKind.i16.wrap n))) w := by kernel_rfl) :
    wpList P ops Q (o :: rest) a w := wpl_val _ _ rfl hw hv (congrArg _ (IntWalk.i16_in _ hr)) k
theorem wi8 (n : Int) (k : wpList P ops Q rest (putL a o.dst (.int .i8 n)) w) (hr : -128 ≤ n ∧ n ≤ 127 := by omega) (hw : Region.wanted o (yielded ops a.tmps) = true := by kernel_rfl) (hv : (execOp (evalL a) o).run P w = .ok (.value (.int .i8 (IntKind.i8.wrap n))) w := by kernel_rfl) :
    wpList P ops Q (o :: rest) a w := wpl_val _ _ rfl hw hv (congrArg _ (IntWalk.i8_in _ hr)) k
theorem wu8 (n : Int) (k : wpList P ops Q rest (putL a o.dst (.int .u8 n)) w) (hr : 0 ≤ n ∧ n ≤ 255 := by omega) (hw : Region.wanted o (yielded ops a.tmps) = true := by kernel_rfl) (hv : (execOp (evalL a) o).run P w = .ok (.value (.int .u8 (IntKind.u8.wrap n))) w := by kernel_rfl) :
    wpList P ops Q (o :: rest) a w := wpl_val _ _ rfl hw hv (congrArg _ (IntWalk.u8_in _ hr)) k
theorem wu64 (n : Int) (k : wpList P ops Q rest (putL a o.dst (.int .u64 n)) w) (hr : 0 ≤ n ∧ n ≤ 18446744073709551615 := by omega) (hw : Region.wanted o (yielded ops a.tmps) = true := by kernel_rfl) (hv : (execOp (evalL a) o).run P w = .ok (.value (.int .u64 (IntKind.u64.wrap n))) w := by kernel_rfl) :
    wpList P ops Q (o :: rest) a w := wpl_val _ _ rfl hw hv (congrArg _ (IntWalk.u64_in _ hr)) k
theorem wquo (x y : Int) (k : wpList P ops Q rest (putL a o.dst (.int .i64 (x / y))) w) (h0 : 0 ≤ x ∧ x ≤ 9223372036854775807 := by omega) (h1 : 0 < y := by omega) (hw : Region.wanted o (yielded ops a.tmps) = true := by kernel_rfl) (hv : (execOp (evalL a) o).run P w = .ok (.value (.int .i64 (IntKind.i64.wrap (Int.tdiv x y)))) w := by kernel_rfl) :
    wpList P ops Q (o :: rest) a w := wpl_val _ _ rfl hw hv (congrArg _ (quo_in h0 h1)) k
theorem wrem (x y : Int) (k : wpList P ops Q rest (putL a o.dst (.int .i64 (x % y))) w) (h0 : 0 ≤ x := by omega) (hw : Region.wanted o (yielded ops a.tmps) = true := by kernel_rfl) (hv : (execOp (evalL a) o).run P w = .ok (.value (.int .i64 (Int.tmod x y))) w := by kernel_rfl) :
    wpList P ops Q (o :: rest) a w := wpl_val _ _ rfl hw hv (congrArg _ (Int.tmod_eq_emod_of_nonneg h0)) k
theorem wcl {f : FuncId} {args : Array Value} {V : Value} {S : World → Prop} (hc : Calls P f args w fun e w' => e = .returned V ∧ S w') (k : ∀ w', S w' → wpList P ops Q rest (putL a o.dst V) w')
    (hw : Region.wanted o (yielded ops a.tmps) = true := by kernel_rfl) (he : (execOp (evalL a) o).run P w = .ok (.enter f args) w := by kernel_rfl) : wpList P ops Q (o :: rest) a w := wpl_call f args rfl hw he hc k
theorem wbox {ty : TypeId} {x : Operand} (cs : Array Value) (k : ∀ g w', Blk w' g ty cs → Ext w w' → w.heap.size ≤ g → wpList P ops Q rest (putL a o.dst (.pointer (some ⟨g, 0, none⟩))) w')
    (hw : Region.wanted o (yielded ops a.tmps) = true := by kernel_rfl) (ho : o.op = .box ty x := by exact rfl) (hx : evalL a x = .agg cs := by kernel_rfl) : wpList P ops Q (o :: rest) a w :=
  wpl_box (v := .agg cs) cs rfl hw ho hx rfl k
theorem wboxv {ty : TypeId} {x : Operand} (v : Value) (k : ∀ g w', Blk w' g ty #[v] → Ext w w' → w.heap.size ≤ g → wpList P ops Q rest (putL a o.dst (.pointer (some ⟨g, 0, none⟩))) w')
    (hw : Region.wanted o (yielded ops a.tmps) = true := by kernel_rfl) (ho : o.op = .box ty x := by exact rfl) (hx : evalL a x = v := by kernel_rfl) (hv : v.cells = #[v] := by kernel_rfl) : wpList P ops Q (o :: rest) a w :=
  wpl_box (v := v) #[v] rfl hw ho hx hv k
theorem wnew {ty : TypeId} {z : Value} (cs : Array Value) (hz : ∀ w, (zeroValue ty).run P w = .ok z w) (hv : z.cells = cs) (k : ∀ g w', Blk w' g ty cs → Ext w w' → w.heap.size ≤ g → wpList P ops Q rest (putL a o.dst (.pointer (some ⟨g, 0, none⟩))) w')
    (hw : Region.wanted o (yielded ops a.tmps) = true := by kernel_rfl) (ho : o.op = .alloc ty := by exact rfl) : wpList P ops Q (o :: rest) a w := wpl_alloc cs rfl hw ho hz hv k
section
variable {ty : TypeId} {g off : Nat} {x y : Operand} {t : TypeId}
theorem wld {v : Value} (g off : Nat) (hs : ScalT P ty) (hc : w.cell? ⟨g, off, none⟩ = some v) (k : wpList P ops Q rest (putL a o.dst v) w)
    (hw : Region.wanted o (yielded ops a.tmps) = true := by kernel_rfl) (ho : o.op = .load ty x := by exact rfl) (hx : evalL a x = .pointer (some ⟨g, off, none⟩) := by kernel_rfl) : wpList P ops Q (o :: rest) a w :=
  wpl_cell v rfl hw hs ho hx hc k
theorem wrow {n : Nat} {cs : Array Value} (hr : RowT P ty n) (hb : Blk w g t cs) (hn : cs.size = n) (k : wpList P ops Q rest (putL a o.dst (.agg cs)) w)
    (hw : Region.wanted o (yielded ops a.tmps) = true := by kernel_rfl) (ho : o.op = .load ty x := by exact rfl) (hx : evalL a x = .pointer (some ⟨g, 0, none⟩) := by kernel_rfl) : wpList P ops Q (o :: rest) a w :=
  wpl_row cs rfl hw hr hb hn ho hx k
theorem wmid {n : Nat} (cs : Array Value) (g off : Nat) (hr : RowT P ty n) (hn : cs.size = n) (hc : w.rangeAt g off cs.toList) (k : wpList P ops Q rest (putL a o.dst (.agg cs)) w)
    (hw : Region.wanted o (yielded ops a.tmps) = true := by kernel_rfl) (ho : o.op = .load ty x := by exact rfl) (hx : evalL a x = .pointer (some ⟨g, off, none⟩) := by kernel_rfl) : wpList P ops Q (o :: rest) a w :=
  wpl_mid cs rfl hw hr hn hc ho hx k
theorem wixn {n : Nat} (g off i : Nat) (kd : IntKind) (ha : ArrT P ty n) (k : wpList P ops Q rest (putL a o.dst (.pointer (some ⟨g, off + i, none⟩))) w) (h1 : i < n := by omega)
    (hw : Region.wanted o (yielded ops a.tmps) = true := by kernel_rfl) (ho : o.op = .indexAddr ty x y := by exact rfl) (hx : evalL a x = .pointer (some ⟨g, off, none⟩) := by kernel_rfl) (hy : evalL a y = .int kd (i : Int) := by kernel_rfl) : wpList P ops Q (o :: rest) a w :=
  wpl_ixan rfl hw ha ho hx hy h1 k
theorem wix {n : Nat} (g off : Nat) (i : Int) (kd : IntKind) (ha : ArrT P ty n) (k : wpList P ops Q rest (putL a o.dst (.pointer (some ⟨g, off + i.toNat, none⟩))) w) (h0 : 0 ≤ i := by omega) (h1 : i < n := by omega)
    (hw : Region.wanted o (yielded ops a.tmps) = true := by kernel_rfl) (ho : o.op = .indexAddr ty x y := by exact rfl) (hx : evalL a x = .pointer (some ⟨g, off, none⟩) := by kernel_rfl) (hy : evalL a y = .int kd i := by kernel_rfl) : wpList P ops Q (o :: rest) a w :=
  wpl_ixa rfl hw ha ho hx hy h0 h1 k
theorem widx {n : Nat} {f : Nat → Int} {ik : IntKind} (i : Nat) (kd : IntKind) (ha : ArrE P ty n) (hx0 : ∃ x y, o.op = .index ty x y ∧ evalL a x = .agg (arr n ik f) ∧ evalL a y = .int kd (i : Int)) (k : wpList P ops Q rest (putL a o.dst (.int ik (f i))) w) (h1 : i < n := by omega)
    (hw : Region.wanted o (yielded ops a.tmps) = true := by kernel_rfl) : wpList P ops Q (o :: rest) a w := by
  obtain ⟨x, y, ho, hx, hy⟩ := hx0
  exact wpl_index rfl hw ha ho hx hy h1 k
theorem wst {cs cs' : Array Value} (g off : Nat) (v : Value) (hs : ScalT P ty) (hb : Blk w g t cs) (hset : cs.setIfInBounds off v = cs') (hoff : off < cs.size) (k : ∀ w', Blk w' g t cs' → Wr g w w' → wpList P ops Q rest (putL a o.dst undef) w')
    (hw : Region.wanted o (yielded ops a.tmps) = true := by kernel_rfl) (ho : o.op = .store ty x y := by exact rfl) (hx : evalL a x = .pointer (some ⟨g, off, none⟩) := by kernel_rfl) (hy : evalL a y = v := by kernel_rfl) (hv : v.oneCell' = true := by rfl) : wpList P ops Q (o :: rest) a w :=
  wpl_set v rfl hw hs ho hx hy hv hb hoff (fun w' h1 h2 => k w' (hset ▸ h1) h2)
theorem wput {n : Nat} {old : Array Value} (cells : Array Value) (hr : RowT P ty n) (hb : Blk w g t old) (hn : cells.size = n) (hold : old.size = n) (h1 : cells.all (·.oneCell') = true) (k : ∀ w', Blk w' g t cells → Wr g w w' → wpList P ops Q rest (putL a o.dst undef) w')
    (hw : Region.wanted o (yielded ops a.tmps) = true := by kernel_rfl) (ho : o.op = .store ty x y := by exact rfl) (hx : evalL a x = .pointer (some ⟨g, 0, none⟩) := by kernel_rfl) (hy : evalL a y = .agg cells := by kernel_rfl) : wpList P ops Q (o :: rest) a w :=
  wpl_put cells rfl hw hr ho hx hy hb hn hold h1 k
theorem wpmid {n : Nat} {old new : Array Value} (off : Nat) (cells : Array Value) (hr : RowT P ty n) (hb : Blk w g t old) (hn : cells.size = n) (hold : off + n ≤ old.size) (h1 : cells.all (·.oneCell') = true) (hnew : spliceAt old off cells.toList = new) (k : ∀ w', Blk w' g t new → Wr g w w' → wpList P ops Q rest (putL a o.dst undef) w')
    (hw : Region.wanted o (yielded ops a.tmps) = true := by kernel_rfl) (ho : o.op = .store ty x y := by exact rfl) (hx : evalL a x = .pointer (some ⟨g, off, none⟩) := by kernel_rfl) (hy : evalL a y = .agg cells := by kernel_rfl) : wpList P ops Q (o :: rest) a w :=
  wpl_putmid cells rfl hw hr ho hx hy hb hn hold h1 (fun w' h1 h2 => k w' (hnew ▸ h1) h2)
end
/-- A slot that holds a Bool which is known. -/
theorem putL_self {a : Act} {t : Nat} {v : Value} (h : evalL a (.tmp t) = v) (hv : t < a.tmps.toList.length) : putL a (some t) v = a := by
  obtain ⟨⟨l⟩, d⟩ := a
  show (⟨⟨l.set t v⟩, d⟩ : Act) = _
  congr 2
  refine List.ext_getElem? fun i => ?_
  rw [List.getElem?_set]
  by_cases hi : t = i
  · subst hi
    have hv' : t < l.length := hv
    rw [if_pos rfl, if_pos hv']
    have : l.getD t undef = v := h
    rw [List.getD, List.getElem?_eq_getElem hv'] at this
    rw [List.getElem?_eq_getElem hv']
    exact congrArg some this.symm
  · rw [if_neg hi]
theorem wbl {l : List Oper} (t : Nat) (b : Bool) {x : Bool} (hx : x = b) (k : wpList P ops Q l (putL a (some t) (.bool b)) w) (h : evalL a (.tmp t) = .bool x := by kernel_rfl) (hl : (decide (t < a.tmps.toList.length)) = true := by kernel_rfl) : wpList P ops Q l a w := by
  subst hx
  rwa [putL_self h (of_decide_eq_true hl)] at k
theorem cbl {c : Code} (t : Nat) (b : Bool) {x : Bool} (hx : x = b) (k : c.wp P Q (putL a (some t) (.bool b)) w) (h : evalL a (.tmp t) = .bool x := by kernel_rfl) (hl : (decide (t < a.tmps.toList.length)) = true := by kernel_rfl) : c.wp P Q a w := by
  subst hx
  rwa [putL_self h (of_decide_eq_true hl)] at k
theorem wsplit {c : Operand} {x y : Code} (t : Bool) (ht : t = true → x.wp P Q a w) (hf : t = false → y.wp P Q a w) (hc : evalL a c = .bool t := by kernel_rfl) : (Code.cond c x y).wp P Q a w :=
  wp_cond_split (t := t) (by rw [evalL_eq]; exact hc) ht hf
theorem wct {c : Operand} {x y : Code} (h : x.wp P Q a w) (hc : evalL a c = .bool true := by kernel_rfl) : (Code.cond c x y).wp P Q a w := wp_cond_true (by rw [evalL_eq]; exact hc) h
theorem wcf {c : Operand} {x y : Code} (h : y.wp P Q a w) (hc : evalL a c = .bool false := by kernel_rfl) : (Code.cond c x y).wp P Q a w := wp_cond_false (by rw [evalL_eq]; exact hc) h
theorem wsr {id : Nat} {l : List Oper} {y : Code} (h : wpList P l.toArray (Exit.then (fun a w => y.wp P Q a w) Q) l a w) : (Code.seq (.region id l.toArray false) y).wp P Q a w := wp_seq (wp_region_lit h)
end
end Go.Proofs.Ytdhidmigngmgjaa
