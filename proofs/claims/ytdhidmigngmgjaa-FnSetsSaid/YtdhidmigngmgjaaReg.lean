/-
  A region whose order is open: each operation is shown once, whatever came up before it. No conditions.
-/
import Derived.Test.YtdhidmigngmgjaaBase
import Derived.Orders
import Derived.RegionTactic
import Derived.Laws.Tables
import Derived.Laws.Rows
namespace Go.Proofs.Ytdhidmigngmgjaa
open Go.RowKit
set_option linter.unusedSimpArgs false
set_option linter.unusedVariables false

--# putAll
def putAll (a : Act) : List (Tmp × Value) → Act
  | [] => a
  | x :: r => putAll (a.put (some x.1) x.2) r
theorem putAll_size : ∀ (L : List (Tmp × Value)) (a : Act), (putAll a L).tmps.size = a.tmps.size ∧ (putAll a L).defers = a.defers
  | [], _ => ⟨rfl, rfl⟩
  | x :: r, a => by
    have := putAll_size r (a.put (some x.1) x.2)
    exact ⟨this.1.trans (by simp [Act.put]), this.2.trans rfl⟩
/-- What stands in slot t: the value of the operation that fills it, if it is among ds. -/
def slotOf (dsts : List Tmp) (vals : Nat → Value) (b : Nat → Bool) (a : Act) (t : Tmp) : Option Value :=
  match dsts.findIdx? (· == t) with
  | some j => if b j then some (vals j) else a.tmps[t]?
  | none => a.tmps[t]?
theorem findIdx_get {dsts : List Tmp} (hn : dsts.Nodup) {j : Nat} (hj : j < dsts.length) : dsts.findIdx? (· == dsts[j]) = some j := by
  rw [List.findIdx?_eq_some_iff_getElem]
  refine ⟨hj, by simp, fun k hk => ?_⟩
  simp only [Bool.not_eq_true, beq_eq_false_iff_ne]
  intro e
  have := (List.getElem_inj (h₀ := by omega) (h₁ := hj) hn).1 e
  omega
theorem putAll_get {dsts : List Tmp} (hn : dsts.Nodup) (vals : Nat → Value) : ∀ (ds : List Nat) (a : Act), (∀ j ∈ ds, j < dsts.length) → (∀ t ∈ dsts, t < a.tmps.size) →
    ∀ t, (putAll a (ds.map fun j => (dsts.getD j 0, vals j))).tmps[t]? = slotOf dsts vals (fun j => ds.contains j) a t
  | [], a, _, _, t => by
    unfold slotOf
    cases dsts.findIdx? (· == t) <;> simp [putAll]
  | k :: r, a, hk, hs, t => by
    have hkl : k < dsts.length := hk k List.mem_cons_self
    have ih := putAll_get hn vals r (a.put (some (dsts.getD k 0)) (vals k)) (fun j hj => hk j (List.mem_cons_of_mem _ hj)) (fun u hu => by simpa [Act.put] using hs u hu) t
    have hgk : dsts.getD k 0 = dsts[k] := by simp [List.getD_eq_getElem?_getD, hkl]
    show (putAll (a.put (some (dsts.getD k 0)) (vals k)) (r.map fun j => (dsts.getD j 0, vals j))).tmps[t]? = _
    rw [ih]
    unfold slotOf
    cases hf : dsts.findIdx? (· == t) with
    | none =>
      have hne : dsts.getD k 0 ≠ t := by
        intro e
        rw [List.findIdx?_eq_none_iff] at hf
        have := hf dsts[k] (List.getElem_mem hkl)
        rw [← hgk, e] at this
        simp at this
      show (a.tmps.setIfInBounds (dsts.getD k 0) (vals k))[t]? = _
      rw [Array.getElem?_setIfInBounds_ne hne]
    | some j =>
      obtain ⟨hj, ht, _⟩ := List.findIdx?_eq_some_iff_getElem.1 hf
      have ht' : dsts[j] = t := by simpa using ht
      by_cases hjk : j = k
      · subst hjk
        have hlt : t < a.tmps.size := hs t (by rw [← ht']; exact List.getElem_mem hj)
        simp only [List.contains_cons, BEq.rfl, Bool.true_or, if_true]
        by_cases hr : (r.contains j) = true
        · rw [if_pos hr]
        · rw [if_neg hr, hgk, ht']
          simp [Act.put, hlt]
      · have hne : dsts.getD k 0 ≠ t := by
          rw [hgk, ← ht']
          intro e
          exact hjk ((List.getElem_inj (h₀ := hkl) (h₁ := hj) hn).1 e).symm
        have hc : ((k :: r).contains j) = r.contains j := by
          simp [List.contains_cons, hjk]
        simp only [hc]
        show (if (r.contains j) = true then some (vals j) else (a.tmps.setIfInBounds (dsts.getD k 0) (vals k))[t]?) = _
        rw [Array.getElem?_setIfInBounds_ne hne]

--# OpRun
/-- One operation, told by the value that it leaves and the world behind it. -/
def OpRun (P : Program) (ρ : Operand → Value) (o : Oper) (w : World) (R : Value → World → Prop) : Prop :=
  match (execOp ρ o).run P w with
  | .ok (.value v) w' => R v w'
  | .ok .skip w' => R undef w'
  | .ok (.enter f args) w' => Calls P f args w' fun e w'' => ∃ v, e = .returned v ∧ R v w''
  | _ => False
theorem OpRun.wp {P : Program} {a : Act} {ρ : Operand → Value} {o : Oper} {w : World} {R : Value → World → Prop} {K : Act → World → Prop} {Q : Exit → Act → World → Prop} (h : OpRun P ρ o w R)
    (he : execOp a.eval o = execOp ρ o) (hK : ∀ v w', R v w' → K (a.put o.dst v) w') : o.wp P a w K Q := by
  unfold Oper.wp
  rw [he]
  unfold OpRun at h
  generalize (execOp ρ o).run P w = r at h
  cases r with
  | ok n w' =>
    cases n <;> first | exact h.elim | skip
    · exact hK _ _ h
    · exact hK _ _ h
    · refine Calls.mono h fun e w'' he => ?_
      obtain ⟨v, rfl, hR⟩ := he
      exact hK _ _ hR
  | halt => exact h.elim

--# region
def isSelect : Op → Bool
  | .select .. => true
  | _ => false
def onTmps (o : Oper) : List Tmp := o.op.operands.toList.filterMap fun | .tmp t => some t | _ => none
def bindsOn (o : Oper) (j : Nat) : Bool := o.after.any fun e => e.on == j && Region.binds .any e
/-- Operation i of a region, its destination, what it waits for. -/
def opFits (dsts : List Tmp) (i : Nat) (o : Oper) (ds : List Nat) : Bool :=
  o.dst == dsts[i]? && (match o.guard with | none => true | some (g, _) => ds.contains g) && !isSelect o.op && ds.all (fun j => decide (j < i) && bindsOn o j) && o.after.all (fun e => !Region.binds .any e || decide (e.on < i))
    && (onTmps o).all (fun t => match dsts.findIdx? (· == t) with | some j => ds.contains j | none => true)
/-- A late operation waits for operation j through another one. -/
def covB (n : Nat) (deps : List (List Nat)) (o : Oper) (j : Nat) : Bool :=
  (List.range n).any fun i => bindsOn o i && ((deps.getD i []).contains j || (deps.getD i []).any fun i2 => (deps.getD i2 []).contains j)
def regFits (ops : Array Oper) (dsts : List Tmp) (deps : List (List Nat)) : Bool :=
  (List.range dsts.length).all (fun i => match ops[i]?, deps[i]? with | some o, some ds => opFits dsts i o ds | _, _ => false)
    && (List.range ops.size).all (fun k => decide (k < dsts.length) || match ops[k]? with | some o => (List.range k).all (fun j => bindsOn o j || (decide (j < dsts.length) && covB dsts.length deps o j)) && o.after.all (fun e => !Region.binds .any e || decide (e.on < k)) | none => false)
    && decide (dsts.length ≤ ops.size)
/-- A guarded operation is carried out, or leaves undef. -/
def StepRun (P : Program) (o : Oper) (vals : Nat → Value) (ρ : Operand → Value) (w : World) (R : Value → World → Prop) : Prop :=
  match o.guard with
  | none => OpRun P ρ o w R
  | some (g, want) => (vals g = .bool want → OpRun P ρ o w R) ∧ (vals g ≠ .bool want → R undef w)
structure StepOf (P : Program) (ops : Array Oper) (dsts : List Tmp) (deps : List (List Nat)) (a0 : Act) (w0 : World) (φ : Nat → Value → World → Prop) (i : Nat) : Prop where
  mk :: (out : ∀ (vals : Nat → Value) (w : World), Ext w0 w → (∀ j ∈ deps.getD i [], φ j (vals j) w) →
    ∃ o, ops[i]? = some o ∧ StepRun P o vals (putAll a0 ((deps.getD i []).map fun j => (dsts.getD j 0, vals j))).eval w fun v w' => Ext w w' ∧ φ i v w')
theorem getD_both {l : Array Bool} {j : Nat} (h : j < l.size) : l.getD j false = l.getD j true := by
  simp [Array.getD_eq_getD_getElem?, h]
theorem getD_setT {l : Array Bool} {j : Nat} (h : j < l.size) : (l.setIfInBounds j true).getD j true = true := by
  simp [Array.getD_eq_getD_getElem?, h]
/-- The tail of a region, in its forced order. -/
theorem tail_any {P : Program} {ops : Array Oper} {Q : Exit → Act → World → Prop} {n : Nat}
    (hf : ∀ k, k < ops.size → n ≤ k → ∃ o, ops[k]? = some o ∧ (∀ j, n ≤ j → j < k → bindsOn o j = true) ∧ ∀ e ∈ o.after, Region.binds .any e = true → e.on < k) :
    ∀ (m k : Nat), k + m = ops.size → n ≤ k → ∀ (listed : Array Bool), listed.size = ops.size → (∀ j, j < ops.size → listed.getD j true = decide (j < k)) → ∀ (a : Act) (w : World),
      wpList P ops Q (ops.toList.drop k) a w → wpAny P .any ops Q m listed a w
  | 0, k, hk, hn, listed, hls, hl, a, w, h => by
    have hd : ops.toList.drop k = [] := List.drop_of_length_le (by simp; omega)
    rw [hd] at h
    refine ⟨?_, h⟩
    rw [List.eq_nil_iff_forall_not_mem]
    intro i hi
    rw [mem_ready] at hi
    obtain ⟨h1, o, ho, _⟩ := hi
    have hlt : i < ops.size := (Array.getElem?_eq_some_iff.1 ho).1
    rw [hl i hlt] at h1
    simp at h1
    omega
  | m + 1, k, hk, hn, listed, hls, hl, a, w, h => by
    have hkl : k < ops.size := by omega
    obtain ⟨o, ho, hall, hback⟩ := hf k hkl hn
    have hready : ∀ i, i ∈ Region.ready .any ops listed ↔ i = k := by
      intro i
      rw [mem_ready]
      constructor
      · rintro ⟨h1, oi, hoi, h2⟩
        have hlt : i < ops.size := (Array.getElem?_eq_some_iff.1 hoi).1
        rw [hl i hlt] at h1
        have hge : k ≤ i := by simp at h1; omega
        rcases Nat.lt_or_ge k i with hlt2 | hge2
        · obtain ⟨oi', hoi', hall', _⟩ := hf i hlt (by omega)
          rw [hoi] at hoi'
          cases hoi'
          have := hall' k hn hlt2
          unfold bindsOn at this
          rw [Array.any_eq_true'] at this
          obtain ⟨e, he, hb⟩ := this
          simp only [Bool.and_eq_true, beq_iff_eq] at hb
          have h3 := h2 e he hb.2
          rw [hb.1, getD_both (by omega), hl k hkl] at h3
          simp at h3
        · omega
      · rintro rfl
        refine ⟨by rw [hl i hkl]; simp, o, ho, fun e he hb => ?_⟩
        have hlt := hback e he hb
        rw [getD_both (by omega), hl e.on (by omega)]
        simpa using hlt
    refine ⟨fun h0 => ?_, fun i hi => ?_⟩
    · have := (hready k).2 rfl
      rw [h0] at this
      cases this
    · have hik := (hready i).1 hi
      subst hik
      have hdrop : ops.toList.drop i = o :: ops.toList.drop (i + 1) := by
        rw [List.drop_eq_getElem_cons (by simpa using hkl)]
        congr 1
        have := (Array.getElem?_eq_some_iff.1 ho).2
        simpa using this
      rw [hdrop] at h
      unfold wpOp
      rw [ho]
      unfold wpList at h
      have ih := tail_any (P := P) (Q := Q) hf m (i + 1) (by omega) (by omega) (listed.setIfInBounds i true) (by simpa using hls) (fun j hj => by
        by_cases hij : i = j
        · subst hij
          rw [getD_setT (by omega)]; simp
        · rw [getD_set_ne true hij, hl j hj]
          congr 1
          simp only [eq_iff_iff]
          omega)
      show if Region.wanted o (yielded ops a.tmps) = true then _ else _
      split
      · rename_i hw
        rw [if_pos hw] at h
        exact h.imp (Oper.wp_mono (fun a w => ih a w)) id
      · rename_i hw
        rw [if_neg hw] at h
        exact ih _ _ h
def setB (b : Nat → Bool) (i : Nat) : Nat → Bool := fun j => if j = i then true else b j
def setV (vals : Nat → Value) (i : Nat) (v : Value) : Nat → Value := fun j => if j = i then v else vals j
theorem count_setB {b : Nat → Bool} {i n : Nat} (hi : i < n) (hb : b i = false) : ((List.range n).filter fun j => !setB b i j).length + 1 = ((List.range n).filter fun j => !b j).length := by
  induction n with
  | zero => omega
  | succ n ih =>
    rw [List.range_succ, List.filter_append, List.filter_append, List.length_append, List.length_append]
    by_cases hin : i = n
    · subst hin
      have h1 : ((List.range i).filter fun j => !setB b i j) = (List.range i).filter fun j => !b j :=
        List.filter_congr fun j hj => by have := List.mem_range.1 hj; simp [setB, show j ≠ i by omega]
      rw [h1]
      simp [setB, hb]
    · have := ih (by omega)
      have h2 : setB b i n = b n := by simp [setB, show n ≠ i by omega]
      simp only [List.filter_cons, List.filter_nil, h2]
      omega
theorem execOp_same {dsts : List Tmp} {ds : List Nat} {vals : Nat → Value} {b : Nat → Bool} {a a0 : Act} {i : Nat} {o : Oper} (hn : dsts.Nodup) (hlt : ∀ t ∈ dsts, t < a0.tmps.size)
    (hfit : opFits dsts i o ds = true) (hi : i < dsts.length) (ha : ∀ t, a.tmps[t]? = slotOf dsts vals b a0 t) (hb : ∀ j ∈ ds, b j = true) :
    execOp a.eval o = execOp (putAll a0 (ds.map fun j => (dsts.getD j 0, vals j))).eval o := by
  simp only [opFits, Bool.and_eq_true] at hfit
  obtain ⟨⟨⟨⟨⟨h1, h2⟩, h3⟩, h4⟩, h5⟩, h6⟩ := hfit
  refine execOp_congr o (fun cs b' e => by rw [e] at h3; simp [isSelect] at h3) (fun x hx => ?_)
  cases x with
  | tmp t =>
    have hds : ∀ j ∈ ds, j < dsts.length := fun j hj => by
      have := List.all_eq_true.1 h4 j hj
      simp only [Bool.and_eq_true, decide_eq_true_eq] at this
      omega
    have ht : t ∈ onTmps o := by
      unfold onTmps
      exact List.mem_filterMap.2 ⟨.tmp t, by simpa using hx, rfl⟩
    have h7 := List.all_eq_true.1 h6 t ht
    have hg := putAll_get hn vals ds a0 hds hlt t
    have e : a.tmps[t]? = (putAll a0 (ds.map fun j => (dsts.getD j 0, vals j))).tmps[t]? := by
      rw [ha t, hg]
      unfold slotOf
      cases hf : dsts.findIdx? (· == t) with
      | none => rfl
      | some j =>
        rw [hf] at h7
        have h7' : ds.contains j = true := h7
        have h8 := hb j (List.contains_iff_mem.1 h7')
        simp [h8, List.contains_iff_mem.1 h7']
    show a.tmps.getD t undef = (putAll a0 _).tmps.getD t undef
    rw [Array.getD_eq_getD_getElem?, Array.getD_eq_getD_getElem?, e]
  | const v => rfl
  | global g => rfl
  | func f => rfl
theorem wanted_val {ops : Array Oper} {dsts : List Tmp} {ds : List Nat} {vals : Nat → Value} {b : Nat → Bool} {a a0 : Act} {i : Nat} {o : Oper} (hn : dsts.Nodup)
    (hfit : opFits dsts i o ds = true) (hds : ∀ j ∈ ds, j < dsts.length) (hfo : ∀ j, j < dsts.length → ∃ oj, ops[j]? = some oj ∧ oj.dst = dsts[j]?)
    (ha : ∀ t, a.tmps[t]? = slotOf dsts vals b a0 t) (hb : ∀ j ∈ ds, b j = true) {g : Nat} {want : Bool} (hg : o.guard = some (g, want)) :
    Region.wanted o (yielded ops a.tmps) = true ↔ vals g = .bool want := by
  simp only [opFits, Bool.and_eq_true] at hfit
  obtain ⟨⟨⟨⟨⟨h1, h2⟩, h3⟩, h4⟩, h5⟩, h6⟩ := hfit
  rw [hg] at h2
  have h2' : ds.contains g = true := h2
  have hgd : g ∈ ds := List.contains_iff_mem.1 h2'
  have hgl := hds g hgd
  obtain ⟨oj, hoj, hdst⟩ := hfo g hgl
  have hy : yielded ops a.tmps g = match some (vals g) with | some (.bool b) => some b | _ => none := by
    unfold yielded
    have hgv : dsts[g]? = some dsts[g] := List.getElem?_eq_getElem hgl
    have hs : a.tmps[dsts[g]]? = some (vals g) := by
      rw [ha]
      unfold slotOf
      rw [findIdx_get hn hgl]
      simp [hb g hgd]
    rw [hoj]
    simp only [Option.bind_some, hdst, hgv, hs]
    cases vals g <;> rfl
  unfold Region.wanted
  rw [hg]
  simp only [hy]
  cases vals g <;> simp
theorem slotOf_set {dsts : List Tmp} {vals : Nat → Value} {b : Nat → Bool} {a a0 : Act} {i : Nat} {v : Value} (hn : dsts.Nodup) (hlt : ∀ t ∈ dsts, t < a0.tmps.size) (hi : i < dsts.length)
    (hsz : a.tmps.size = a0.tmps.size) (ha : ∀ t, a.tmps[t]? = slotOf dsts vals b a0 t) (t : Tmp) : (a.put (dsts[i]?) v).tmps[t]? = slotOf dsts (setV vals i v) (setB b i) a0 t := by
  have hg : dsts[i]? = some dsts[i] := List.getElem?_eq_getElem hi
  rw [hg]
  show (a.tmps.setIfInBounds dsts[i] v)[t]? = _
  unfold slotOf
  cases hf : dsts.findIdx? (· == t) with
  | none =>
    have hne : dsts[i] ≠ t := by
      intro e
      rw [List.findIdx?_eq_none_iff] at hf
      have := hf dsts[i] (List.getElem_mem hi)
      rw [e] at this
      simp at this
    rw [Array.getElem?_setIfInBounds_ne hne, ha t]
    unfold slotOf
    rw [hf]
  | some j =>
    obtain ⟨hj, ht, _⟩ := List.findIdx?_eq_some_iff_getElem.1 hf
    have ht' : dsts[j] = t := by simpa using ht
    by_cases hji : j = i
    · subst hji
      have hl : dsts[j] < a.tmps.size := by rw [hsz]; exact hlt _ (List.getElem_mem hj)
      rw [← ht']
      simp [setB, setV, hl]
    · have hne : dsts[i] ≠ t := by
        rw [← ht']
        intro e
        exact hji ((List.getElem_inj (h₀ := hi) (h₁ := hj) hn).1 e).symm
      rw [Array.getElem?_setIfInBounds_ne hne, ha t]
      unfold slotOf
      rw [hf]
      simp [setB, setV, hji]
theorem step_wp {P : Program} {ops : Array Oper} {dsts : List Tmp} {ds : List Nat} {vals : Nat → Value} {b : Nat → Bool} {a a0 : Act} {i : Nat} {o : Oper} {w : World} {R : Value → World → Prop} {K : Act → World → Prop} {Q : Exit → Act → World → Prop}
    (hrun : StepRun P o vals (putAll a0 (ds.map fun j => (dsts.getD j 0, vals j))).eval w R) (hn : dsts.Nodup) (hlt : ∀ t ∈ dsts, t < a0.tmps.size)
    (hfit : opFits dsts i o ds = true) (hi : i < dsts.length) (ha : ∀ t, a.tmps[t]? = slotOf dsts vals b a0 t) (hb : ∀ j ∈ ds, b j = true) (hds : ∀ j ∈ ds, j < dsts.length)
    (hfo : ∀ j, j < dsts.length → ∃ oj, ops[j]? = some oj ∧ oj.dst = dsts[j]?) (hK : ∀ v w', R v w' → K (a.put o.dst v) w') :
    if Region.wanted o (yielded ops a.tmps) = true then o.wp P a w K Q ∨ (o.asks P a w ∧ LetsOut Q) else K (a.put o.dst undef) w := by
  have he := execOp_same hn hlt hfit hi ha hb
  unfold StepRun at hrun
  cases hg : o.guard with
  | none =>
    rw [hg] at hrun
    rw [if_pos (by simp [Region.wanted, hg])]
    exact .inl (OpRun.wp hrun he hK)
  | some gw =>
    obtain ⟨g, want⟩ := gw
    rw [hg] at hrun
    have hw := wanted_val hn hfit hds hfo ha hb hg
    split
    · rename_i h
      exact .inl (OpRun.wp (hrun.1 (hw.1 h)) he hK)
    · rename_i h
      exact hK _ _ (hrun.2 (fun e => h (hw.2 e)))
theorem region_facts {P : Program} {id : Nat} {ops : Array Oper} {Q : Exit → Act → World → Prop} {a0 : Act} {w0 : World} (dsts : List Tmp) (deps : List (List Nat)) (φ : Nat → Value → World → Prop)
    (hm : P.follows .mixedOrders = true) (hck : regFits ops dsts deps = true) (hn : dsts.Nodup) (hlt : ∀ t ∈ dsts, t < a0.tmps.size)
    (hst : ∀ i v w w', φ i v w → Ext w w' → φ i v w') (hs : ∀ i, i < dsts.length → StepOf P ops dsts deps a0 w0 φ i)
    (hend : ∀ (vals : Nat → Value) (w : World), Ext w0 w → (∀ i, i < dsts.length → φ i (vals i) w) →
      wpList P ops Q (ops.toList.drop dsts.length) (putAll a0 ((List.range dsts.length).map fun j => (dsts.getD j 0, vals j))) w) : (Code.region id ops true).wp P Q a0 w0 := by
  simp only [regFits, Bool.and_eq_true] at hck
  obtain ⟨⟨hfits, htail⟩, hle⟩ := hck
  have hle : dsts.length ≤ ops.size := of_decide_eq_true hle
  have hfit : ∀ i, i < dsts.length → ∃ o, ops[i]? = some o ∧ opFits dsts i o (deps.getD i []) = true := fun i hi => by
    have := List.all_eq_true.1 hfits i (List.mem_range.2 hi)
    cases ho : ops[i]? with
    | none => rw [ho] at this; simp at this
    | some o =>
      cases hd : deps[i]? with
      | none => rw [ho, hd] at this; simp at this
      | some ds =>
        rw [ho, hd] at this
        exact ⟨o, rfl, by rw [List.getD_eq_getElem?_getD, hd]; exact this⟩
  have hta0 : ∀ k, k < ops.size → dsts.length ≤ k → ∃ o, ops[k]? = some o ∧ (∀ j, j < k → bindsOn o j = true ∨ (j < dsts.length ∧ covB dsts.length deps o j = true)) ∧ ∀ e ∈ o.after, Region.binds .any e = true → e.on < k := fun k hk hk2 => by
    have := List.all_eq_true.1 htail k (List.mem_range.2 hk)
    have h0 : decide (k < dsts.length) = false := decide_eq_false (by omega)
    rw [h0, Bool.false_or] at this
    cases ho : ops[k]? with
    | none => rw [ho] at this; simp at this
    | some o =>
      rw [ho] at this
      simp only [Bool.and_eq_true, List.all_eq_true, List.mem_range, Array.all_eq_true_iff_forall_mem, Bool.or_eq_true, Bool.not_eq_true', decide_eq_true_eq] at this
      exact ⟨o, rfl, this.1, fun e he hb => (this.2 e he).resolve_left (by rw [hb]; simp)⟩
  have hta : ∀ k, k < ops.size → dsts.length ≤ k → ∃ o, ops[k]? = some o ∧ (∀ j, dsts.length ≤ j → j < k → bindsOn o j = true) ∧ ∀ e ∈ o.after, Region.binds .any e = true → e.on < k := fun k hk hk2 => by
    obtain ⟨o, h1, h2, h3⟩ := hta0 k hk hk2
    refine ⟨o, h1, fun j hj hj2 => ?_, h3⟩
    rcases h2 j hj2 with h | h
    · exact h
    · omega
  have main : ∀ (c : Nat) (b : Nat → Bool) (vals : Nat → Value) (listed : Array Bool) (a : Act) (w : World), ((List.range dsts.length).filter fun j => !b j).length = c → listed.size = ops.size →
      (∀ j, j < ops.size → listed.getD j true = if j < dsts.length then b j else false) → (∀ t, a.tmps[t]? = slotOf dsts vals b a0 t) → a.tmps.size = a0.tmps.size → a.defers = a0.defers →
      Ext w0 w → (∀ i, i < dsts.length → b i = true → φ i (vals i) w) → (∀ i, i < dsts.length → b i = true → ∀ j ∈ deps.getD i [], b j = true) → wpAny P .any ops Q (c + (ops.size - dsts.length)) listed a w := by
    intro c
    induction c with
    | zero =>
      intro b vals listed a w hc hls hl ha hsz hdf he hφ hcl
      have hall : ∀ j, j < dsts.length → b j = true := fun j hj => by
        cases hb : b j with
        | true => rfl
        | false =>
          have : j ∈ (List.range dsts.length).filter fun j => !b j := List.mem_filter.2 ⟨List.mem_range.2 hj, by simp [hb]⟩
          rw [List.eq_nil_of_length_eq_zero hc] at this
          cases this
      have hA : a = putAll a0 ((List.range dsts.length).map fun j => (dsts.getD j 0, vals j)) := by
        have hp := putAll_size ((List.range dsts.length).map fun j => (dsts.getD j 0, vals j)) a0
        have ht : a.tmps = (putAll a0 ((List.range dsts.length).map fun j => (dsts.getD j 0, vals j))).tmps := by
          apply Array.ext_getElem?
          intro t
          rw [ha t, putAll_get hn vals (List.range dsts.length) a0 (fun j hj => List.mem_range.1 hj) hlt t]
          unfold slotOf
          cases hf : dsts.findIdx? (· == t) with
          | none => rfl
          | some j =>
            obtain ⟨hj, _, _⟩ := List.findIdx?_eq_some_iff_getElem.1 hf
            simp [hall j hj, hj]
        obtain ⟨at_, ad⟩ := a
        simp only at ht hdf
        subst ht
        subst hdf
        rw [← hp.2]
      rw [hA, Nat.zero_add]
      refine tail_any hta _ dsts.length (by omega) (Nat.le_refl _) listed hls (fun j hj => ?_) _ _ (hend vals w he (fun i hi => hφ i hi (hall i hi)))
      rw [hl j hj]
      by_cases hjn : j < dsts.length
      · simp [hjn, hall j hjn]
      · simp [hjn]
    | succ c ih =>
      intro b vals listed a w hc hls hl ha hsz hdf he hφ hcl
      have hmin : ∃ i, i < dsts.length ∧ b i = false ∧ ∀ j, j < i → b j = true := by
        have hex : ∃ i, i < dsts.length ∧ b i = false := by
          cases hf : (List.range dsts.length).filter (fun j => !b j) with
          | nil => rw [hf] at hc; simp at hc
          | cons x r =>
            have hx : x ∈ (List.range dsts.length).filter (fun j => !b j) := by rw [hf]; exact List.mem_cons_self
            rw [List.mem_filter] at hx
            exact ⟨x, List.mem_range.1 hx.1, by simpa using hx.2⟩
        obtain ⟨i0, h1, h2⟩ := hex
        have go : ∀ k, k ≤ i0 → (∀ j, j < k → b j = true) ∨ ∃ i, i < dsts.length ∧ b i = false ∧ ∀ j, j < i → b j = true := by
          intro k
          induction k with
          | zero => intro _; exact .inl (fun j hj => by omega)
          | succ k ihk =>
            intro hk
            rcases ihk (by omega) with h | h
            · cases hb : b k with
              | true =>
                refine .inl (fun j hj => ?_)
                by_cases hjk : j = k
                · rw [hjk]; exact hb
                · exact h j (by omega)
              | false => exact .inr ⟨k, by omega, hb, h⟩
            · exact .inr h
        rcases go i0 (Nat.le_refl _) with h | h
        · exact ⟨i0, h1, h2, h⟩
        · exact h
      obtain ⟨i0, hi0, hb0, hlow⟩ := hmin
      have hc1 : c + 1 + (ops.size - dsts.length) = (c + (ops.size - dsts.length)) + 1 := by omega
      rw [hc1]
      refine ⟨fun h0 => ?_, fun i hi => ?_⟩
      · exfalso
        obtain ⟨o, ho, hfo⟩ := hfit i0 hi0
        have : i0 ∈ Region.ready .any ops listed := by
          rw [mem_ready]
          refine ⟨by rw [hl i0 (by omega), if_pos hi0]; exact hb0, o, ho, fun e he hb => ?_⟩
          simp only [opFits, Bool.and_eq_true] at hfo
          have h5 := hfo.1.2
          rw [Array.all_eq_true_iff_forall_mem] at h5
          have h6 := h5 e he
          rw [hb] at h6
          have h7 : e.on < i0 := by simpa using h6
          rw [getD_both (by omega), hl e.on (by omega), if_pos (by omega)]
          exact hlow e.on h7
        rw [h0] at this
        cases this
      · rw [mem_ready] at hi
        obtain ⟨h1, o, ho, h2⟩ := hi
        have hlt1 : i < ops.size := (Array.getElem?_eq_some_iff.1 ho).1
        have hin : i < dsts.length := by
          rcases Nat.lt_or_ge i dsts.length with h | h
          · exact h
          · exfalso
            obtain ⟨o', ho', hall, _⟩ := hta0 i hlt1 h
            rw [ho] at ho'
            cases ho'
            have bind : ∀ j, j < dsts.length → bindsOn o j = true → b j = true := fun j hj hbj => by
              unfold bindsOn at hbj
              rw [Array.any_eq_true'] at hbj
              obtain ⟨e, he', hb⟩ := hbj
              simp only [Bool.and_eq_true, beq_iff_eq] at hb
              have h3 := h2 e he' hb.2
              rw [hb.1, getD_both (by omega), hl j (by omega), if_pos hj] at h3
              exact h3
            have hdlt : ∀ x, x < dsts.length → ∀ j ∈ deps.getD x [], j < dsts.length := fun x hx j hj => by
              obtain ⟨ox, _, hfx⟩ := hfit x hx
              simp only [opFits, Bool.and_eq_true] at hfx
              have h4 := List.all_eq_true.1 hfx.1.1.2 j hj
              simp only [Bool.and_eq_true, decide_eq_true_eq] at h4
              omega
            rcases hall i0 (by omega) with h3 | ⟨_, h3⟩
            · rw [bind i0 hi0 h3] at hb0; cases hb0
            · unfold covB at h3
              rw [List.any_eq_true] at h3
              obtain ⟨x, hx, h4⟩ := h3
              rw [List.mem_range] at hx
              simp only [Bool.and_eq_true, Bool.or_eq_true, List.contains_iff_mem, List.any_eq_true] at h4
              have hbx := bind x hx h4.1
              rcases h4.2 with h5 | ⟨x2, h5, h6⟩
              · rw [hcl x hx hbx i0 h5] at hb0; cases hb0
              · have h7 := hcl x hx hbx x2 h5
                rw [hcl x2 (hdlt x hx x2 h5) h7 i0 h6] at hb0; cases hb0
        rw [hl i hlt1, if_pos hin] at h1
        obtain ⟨o', ho', hfo⟩ := hfit i hin
        rw [ho] at ho'
        cases ho'
        have hdeps : ∀ j ∈ deps.getD i [], b j = true := fun j hj => by
          simp only [opFits, Bool.and_eq_true] at hfo
          have h4 := List.all_eq_true.1 hfo.1.1.2 j hj
          simp only [Bool.and_eq_true, decide_eq_true_eq] at h4
          obtain ⟨h5, h6⟩ := h4
          unfold bindsOn at h6
          rw [Array.any_eq_true'] at h6
          obtain ⟨e, he', hb⟩ := h6
          simp only [Bool.and_eq_true, beq_iff_eq] at hb
          have h3 := h2 e he' hb.2
          rw [hb.1, getD_both (by omega), hl j (by omega), if_pos (by omega)] at h3
          exact h3
        have hdl : ∀ j ∈ deps.getD i [], j < dsts.length := fun j hj => by
          simp only [opFits, Bool.and_eq_true] at hfo
          have h4 := List.all_eq_true.1 hfo.1.1.2 j hj
          simp only [Bool.and_eq_true, decide_eq_true_eq] at h4
          omega
        obtain ⟨o', ho', hrun⟩ := (hs i hin).out vals w he (fun j hj => hφ j (hdl j hj) (hdeps j hj))
        rw [ho] at ho'
        cases ho'
        have hg : o.dst = dsts[i]? := by
          simp only [opFits, Bool.and_eq_true, beq_iff_eq] at hfo
          exact hfo.1.1.1.1.1
        have hdst : ∀ j, j < dsts.length → ∃ oj, ops[j]? = some oj ∧ oj.dst = dsts[j]? := fun j hj => by
          obtain ⟨oj, hoj, hf⟩ := hfit j hj
          simp only [opFits, Bool.and_eq_true, beq_iff_eq] at hf
          exact ⟨oj, hoj, hf.1.1.1.1.1⟩
        unfold wpOp
        rw [ho]
        show if Region.wanted o (yielded ops a.tmps) = true then _ else _
        refine step_wp (w := w) hrun hn hlt hfo hin ha hdeps hdl hdst (fun v w' hR => ?_)
        rw [hg]
        refine ih (setB b i) (setV vals i v) (listed.setIfInBounds i true) _ w' ?_ (by simpa using hls) (fun j hj => ?_) (slotOf_set hn hlt hin hsz ha) (by cases hd : dsts[i]? <;> simp [Act.put, hsz]) (by cases hd : dsts[i]? <;> simp [Act.put, hdf]) (he.trans hR.1) (fun j hj hbj => ?_) (fun x hx hbx j hj => ?_)
        · have := count_setB hin h1
          omega
        · by_cases hij : i = j
          · subst hij
            rw [getD_setT (by omega), if_pos hin]
            simp [setB]
          · rw [getD_set_ne true hij, hl j hj]
            simp [setB, Ne.symm hij]
        · by_cases hij : j = i
          · subst hij
            simpa [setV] using hR.2
          · have h8 : b j = true := by simpa [setB, hij] using hbj
            have h9 := hst j (vals j) w w' (hφ j hj h8) hR.1
            simpa [setV, hij] using h9
        · have hbj : b j = true := by
            by_cases hxi : x = i
            · subst hxi; exact hdeps j hj
            · exact hcl x hx (by simpa [setB, hxi] using hbx) j hj
          unfold setB
          split
          · rfl
          · exact hbj
  refine wp_region_any hm ?_
  have hcnt : ((List.range dsts.length).filter fun j => !(fun _ => false : Nat → Bool) j).length = dsts.length := by
    have h : ((List.range dsts.length).filter fun j => !(fun _ => false : Nat → Bool) j) = List.range dsts.length := List.filter_eq_self.2 (fun _ _ => rfl)
    rw [h, List.length_range]
  have := main dsts.length (fun _ => false) (fun _ => undef) (Array.replicate ops.size false) a0 w0.drew hcnt (by simp) (fun j hj => by simp [Array.getD_eq_getD_getElem?, hj]) (fun t => by
    unfold slotOf
    cases dsts.findIdx? (· == t) <;> simp) rfl rfl (Ext.refl w0).drew (fun i _ h => by cases h) (fun i _ h => by cases h)
  have e : dsts.length + (ops.size - dsts.length) = ops.size := by omega
  rw [e] at this
  exact this

--# facts
/-- What is said of an operation's value; new blocks do not turn it. -/
structure Fct where
  R : Value → World → Prop
  st : ∀ v w w', R v w → Ext w w' → R v w'
def Fct.any : Fct := ⟨fun _ _ => True, fun _ _ _ _ _ => trivial⟩
def Fct.val (x : Value) : Fct := ⟨fun v _ => v = x, fun _ _ _ h _ => h⟩
/-- A pointer to a block of its own that holds cs. -/
def Fct.ptr (B : Nat) (t : TypeId) (cs : Array Value) : Fct := ⟨fun v w => ∃ g, v = .pointer (some ⟨g, 0, none⟩) ∧ B ≤ g ∧ Blk w g t cs, fun _ _ _ h k => by
  obtain ⟨g, e, hB, hb⟩ := h
  exact ⟨g, e, hB, hb.ext k⟩⟩
theorem all_zero {p : Nat → Prop} : ∀ i, i < 0 → p i := fun i h => by omega
theorem all_succ {p : Nat → Prop} {n : Nat} (h : ∀ i, i < n → p i) (hn : p n) : ∀ i, i < n + 1 → p i := fun i hi => by
  rcases Nat.lt_or_ge i n with h1 | h1
  · exact h i h1
  · have : i = n := by omega
    subst this; exact hn
theorem region_go {P : Program} {id : Nat} {ops : Array Oper} {Q : Exit → Act → World → Prop} {a0 : Act} {w0 : World} (n : Nat) (dsts : List Tmp) (deps : List (List Nat)) (φ : Nat → Fct)
    (hm : P.follows .mixedOrders = true) (hck : regFits ops dsts deps = true) (hn : dsts.Nodup) (hlt : ∀ t ∈ dsts, t < a0.tmps.size) (hl : dsts.length = n)
    (hs : ∀ i, i < n → StepOf P ops dsts deps a0 w0 (fun i => (φ i).R) i)
    (hend : ∀ (vals : Nat → Value) (w : World), Ext w0 w → (∀ i, i < n → (φ i).R (vals i) w) →
      wpList P ops Q (ops.toList.drop n) (putAll a0 ((List.range n).map fun j => (dsts.getD j 0, vals j))) w) : (Code.region id ops true).wp P Q a0 w0 := by
  subst hl
  exact region_facts dsts deps (fun i => (φ i).R) hm hck hn hlt (fun i v w w' h k => (φ i).st v w w' h k) hs hend
theorem step0 {P : Program} {ops : Array Oper} {dsts : List Tmp} {deps : List (List Nat)} {a0 : Act} {w0 : World} {φ : Nat → Fct} {i : Nat} {o : Oper} (hg : o.guard = none) (hd : deps[i]? = some []) (ho : ops.toList[i]? = some o) 
    (h : ∀ (w : World), Ext w0 w → OpRun P a0.eval o w fun v w' => Ext w w' ∧ (φ i).R v w') : StepOf P ops dsts deps a0 w0 (fun i => (φ i).R) i := ⟨fun vals w he hf => by
  have e : deps.getD i [] = [] := by rw [List.getD_eq_getElem?_getD, hd]; rfl
  rw [e] at hf ⊢
  refine ⟨o, by rw [← Array.getElem?_toList]; exact ho, ?_⟩
  unfold StepRun
  rw [hg]
  have := h w he
  simpa [putAll, List.getD_eq_getElem?_getD] using this⟩
theorem step1 {P : Program} {ops : Array Oper} {dsts : List Tmp} {deps : List (List Nat)} {a0 : Act} {w0 : World} {φ : Nat → Fct} {i : Nat} {o : Oper} {j0 : Nat} {d0 : Tmp} (hg : o.guard = none) (hd : deps[i]? = some [j0]) (ho : ops.toList[i]? = some o) (h0 : dsts[j0]? = some d0)
    (h : ∀ (u0 : Value) (w : World), Ext w0 w → (φ j0).R u0 w → OpRun P (a0.put (some d0) u0).eval o w fun v w' => Ext w w' ∧ (φ i).R v w') : StepOf P ops dsts deps a0 w0 (fun i => (φ i).R) i := ⟨fun vals w he hf => by
  have e : deps.getD i [] = [j0] := by rw [List.getD_eq_getElem?_getD, hd]; rfl
  rw [e] at hf ⊢
  refine ⟨o, by rw [← Array.getElem?_toList]; exact ho, ?_⟩
  unfold StepRun
  rw [hg]
  have := h (vals j0) w he (hf j0 (by simp))
  simpa [putAll, List.getD_eq_getElem?_getD, h0] using this⟩
theorem step2 {P : Program} {ops : Array Oper} {dsts : List Tmp} {deps : List (List Nat)} {a0 : Act} {w0 : World} {φ : Nat → Fct} {i : Nat} {o : Oper} {j0 j1 : Nat} {d0 d1 : Tmp} (hg : o.guard = none) (hd : deps[i]? = some [j0, j1]) (ho : ops.toList[i]? = some o) (h0 : dsts[j0]? = some d0) (h1 : dsts[j1]? = some d1)
    (h : ∀ (u0 u1 : Value) (w : World), Ext w0 w → (φ j0).R u0 w → (φ j1).R u1 w → OpRun P ((a0.put (some d0) u0).put (some d1) u1).eval o w fun v w' => Ext w w' ∧ (φ i).R v w') : StepOf P ops dsts deps a0 w0 (fun i => (φ i).R) i := ⟨fun vals w he hf => by
  have e : deps.getD i [] = [j0, j1] := by rw [List.getD_eq_getElem?_getD, hd]; rfl
  rw [e] at hf ⊢
  refine ⟨o, by rw [← Array.getElem?_toList]; exact ho, ?_⟩
  unfold StepRun
  rw [hg]
  have := h (vals j0) (vals j1) w he (hf j0 (by simp)) (hf j1 (by simp))
  simpa [putAll, List.getD_eq_getElem?_getD, h0, h1] using this⟩
theorem step3 {P : Program} {ops : Array Oper} {dsts : List Tmp} {deps : List (List Nat)} {a0 : Act} {w0 : World} {φ : Nat → Fct} {i : Nat} {o : Oper} {j0 j1 j2 : Nat} {d0 d1 d2 : Tmp} (hg : o.guard = none) (hd : deps[i]? = some [j0, j1, j2]) (ho : ops.toList[i]? = some o) (h0 : dsts[j0]? = some d0) (h1 : dsts[j1]? = some d1) (h2 : dsts[j2]? = some d2)
    (h : ∀ (u0 u1 u2 : Value) (w : World), Ext w0 w → (φ j0).R u0 w → (φ j1).R u1 w → (φ j2).R u2 w → OpRun P (((a0.put (some d0) u0).put (some d1) u1).put (some d2) u2).eval o w fun v w' => Ext w w' ∧ (φ i).R v w') : StepOf P ops dsts deps a0 w0 (fun i => (φ i).R) i := ⟨fun vals w he hf => by
  have e : deps.getD i [] = [j0, j1, j2] := by rw [List.getD_eq_getElem?_getD, hd]; rfl
  rw [e] at hf ⊢
  refine ⟨o, by rw [← Array.getElem?_toList]; exact ho, ?_⟩
  unfold StepRun
  rw [hg]
  have := h (vals j0) (vals j1) (vals j2) w he (hf j0 (by simp)) (hf j1 (by simp)) (hf j2 (by simp))
  simpa [putAll, List.getD_eq_getElem?_getD, h0, h1, h2] using this⟩
theorem step4 {P : Program} {ops : Array Oper} {dsts : List Tmp} {deps : List (List Nat)} {a0 : Act} {w0 : World} {φ : Nat → Fct} {i : Nat} {o : Oper} {j0 j1 j2 j3 : Nat} {d0 d1 d2 d3 : Tmp} (hg : o.guard = none) (hd : deps[i]? = some [j0, j1, j2, j3]) (ho : ops.toList[i]? = some o) (h0 : dsts[j0]? = some d0) (h1 : dsts[j1]? = some d1) (h2 : dsts[j2]? = some d2) (h3 : dsts[j3]? = some d3)
    (h : ∀ (u0 u1 u2 u3 : Value) (w : World), Ext w0 w → (φ j0).R u0 w → (φ j1).R u1 w → (φ j2).R u2 w → (φ j3).R u3 w → OpRun P ((((a0.put (some d0) u0).put (some d1) u1).put (some d2) u2).put (some d3) u3).eval o w fun v w' => Ext w w' ∧ (φ i).R v w') : StepOf P ops dsts deps a0 w0 (fun i => (φ i).R) i := ⟨fun vals w he hf => by
  have e : deps.getD i [] = [j0, j1, j2, j3] := by rw [List.getD_eq_getElem?_getD, hd]; rfl
  rw [e] at hf ⊢
  refine ⟨o, by rw [← Array.getElem?_toList]; exact ho, ?_⟩
  unfold StepRun
  rw [hg]
  have := h (vals j0) (vals j1) (vals j2) (vals j3) w he (hf j0 (by simp)) (hf j1 (by simp)) (hf j2 (by simp)) (hf j3 (by simp))
  simpa [putAll, List.getD_eq_getElem?_getD, h0, h1, h2, h3] using this⟩
theorem step5 {P : Program} {ops : Array Oper} {dsts : List Tmp} {deps : List (List Nat)} {a0 : Act} {w0 : World} {φ : Nat → Fct} {i : Nat} {o : Oper} {j0 j1 j2 j3 j4 : Nat} {d0 d1 d2 d3 d4 : Tmp} (hg : o.guard = none) (hd : deps[i]? = some [j0, j1, j2, j3, j4]) (ho : ops.toList[i]? = some o) (h0 : dsts[j0]? = some d0) (h1 : dsts[j1]? = some d1) (h2 : dsts[j2]? = some d2) (h3 : dsts[j3]? = some d3) (h4 : dsts[j4]? = some d4)
    (h : ∀ (u0 u1 u2 u3 u4 : Value) (w : World), Ext w0 w → (φ j0).R u0 w → (φ j1).R u1 w → (φ j2).R u2 w → (φ j3).R u3 w → (φ j4).R u4 w → OpRun P (((((a0.put (some d0) u0).put (some d1) u1).put (some d2) u2).put (some d3) u3).put (some d4) u4).eval o w fun v w' => Ext w w' ∧ (φ i).R v w') : StepOf P ops dsts deps a0 w0 (fun i => (φ i).R) i := ⟨fun vals w he hf => by
  have e : deps.getD i [] = [j0, j1, j2, j3, j4] := by rw [List.getD_eq_getElem?_getD, hd]; rfl
  rw [e] at hf ⊢
  refine ⟨o, by rw [← Array.getElem?_toList]; exact ho, ?_⟩
  unfold StepRun
  rw [hg]
  have := h (vals j0) (vals j1) (vals j2) (vals j3) (vals j4) w he (hf j0 (by simp)) (hf j1 (by simp)) (hf j2 (by simp)) (hf j3 (by simp)) (hf j4 (by simp))
  simpa [putAll, List.getD_eq_getElem?_getD, h0, h1, h2, h3, h4] using this⟩
theorem step6 {P : Program} {ops : Array Oper} {dsts : List Tmp} {deps : List (List Nat)} {a0 : Act} {w0 : World} {φ : Nat → Fct} {i : Nat} {o : Oper} {j0 j1 j2 j3 j4 j5 : Nat} {d0 d1 d2 d3 d4 d5 : Tmp} (hg : o.guard = none) (hd : deps[i]? = some [j0, j1, j2, j3, j4, j5]) (ho : ops.toList[i]? = some o) (h0 : dsts[j0]? = some d0) (h1 : dsts[j1]? = some d1) (h2 : dsts[j2]? = some d2) (h3 : dsts[j3]? = some d3) (h4 : dsts[j4]? = some d4) (h5 : dsts[j5]? = some d5)
    (h : ∀ (u0 u1 u2 u3 u4 u5 : Value) (w : World), Ext w0 w → (φ j0).R u0 w → (φ j1).R u1 w → (φ j2).R u2 w → (φ j3).R u3 w → (φ j4).R u4 w → (φ j5).R u5 w → OpRun P ((((((a0.put (some d0) u0).put (some d1) u1).put (some d2) u2).put (some d3) u3).put (some d4) u4).put (some d5) u5).eval o w fun v w' => Ext w w' ∧ (φ i).R v w') : StepOf P ops dsts deps a0 w0 (fun i => (φ i).R) i := ⟨fun vals w he hf => by
  have e : deps.getD i [] = [j0, j1, j2, j3, j4, j5] := by rw [List.getD_eq_getElem?_getD, hd]; rfl
  rw [e] at hf ⊢
  refine ⟨o, by rw [← Array.getElem?_toList]; exact ho, ?_⟩
  unfold StepRun
  rw [hg]
  have := h (vals j0) (vals j1) (vals j2) (vals j3) (vals j4) (vals j5) w he (hf j0 (by simp)) (hf j1 (by simp)) (hf j2 (by simp)) (hf j3 (by simp)) (hf j4 (by simp)) (hf j5 (by simp))
  simpa [putAll, List.getD_eq_getElem?_getD, h0, h1, h2, h3, h4, h5] using this⟩
theorem step7 {P : Program} {ops : Array Oper} {dsts : List Tmp} {deps : List (List Nat)} {a0 : Act} {w0 : World} {φ : Nat → Fct} {i : Nat} {o : Oper} {j0 j1 j2 j3 j4 j5 j6 : Nat} {d0 d1 d2 d3 d4 d5 d6 : Tmp} (hg : o.guard = none) (hd : deps[i]? = some [j0, j1, j2, j3, j4, j5, j6]) (ho : ops.toList[i]? = some o) (h0 : dsts[j0]? = some d0) (h1 : dsts[j1]? = some d1) (h2 : dsts[j2]? = some d2) (h3 : dsts[j3]? = some d3) (h4 : dsts[j4]? = some d4) (h5 : dsts[j5]? = some d5) (h6 : dsts[j6]? = some d6)
    (h : ∀ (u0 u1 u2 u3 u4 u5 u6 : Value) (w : World), Ext w0 w → (φ j0).R u0 w → (φ j1).R u1 w → (φ j2).R u2 w → (φ j3).R u3 w → (φ j4).R u4 w → (φ j5).R u5 w → (φ j6).R u6 w → OpRun P (((((((a0.put (some d0) u0).put (some d1) u1).put (some d2) u2).put (some d3) u3).put (some d4) u4).put (some d5) u5).put (some d6) u6).eval o w fun v w' => Ext w w' ∧ (φ i).R v w') : StepOf P ops dsts deps a0 w0 (fun i => (φ i).R) i := ⟨fun vals w he hf => by
  have e : deps.getD i [] = [j0, j1, j2, j3, j4, j5, j6] := by rw [List.getD_eq_getElem?_getD, hd]; rfl
  rw [e] at hf ⊢
  refine ⟨o, by rw [← Array.getElem?_toList]; exact ho, ?_⟩
  unfold StepRun
  rw [hg]
  have := h (vals j0) (vals j1) (vals j2) (vals j3) (vals j4) (vals j5) (vals j6) w he (hf j0 (by simp)) (hf j1 (by simp)) (hf j2 (by simp)) (hf j3 (by simp)) (hf j4 (by simp)) (hf j5 (by simp)) (hf j6 (by simp))
  simpa [putAll, List.getD_eq_getElem?_getD, h0, h1, h2, h3, h4, h5, h6] using this⟩
theorem end1 {P : Program} {ops : Array Oper} {Q : Exit → Act → World → Prop} {a0 : Act} {w0 : World} {φ : Nat → Fct} {d0 : Tmp}
    (h : ∀ (u0 : Value) (w : World), Ext w0 w → (φ 0).R u0 w → wpList P ops Q (ops.toList.drop 1) (a0.put (some d0) u0) w) :
    ∀ (vals : Nat → Value) (w : World), Ext w0 w → (∀ i, i < 1 → (φ i).R (vals i) w) → wpList P ops Q (ops.toList.drop 1) (putAll a0 ((List.range 1).map fun j => (([d0] : List Tmp).getD j 0, vals j))) w := fun vals w he hf => by
  have := h (vals 0) w he (hf 0 (by omega))
  simpa [putAll, List.getD_eq_getElem?_getD, List.range_succ] using this
theorem end2 {P : Program} {ops : Array Oper} {Q : Exit → Act → World → Prop} {a0 : Act} {w0 : World} {φ : Nat → Fct} {d0 d1 : Tmp}
    (h : ∀ (u0 u1 : Value) (w : World), Ext w0 w → (φ 0).R u0 w → (φ 1).R u1 w → wpList P ops Q (ops.toList.drop 2) ((a0.put (some d0) u0).put (some d1) u1) w) :
    ∀ (vals : Nat → Value) (w : World), Ext w0 w → (∀ i, i < 2 → (φ i).R (vals i) w) → wpList P ops Q (ops.toList.drop 2) (putAll a0 ((List.range 2).map fun j => (([d0, d1] : List Tmp).getD j 0, vals j))) w := fun vals w he hf => by
  have := h (vals 0) (vals 1) w he (hf 0 (by omega)) (hf 1 (by omega))
  simpa [putAll, List.getD_eq_getElem?_getD, List.range_succ] using this
theorem end3 {P : Program} {ops : Array Oper} {Q : Exit → Act → World → Prop} {a0 : Act} {w0 : World} {φ : Nat → Fct} {d0 d1 d2 : Tmp}
    (h : ∀ (u0 u1 u2 : Value) (w : World), Ext w0 w → (φ 0).R u0 w → (φ 1).R u1 w → (φ 2).R u2 w → wpList P ops Q (ops.toList.drop 3) (((a0.put (some d0) u0).put (some d1) u1).put (some d2) u2) w) :
    ∀ (vals : Nat → Value) (w : World), Ext w0 w → (∀ i, i < 3 → (φ i).R (vals i) w) → wpList P ops Q (ops.toList.drop 3) (putAll a0 ((List.range 3).map fun j => (([d0, d1, d2] : List Tmp).getD j 0, vals j))) w := fun vals w he hf => by
  have := h (vals 0) (vals 1) (vals 2) w he (hf 0 (by omega)) (hf 1 (by omega)) (hf 2 (by omega))
  simpa [putAll, List.getD_eq_getElem?_getD, List.range_succ] using this
theorem end4 {P : Program} {ops : Array Oper} {Q : Exit → Act → World → Prop} {a0 : Act} {w0 : World} {φ : Nat → Fct} {d0 d1 d2 d3 : Tmp}
    (h : ∀ (u0 u1 u2 u3 : Value) (w : World), Ext w0 w → (φ 0).R u0 w → (φ 1).R u1 w → (φ 2).R u2 w → (φ 3).R u3 w → wpList P ops Q (ops.toList.drop 4) ((((a0.put (some d0) u0).put (some d1) u1).put (some d2) u2).put (some d3) u3) w) :
    ∀ (vals : Nat → Value) (w : World), Ext w0 w → (∀ i, i < 4 → (φ i).R (vals i) w) → wpList P ops Q (ops.toList.drop 4) (putAll a0 ((List.range 4).map fun j => (([d0, d1, d2, d3] : List Tmp).getD j 0, vals j))) w := fun vals w he hf => by
  have := h (vals 0) (vals 1) (vals 2) (vals 3) w he (hf 0 (by omega)) (hf 1 (by omega)) (hf 2 (by omega)) (hf 3 (by omega))
  simpa [putAll, List.getD_eq_getElem?_getD, List.range_succ] using this
theorem end5 {P : Program} {ops : Array Oper} {Q : Exit → Act → World → Prop} {a0 : Act} {w0 : World} {φ : Nat → Fct} {d0 d1 d2 d3 d4 : Tmp}
    (h : ∀ (u0 u1 u2 u3 u4 : Value) (w : World), Ext w0 w → (φ 0).R u0 w → (φ 1).R u1 w → (φ 2).R u2 w → (φ 3).R u3 w → (φ 4).R u4 w → wpList P ops Q (ops.toList.drop 5) (((((a0.put (some d0) u0).put (some d1) u1).put (some d2) u2).put (some d3) u3).put (some d4) u4) w) :
    ∀ (vals : Nat → Value) (w : World), Ext w0 w → (∀ i, i < 5 → (φ i).R (vals i) w) → wpList P ops Q (ops.toList.drop 5) (putAll a0 ((List.range 5).map fun j => (([d0, d1, d2, d3, d4] : List Tmp).getD j 0, vals j))) w := fun vals w he hf => by
  have := h (vals 0) (vals 1) (vals 2) (vals 3) (vals 4) w he (hf 0 (by omega)) (hf 1 (by omega)) (hf 2 (by omega)) (hf 3 (by omega)) (hf 4 (by omega))
  simpa [putAll, List.getD_eq_getElem?_getD, List.range_succ] using this
theorem end6 {P : Program} {ops : Array Oper} {Q : Exit → Act → World → Prop} {a0 : Act} {w0 : World} {φ : Nat → Fct} {d0 d1 d2 d3 d4 d5 : Tmp}
    (h : ∀ (u0 u1 u2 u3 u4 u5 : Value) (w : World), Ext w0 w → (φ 0).R u0 w → (φ 1).R u1 w → (φ 2).R u2 w → (φ 3).R u3 w → (φ 4).R u4 w → (φ 5).R u5 w → wpList P ops Q (ops.toList.drop 6) ((((((a0.put (some d0) u0).put (some d1) u1).put (some d2) u2).put (some d3) u3).put (some d4) u4).put (some d5) u5) w) :
    ∀ (vals : Nat → Value) (w : World), Ext w0 w → (∀ i, i < 6 → (φ i).R (vals i) w) → wpList P ops Q (ops.toList.drop 6) (putAll a0 ((List.range 6).map fun j => (([d0, d1, d2, d3, d4, d5] : List Tmp).getD j 0, vals j))) w := fun vals w he hf => by
  have := h (vals 0) (vals 1) (vals 2) (vals 3) (vals 4) (vals 5) w he (hf 0 (by omega)) (hf 1 (by omega)) (hf 2 (by omega)) (hf 3 (by omega)) (hf 4 (by omega)) (hf 5 (by omega))
  simpa [putAll, List.getD_eq_getElem?_getD, List.range_succ] using this
theorem end7 {P : Program} {ops : Array Oper} {Q : Exit → Act → World → Prop} {a0 : Act} {w0 : World} {φ : Nat → Fct} {d0 d1 d2 d3 d4 d5 d6 : Tmp}
    (h : ∀ (u0 u1 u2 u3 u4 u5 u6 : Value) (w : World), Ext w0 w → (φ 0).R u0 w → (φ 1).R u1 w → (φ 2).R u2 w → (φ 3).R u3 w → (φ 4).R u4 w → (φ 5).R u5 w → (φ 6).R u6 w → wpList P ops Q (ops.toList.drop 7) (((((((a0.put (some d0) u0).put (some d1) u1).put (some d2) u2).put (some d3) u3).put (some d4) u4).put (some d5) u5).put (some d6) u6) w) :
    ∀ (vals : Nat → Value) (w : World), Ext w0 w → (∀ i, i < 7 → (φ i).R (vals i) w) → wpList P ops Q (ops.toList.drop 7) (putAll a0 ((List.range 7).map fun j => (([d0, d1, d2, d3, d4, d5, d6] : List Tmp).getD j 0, vals j))) w := fun vals w he hf => by
  have := h (vals 0) (vals 1) (vals 2) (vals 3) (vals 4) (vals 5) (vals 6) w he (hf 0 (by omega)) (hf 1 (by omega)) (hf 2 (by omega)) (hf 3 (by omega)) (hf 4 (by omega)) (hf 5 (by omega)) (hf 6 (by omega))
  simpa [putAll, List.getD_eq_getElem?_getD, List.range_succ] using this
theorem end8 {P : Program} {ops : Array Oper} {Q : Exit → Act → World → Prop} {a0 : Act} {w0 : World} {φ : Nat → Fct} {d0 d1 d2 d3 d4 d5 d6 d7 : Tmp}
    (h : ∀ (u0 u1 u2 u3 u4 u5 u6 u7 : Value) (w : World), Ext w0 w → (φ 0).R u0 w → (φ 1).R u1 w → (φ 2).R u2 w → (φ 3).R u3 w → (φ 4).R u4 w → (φ 5).R u5 w → (φ 6).R u6 w → (φ 7).R u7 w → wpList P ops Q (ops.toList.drop 8) ((((((((a0.put (some d0) u0).put (some d1) u1).put (some d2) u2).put (some d3) u3).put (some d4) u4).put (some d5) u5).put (some d6) u6).put (some d7) u7) w) :
    ∀ (vals : Nat → Value) (w : World), Ext w0 w → (∀ i, i < 8 → (φ i).R (vals i) w) → wpList P ops Q (ops.toList.drop 8) (putAll a0 ((List.range 8).map fun j => (([d0, d1, d2, d3, d4, d5, d6, d7] : List Tmp).getD j 0, vals j))) w := fun vals w he hf => by
  have := h (vals 0) (vals 1) (vals 2) (vals 3) (vals 4) (vals 5) (vals 6) (vals 7) w he (hf 0 (by omega)) (hf 1 (by omega)) (hf 2 (by omega)) (hf 3 (by omega)) (hf 4 (by omega)) (hf 5 (by omega)) (hf 6 (by omega)) (hf 7 (by omega))
  simpa [putAll, List.getD_eq_getElem?_getD, List.range_succ] using this
theorem end9 {P : Program} {ops : Array Oper} {Q : Exit → Act → World → Prop} {a0 : Act} {w0 : World} {φ : Nat → Fct} {d0 d1 d2 d3 d4 d5 d6 d7 d8 : Tmp}
    (h : ∀ (u0 u1 u2 u3 u4 u5 u6 u7 u8 : Value) (w : World), Ext w0 w → (φ 0).R u0 w → (φ 1).R u1 w → (φ 2).R u2 w → (φ 3).R u3 w → (φ 4).R u4 w → (φ 5).R u5 w → (φ 6).R u6 w → (φ 7).R u7 w → (φ 8).R u8 w → wpList P ops Q (ops.toList.drop 9) (((((((((a0.put (some d0) u0).put (some d1) u1).put (some d2) u2).put (some d3) u3).put (some d4) u4).put (some d5) u5).put (some d6) u6).put (some d7) u7).put (some d8) u8) w) :
    ∀ (vals : Nat → Value) (w : World), Ext w0 w → (∀ i, i < 9 → (φ i).R (vals i) w) → wpList P ops Q (ops.toList.drop 9) (putAll a0 ((List.range 9).map fun j => (([d0, d1, d2, d3, d4, d5, d6, d7, d8] : List Tmp).getD j 0, vals j))) w := fun vals w he hf => by
  have := h (vals 0) (vals 1) (vals 2) (vals 3) (vals 4) (vals 5) (vals 6) (vals 7) (vals 8) w he (hf 0 (by omega)) (hf 1 (by omega)) (hf 2 (by omega)) (hf 3 (by omega)) (hf 4 (by omega)) (hf 5 (by omega)) (hf 6 (by omega)) (hf 7 (by omega)) (hf 8 (by omega))
  simpa [putAll, List.getD_eq_getElem?_getD, List.range_succ] using this
theorem end10 {P : Program} {ops : Array Oper} {Q : Exit → Act → World → Prop} {a0 : Act} {w0 : World} {φ : Nat → Fct} {d0 d1 d2 d3 d4 d5 d6 d7 d8 d9 : Tmp}
    (h : ∀ (u0 u1 u2 u3 u4 u5 u6 u7 u8 u9 : Value) (w : World), Ext w0 w → (φ 0).R u0 w → (φ 1).R u1 w → (φ 2).R u2 w → (φ 3).R u3 w → (φ 4).R u4 w → (φ 5).R u5 w → (φ 6).R u6 w → (φ 7).R u7 w → (φ 8).R u8 w → (φ 9).R u9 w → wpList P ops Q (ops.toList.drop 10) ((((((((((a0.put (some d0) u0).put (some d1) u1).put (some d2) u2).put (some d3) u3).put (some d4) u4).put (some d5) u5).put (some d6) u6).put (some d7) u7).put (some d8) u8).put (some d9) u9) w) :
    ∀ (vals : Nat → Value) (w : World), Ext w0 w → (∀ i, i < 10 → (φ i).R (vals i) w) → wpList P ops Q (ops.toList.drop 10) (putAll a0 ((List.range 10).map fun j => (([d0, d1, d2, d3, d4, d5, d6, d7, d8, d9] : List Tmp).getD j 0, vals j))) w := fun vals w he hf => by
  have := h (vals 0) (vals 1) (vals 2) (vals 3) (vals 4) (vals 5) (vals 6) (vals 7) (vals 8) (vals 9) w he (hf 0 (by omega)) (hf 1 (by omega)) (hf 2 (by omega)) (hf 3 (by omega)) (hf 4 (by omega)) (hf 5 (by omega)) (hf 6 (by omega)) (hf 7 (by omega)) (hf 8 (by omega)) (hf 9 (by omega))
  simpa [putAll, List.getD_eq_getElem?_getD, List.range_succ] using this
theorem end11 {P : Program} {ops : Array Oper} {Q : Exit → Act → World → Prop} {a0 : Act} {w0 : World} {φ : Nat → Fct} {d0 d1 d2 d3 d4 d5 d6 d7 d8 d9 d10 : Tmp}
    (h : ∀ (u0 u1 u2 u3 u4 u5 u6 u7 u8 u9 u10 : Value) (w : World), Ext w0 w → (φ 0).R u0 w → (φ 1).R u1 w → (φ 2).R u2 w → (φ 3).R u3 w → (φ 4).R u4 w → (φ 5).R u5 w → (φ 6).R u6 w → (φ 7).R u7 w → (φ 8).R u8 w → (φ 9).R u9 w → (φ 10).R u10 w → wpList P ops Q (ops.toList.drop 11) (((((((((((a0.put (some d0) u0).put (some d1) u1).put (some d2) u2).put (some d3) u3).put (some d4) u4).put (some d5) u5).put (some d6) u6).put (some d7) u7).put (some d8) u8).put (some d9) u9).put (some d10) u10) w) :
    ∀ (vals : Nat → Value) (w : World), Ext w0 w → (∀ i, i < 11 → (φ i).R (vals i) w) → wpList P ops Q (ops.toList.drop 11) (putAll a0 ((List.range 11).map fun j => (([d0, d1, d2, d3, d4, d5, d6, d7, d8, d9, d10] : List Tmp).getD j 0, vals j))) w := fun vals w he hf => by
  have := h (vals 0) (vals 1) (vals 2) (vals 3) (vals 4) (vals 5) (vals 6) (vals 7) (vals 8) (vals 9) (vals 10) w he (hf 0 (by omega)) (hf 1 (by omega)) (hf 2 (by omega)) (hf 3 (by omega)) (hf 4 (by omega)) (hf 5 (by omega)) (hf 6 (by omega)) (hf 7 (by omega)) (hf 8 (by omega)) (hf 9 (by omega)) (hf 10 (by omega))
  simpa [putAll, List.getD_eq_getElem?_getD, List.range_succ] using this
theorem end12 {P : Program} {ops : Array Oper} {Q : Exit → Act → World → Prop} {a0 : Act} {w0 : World} {φ : Nat → Fct} {d0 d1 d2 d3 d4 d5 d6 d7 d8 d9 d10 d11 : Tmp}
    (h : ∀ (u0 u1 u2 u3 u4 u5 u6 u7 u8 u9 u10 u11 : Value) (w : World), Ext w0 w → (φ 0).R u0 w → (φ 1).R u1 w → (φ 2).R u2 w → (φ 3).R u3 w → (φ 4).R u4 w → (φ 5).R u5 w → (φ 6).R u6 w → (φ 7).R u7 w → (φ 8).R u8 w → (φ 9).R u9 w → (φ 10).R u10 w → (φ 11).R u11 w → wpList P ops Q (ops.toList.drop 12) ((((((((((((a0.put (some d0) u0).put (some d1) u1).put (some d2) u2).put (some d3) u3).put (some d4) u4).put (some d5) u5).put (some d6) u6).put (some d7) u7).put (some d8) u8).put (some d9) u9).put (some d10) u10).put (some d11) u11) w) :
    ∀ (vals : Nat → Value) (w : World), Ext w0 w → (∀ i, i < 12 → (φ i).R (vals i) w) → wpList P ops Q (ops.toList.drop 12) (putAll a0 ((List.range 12).map fun j => (([d0, d1, d2, d3, d4, d5, d6, d7, d8, d9, d10, d11] : List Tmp).getD j 0, vals j))) w := fun vals w he hf => by
  have := h (vals 0) (vals 1) (vals 2) (vals 3) (vals 4) (vals 5) (vals 6) (vals 7) (vals 8) (vals 9) (vals 10) (vals 11) w he (hf 0 (by omega)) (hf 1 (by omega)) (hf 2 (by omega)) (hf 3 (by omega)) (hf 4 (by omega)) (hf 5 (by omega)) (hf 6 (by omega)) (hf 7 (by omega)) (hf 8 (by omega)) (hf 9 (by omega)) (hf 10 (by omega)) (hf 11 (by omega))
  simpa [putAll, List.getD_eq_getElem?_getD, List.range_succ] using this
theorem end13 {P : Program} {ops : Array Oper} {Q : Exit → Act → World → Prop} {a0 : Act} {w0 : World} {φ : Nat → Fct} {d0 d1 d2 d3 d4 d5 d6 d7 d8 d9 d10 d11 d12 : Tmp}
    (h : ∀ (u0 u1 u2 u3 u4 u5 u6 u7 u8 u9 u10 u11 u12 : Value) (w : World), Ext w0 w → (φ 0).R u0 w → (φ 1).R u1 w → (φ 2).R u2 w → (φ 3).R u3 w → (φ 4).R u4 w → (φ 5).R u5 w → (φ 6).R u6 w → (φ 7).R u7 w → (φ 8).R u8 w → (φ 9).R u9 w → (φ 10).R u10 w → (φ 11).R u11 w → (φ 12).R u12 w → wpList P ops Q (ops.toList.drop 13) (((((((((((((a0.put (some d0) u0).put (some d1) u1).put (some d2) u2).put (some d3) u3).put (some d4) u4).put (some d5) u5).put (some d6) u6).put (some d7) u7).put (some d8) u8).put (some d9) u9).put (some d10) u10).put (some d11) u11).put (some d12) u12) w) :
    ∀ (vals : Nat → Value) (w : World), Ext w0 w → (∀ i, i < 13 → (φ i).R (vals i) w) → wpList P ops Q (ops.toList.drop 13) (putAll a0 ((List.range 13).map fun j => (([d0, d1, d2, d3, d4, d5, d6, d7, d8, d9, d10, d11, d12] : List Tmp).getD j 0, vals j))) w := fun vals w he hf => by
  have := h (vals 0) (vals 1) (vals 2) (vals 3) (vals 4) (vals 5) (vals 6) (vals 7) (vals 8) (vals 9) (vals 10) (vals 11) (vals 12) w he (hf 0 (by omega)) (hf 1 (by omega)) (hf 2 (by omega)) (hf 3 (by omega)) (hf 4 (by omega)) (hf 5 (by omega)) (hf 6 (by omega)) (hf 7 (by omega)) (hf 8 (by omega)) (hf 9 (by omega)) (hf 10 (by omega)) (hf 11 (by omega)) (hf 12 (by omega))
  simpa [putAll, List.getD_eq_getElem?_getD, List.range_succ] using this
theorem end14 {P : Program} {ops : Array Oper} {Q : Exit → Act → World → Prop} {a0 : Act} {w0 : World} {φ : Nat → Fct} {d0 d1 d2 d3 d4 d5 d6 d7 d8 d9 d10 d11 d12 d13 : Tmp}
    (h : ∀ (u0 u1 u2 u3 u4 u5 u6 u7 u8 u9 u10 u11 u12 u13 : Value) (w : World), Ext w0 w → (φ 0).R u0 w → (φ 1).R u1 w → (φ 2).R u2 w → (φ 3).R u3 w → (φ 4).R u4 w → (φ 5).R u5 w → (φ 6).R u6 w → (φ 7).R u7 w → (φ 8).R u8 w → (φ 9).R u9 w → (φ 10).R u10 w → (φ 11).R u11 w → (φ 12).R u12 w → (φ 13).R u13 w → wpList P ops Q (ops.toList.drop 14) ((((((((((((((a0.put (some d0) u0).put (some d1) u1).put (some d2) u2).put (some d3) u3).put (some d4) u4).put (some d5) u5).put (some d6) u6).put (some d7) u7).put (some d8) u8).put (some d9) u9).put (some d10) u10).put (some d11) u11).put (some d12) u12).put (some d13) u13) w) :
    ∀ (vals : Nat → Value) (w : World), Ext w0 w → (∀ i, i < 14 → (φ i).R (vals i) w) → wpList P ops Q (ops.toList.drop 14) (putAll a0 ((List.range 14).map fun j => (([d0, d1, d2, d3, d4, d5, d6, d7, d8, d9, d10, d11, d12, d13] : List Tmp).getD j 0, vals j))) w := fun vals w he hf => by
  have := h (vals 0) (vals 1) (vals 2) (vals 3) (vals 4) (vals 5) (vals 6) (vals 7) (vals 8) (vals 9) (vals 10) (vals 11) (vals 12) (vals 13) w he (hf 0 (by omega)) (hf 1 (by omega)) (hf 2 (by omega)) (hf 3 (by omega)) (hf 4 (by omega)) (hf 5 (by omega)) (hf 6 (by omega)) (hf 7 (by omega)) (hf 8 (by omega)) (hf 9 (by omega)) (hf 10 (by omega)) (hf 11 (by omega)) (hf 12 (by omega)) (hf 13 (by omega))
  simpa [putAll, List.getD_eq_getElem?_getD, List.range_succ] using this
theorem end15 {P : Program} {ops : Array Oper} {Q : Exit → Act → World → Prop} {a0 : Act} {w0 : World} {φ : Nat → Fct} {d0 d1 d2 d3 d4 d5 d6 d7 d8 d9 d10 d11 d12 d13 d14 : Tmp}
    (h : ∀ (u0 u1 u2 u3 u4 u5 u6 u7 u8 u9 u10 u11 u12 u13 u14 : Value) (w : World), Ext w0 w → (φ 0).R u0 w → (φ 1).R u1 w → (φ 2).R u2 w → (φ 3).R u3 w → (φ 4).R u4 w → (φ 5).R u5 w → (φ 6).R u6 w → (φ 7).R u7 w → (φ 8).R u8 w → (φ 9).R u9 w → (φ 10).R u10 w → (φ 11).R u11 w → (φ 12).R u12 w → (φ 13).R u13 w → (φ 14).R u14 w → wpList P ops Q (ops.toList.drop 15) (((((((((((((((a0.put (some d0) u0).put (some d1) u1).put (some d2) u2).put (some d3) u3).put (some d4) u4).put (some d5) u5).put (some d6) u6).put (some d7) u7).put (some d8) u8).put (some d9) u9).put (some d10) u10).put (some d11) u11).put (some d12) u12).put (some d13) u13).put (some d14) u14) w) :
    ∀ (vals : Nat → Value) (w : World), Ext w0 w → (∀ i, i < 15 → (φ i).R (vals i) w) → wpList P ops Q (ops.toList.drop 15) (putAll a0 ((List.range 15).map fun j => (([d0, d1, d2, d3, d4, d5, d6, d7, d8, d9, d10, d11, d12, d13, d14] : List Tmp).getD j 0, vals j))) w := fun vals w he hf => by
  have := h (vals 0) (vals 1) (vals 2) (vals 3) (vals 4) (vals 5) (vals 6) (vals 7) (vals 8) (vals 9) (vals 10) (vals 11) (vals 12) (vals 13) (vals 14) w he (hf 0 (by omega)) (hf 1 (by omega)) (hf 2 (by omega)) (hf 3 (by omega)) (hf 4 (by omega)) (hf 5 (by omega)) (hf 6 (by omega)) (hf 7 (by omega)) (hf 8 (by omega)) (hf 9 (by omega)) (hf 10 (by omega)) (hf 11 (by omega)) (hf 12 (by omega)) (hf 13 (by omega)) (hf 14 (by omega))
  simpa [putAll, List.getD_eq_getElem?_getD, List.range_succ] using this
theorem end16 {P : Program} {ops : Array Oper} {Q : Exit → Act → World → Prop} {a0 : Act} {w0 : World} {φ : Nat → Fct} {d0 d1 d2 d3 d4 d5 d6 d7 d8 d9 d10 d11 d12 d13 d14 d15 : Tmp}
    (h : ∀ (u0 u1 u2 u3 u4 u5 u6 u7 u8 u9 u10 u11 u12 u13 u14 u15 : Value) (w : World), Ext w0 w → (φ 0).R u0 w → (φ 1).R u1 w → (φ 2).R u2 w → (φ 3).R u3 w → (φ 4).R u4 w → (φ 5).R u5 w → (φ 6).R u6 w → (φ 7).R u7 w → (φ 8).R u8 w → (φ 9).R u9 w → (φ 10).R u10 w → (φ 11).R u11 w → (φ 12).R u12 w → (φ 13).R u13 w → (φ 14).R u14 w → (φ 15).R u15 w → wpList P ops Q (ops.toList.drop 16) ((((((((((((((((a0.put (some d0) u0).put (some d1) u1).put (some d2) u2).put (some d3) u3).put (some d4) u4).put (some d5) u5).put (some d6) u6).put (some d7) u7).put (some d8) u8).put (some d9) u9).put (some d10) u10).put (some d11) u11).put (some d12) u12).put (some d13) u13).put (some d14) u14).put (some d15) u15) w) :
    ∀ (vals : Nat → Value) (w : World), Ext w0 w → (∀ i, i < 16 → (φ i).R (vals i) w) → wpList P ops Q (ops.toList.drop 16) (putAll a0 ((List.range 16).map fun j => (([d0, d1, d2, d3, d4, d5, d6, d7, d8, d9, d10, d11, d12, d13, d14, d15] : List Tmp).getD j 0, vals j))) w := fun vals w he hf => by
  have := h (vals 0) (vals 1) (vals 2) (vals 3) (vals 4) (vals 5) (vals 6) (vals 7) (vals 8) (vals 9) (vals 10) (vals 11) (vals 12) (vals 13) (vals 14) (vals 15) w he (hf 0 (by omega)) (hf 1 (by omega)) (hf 2 (by omega)) (hf 3 (by omega)) (hf 4 (by omega)) (hf 5 (by omega)) (hf 6 (by omega)) (hf 7 (by omega)) (hf 8 (by omega)) (hf 9 (by omega)) (hf 10 (by omega)) (hf 11 (by omega)) (hf 12 (by omega)) (hf 13 (by omega)) (hf 14 (by omega)) (hf 15 (by omega))
  simpa [putAll, List.getD_eq_getElem?_getD, List.range_succ] using this
theorem end17 {P : Program} {ops : Array Oper} {Q : Exit → Act → World → Prop} {a0 : Act} {w0 : World} {φ : Nat → Fct} {d0 d1 d2 d3 d4 d5 d6 d7 d8 d9 d10 d11 d12 d13 d14 d15 d16 : Tmp}
    (h : ∀ (u0 u1 u2 u3 u4 u5 u6 u7 u8 u9 u10 u11 u12 u13 u14 u15 u16 : Value) (w : World), Ext w0 w → (φ 0).R u0 w → (φ 1).R u1 w → (φ 2).R u2 w → (φ 3).R u3 w → (φ 4).R u4 w → (φ 5).R u5 w → (φ 6).R u6 w → (φ 7).R u7 w → (φ 8).R u8 w → (φ 9).R u9 w → (φ 10).R u10 w → (φ 11).R u11 w → (φ 12).R u12 w → (φ 13).R u13 w → (φ 14).R u14 w → (φ 15).R u15 w → (φ 16).R u16 w → wpList P ops Q (ops.toList.drop 17) (((((((((((((((((a0.put (some d0) u0).put (some d1) u1).put (some d2) u2).put (some d3) u3).put (some d4) u4).put (some d5) u5).put (some d6) u6).put (some d7) u7).put (some d8) u8).put (some d9) u9).put (some d10) u10).put (some d11) u11).put (some d12) u12).put (some d13) u13).put (some d14) u14).put (some d15) u15).put (some d16) u16) w) :
    ∀ (vals : Nat → Value) (w : World), Ext w0 w → (∀ i, i < 17 → (φ i).R (vals i) w) → wpList P ops Q (ops.toList.drop 17) (putAll a0 ((List.range 17).map fun j => (([d0, d1, d2, d3, d4, d5, d6, d7, d8, d9, d10, d11, d12, d13, d14, d15, d16] : List Tmp).getD j 0, vals j))) w := fun vals w he hf => by
  have := h (vals 0) (vals 1) (vals 2) (vals 3) (vals 4) (vals 5) (vals 6) (vals 7) (vals 8) (vals 9) (vals 10) (vals 11) (vals 12) (vals 13) (vals 14) (vals 15) (vals 16) w he (hf 0 (by omega)) (hf 1 (by omega)) (hf 2 (by omega)) (hf 3 (by omega)) (hf 4 (by omega)) (hf 5 (by omega)) (hf 6 (by omega)) (hf 7 (by omega)) (hf 8 (by omega)) (hf 9 (by omega)) (hf 10 (by omega)) (hf 11 (by omega)) (hf 12 (by omega)) (hf 13 (by omega)) (hf 14 (by omega)) (hf 15 (by omega)) (hf 16 (by omega))
  simpa [putAll, List.getD_eq_getElem?_getD, List.range_succ] using this
theorem end18 {P : Program} {ops : Array Oper} {Q : Exit → Act → World → Prop} {a0 : Act} {w0 : World} {φ : Nat → Fct} {d0 d1 d2 d3 d4 d5 d6 d7 d8 d9 d10 d11 d12 d13 d14 d15 d16 d17 : Tmp}
    (h : ∀ (u0 u1 u2 u3 u4 u5 u6 u7 u8 u9 u10 u11 u12 u13 u14 u15 u16 u17 : Value) (w : World), Ext w0 w → (φ 0).R u0 w → (φ 1).R u1 w → (φ 2).R u2 w → (φ 3).R u3 w → (φ 4).R u4 w → (φ 5).R u5 w → (φ 6).R u6 w → (φ 7).R u7 w → (φ 8).R u8 w → (φ 9).R u9 w → (φ 10).R u10 w → (φ 11).R u11 w → (φ 12).R u12 w → (φ 13).R u13 w → (φ 14).R u14 w → (φ 15).R u15 w → (φ 16).R u16 w → (φ 17).R u17 w → wpList P ops Q (ops.toList.drop 18) ((((((((((((((((((a0.put (some d0) u0).put (some d1) u1).put (some d2) u2).put (some d3) u3).put (some d4) u4).put (some d5) u5).put (some d6) u6).put (some d7) u7).put (some d8) u8).put (some d9) u9).put (some d10) u10).put (some d11) u11).put (some d12) u12).put (some d13) u13).put (some d14) u14).put (some d15) u15).put (some d16) u16).put (some d17) u17) w) :
    ∀ (vals : Nat → Value) (w : World), Ext w0 w → (∀ i, i < 18 → (φ i).R (vals i) w) → wpList P ops Q (ops.toList.drop 18) (putAll a0 ((List.range 18).map fun j => (([d0, d1, d2, d3, d4, d5, d6, d7, d8, d9, d10, d11, d12, d13, d14, d15, d16, d17] : List Tmp).getD j 0, vals j))) w := fun vals w he hf => by
  have := h (vals 0) (vals 1) (vals 2) (vals 3) (vals 4) (vals 5) (vals 6) (vals 7) (vals 8) (vals 9) (vals 10) (vals 11) (vals 12) (vals 13) (vals 14) (vals 15) (vals 16) (vals 17) w he (hf 0 (by omega)) (hf 1 (by omega)) (hf 2 (by omega)) (hf 3 (by omega)) (hf 4 (by omega)) (hf 5 (by omega)) (hf 6 (by omega)) (hf 7 (by omega)) (hf 8 (by omega)) (hf 9 (by omega)) (hf 10 (by omega)) (hf 11 (by omega)) (hf 12 (by omega)) (hf 13 (by omega)) (hf 14 (by omega)) (hf 15 (by omega)) (hf 16 (by omega)) (hf 17 (by omega))
  simpa [putAll, List.getD_eq_getElem?_getD, List.range_succ] using this
theorem end19 {P : Program} {ops : Array Oper} {Q : Exit → Act → World → Prop} {a0 : Act} {w0 : World} {φ : Nat → Fct} {d0 d1 d2 d3 d4 d5 d6 d7 d8 d9 d10 d11 d12 d13 d14 d15 d16 d17 d18 : Tmp}
    (h : ∀ (u0 u1 u2 u3 u4 u5 u6 u7 u8 u9 u10 u11 u12 u13 u14 u15 u16 u17 u18 : Value) (w : World), Ext w0 w → (φ 0).R u0 w → (φ 1).R u1 w → (φ 2).R u2 w → (φ 3).R u3 w → (φ 4).R u4 w → (φ 5).R u5 w → (φ 6).R u6 w → (φ 7).R u7 w → (φ 8).R u8 w → (φ 9).R u9 w → (φ 10).R u10 w → (φ 11).R u11 w → (φ 12).R u12 w → (φ 13).R u13 w → (φ 14).R u14 w → (φ 15).R u15 w → (φ 16).R u16 w → (φ 17).R u17 w → (φ 18).R u18 w → wpList P ops Q (ops.toList.drop 19) (((((((((((((((((((a0.put (some d0) u0).put (some d1) u1).put (some d2) u2).put (some d3) u3).put (some d4) u4).put (some d5) u5).put (some d6) u6).put (some d7) u7).put (some d8) u8).put (some d9) u9).put (some d10) u10).put (some d11) u11).put (some d12) u12).put (some d13) u13).put (some d14) u14).put (some d15) u15).put (some d16) u16).put (some d17) u17).put (some d18) u18) w) :
    ∀ (vals : Nat → Value) (w : World), Ext w0 w → (∀ i, i < 19 → (φ i).R (vals i) w) → wpList P ops Q (ops.toList.drop 19) (putAll a0 ((List.range 19).map fun j => (([d0, d1, d2, d3, d4, d5, d6, d7, d8, d9, d10, d11, d12, d13, d14, d15, d16, d17, d18] : List Tmp).getD j 0, vals j))) w := fun vals w he hf => by
  have := h (vals 0) (vals 1) (vals 2) (vals 3) (vals 4) (vals 5) (vals 6) (vals 7) (vals 8) (vals 9) (vals 10) (vals 11) (vals 12) (vals 13) (vals 14) (vals 15) (vals 16) (vals 17) (vals 18) w he (hf 0 (by omega)) (hf 1 (by omega)) (hf 2 (by omega)) (hf 3 (by omega)) (hf 4 (by omega)) (hf 5 (by omega)) (hf 6 (by omega)) (hf 7 (by omega)) (hf 8 (by omega)) (hf 9 (by omega)) (hf 10 (by omega)) (hf 11 (by omega)) (hf 12 (by omega)) (hf 13 (by omega)) (hf 14 (by omega)) (hf 15 (by omega)) (hf 16 (by omega)) (hf 17 (by omega)) (hf 18 (by omega))
  simpa [putAll, List.getD_eq_getElem?_getD, List.range_succ] using this
theorem end20 {P : Program} {ops : Array Oper} {Q : Exit → Act → World → Prop} {a0 : Act} {w0 : World} {φ : Nat → Fct} {d0 d1 d2 d3 d4 d5 d6 d7 d8 d9 d10 d11 d12 d13 d14 d15 d16 d17 d18 d19 : Tmp}
    (h : ∀ (u0 u1 u2 u3 u4 u5 u6 u7 u8 u9 u10 u11 u12 u13 u14 u15 u16 u17 u18 u19 : Value) (w : World), Ext w0 w → (φ 0).R u0 w → (φ 1).R u1 w → (φ 2).R u2 w → (φ 3).R u3 w → (φ 4).R u4 w → (φ 5).R u5 w → (φ 6).R u6 w → (φ 7).R u7 w → (φ 8).R u8 w → (φ 9).R u9 w → (φ 10).R u10 w → (φ 11).R u11 w → (φ 12).R u12 w → (φ 13).R u13 w → (φ 14).R u14 w → (φ 15).R u15 w → (φ 16).R u16 w → (φ 17).R u17 w → (φ 18).R u18 w → (φ 19).R u19 w → wpList P ops Q (ops.toList.drop 20) ((((((((((((((((((((a0.put (some d0) u0).put (some d1) u1).put (some d2) u2).put (some d3) u3).put (some d4) u4).put (some d5) u5).put (some d6) u6).put (some d7) u7).put (some d8) u8).put (some d9) u9).put (some d10) u10).put (some d11) u11).put (some d12) u12).put (some d13) u13).put (some d14) u14).put (some d15) u15).put (some d16) u16).put (some d17) u17).put (some d18) u18).put (some d19) u19) w) :
    ∀ (vals : Nat → Value) (w : World), Ext w0 w → (∀ i, i < 20 → (φ i).R (vals i) w) → wpList P ops Q (ops.toList.drop 20) (putAll a0 ((List.range 20).map fun j => (([d0, d1, d2, d3, d4, d5, d6, d7, d8, d9, d10, d11, d12, d13, d14, d15, d16, d17, d18, d19] : List Tmp).getD j 0, vals j))) w := fun vals w he hf => by
  have := h (vals 0) (vals 1) (vals 2) (vals 3) (vals 4) (vals 5) (vals 6) (vals 7) (vals 8) (vals 9) (vals 10) (vals 11) (vals 12) (vals 13) (vals 14) (vals 15) (vals 16) (vals 17) (vals 18) (vals 19) w he (hf 0 (by omega)) (hf 1 (by omega)) (hf 2 (by omega)) (hf 3 (by omega)) (hf 4 (by omega)) (hf 5 (by omega)) (hf 6 (by omega)) (hf 7 (by omega)) (hf 8 (by omega)) (hf 9 (by omega)) (hf 10 (by omega)) (hf 11 (by omega)) (hf 12 (by omega)) (hf 13 (by omega)) (hf 14 (by omega)) (hf 15 (by omega)) (hf 16 (by omega)) (hf 17 (by omega)) (hf 18 (by omega)) (hf 19 (by omega))
  simpa [putAll, List.getD_eq_getElem?_getD, List.range_succ] using this
theorem end21 {P : Program} {ops : Array Oper} {Q : Exit → Act → World → Prop} {a0 : Act} {w0 : World} {φ : Nat → Fct} {d0 d1 d2 d3 d4 d5 d6 d7 d8 d9 d10 d11 d12 d13 d14 d15 d16 d17 d18 d19 d20 : Tmp}
    (h : ∀ (u0 u1 u2 u3 u4 u5 u6 u7 u8 u9 u10 u11 u12 u13 u14 u15 u16 u17 u18 u19 u20 : Value) (w : World), Ext w0 w → (φ 0).R u0 w → (φ 1).R u1 w → (φ 2).R u2 w → (φ 3).R u3 w → (φ 4).R u4 w → (φ 5).R u5 w → (φ 6).R u6 w → (φ 7).R u7 w → (φ 8).R u8 w → (φ 9).R u9 w → (φ 10).R u10 w → (φ 11).R u11 w → (φ 12).R u12 w → (φ 13).R u13 w → (φ 14).R u14 w → (φ 15).R u15 w → (φ 16).R u16 w → (φ 17).R u17 w → (φ 18).R u18 w → (φ 19).R u19 w → (φ 20).R u20 w → wpList P ops Q (ops.toList.drop 21) (((((((((((((((((((((a0.put (some d0) u0).put (some d1) u1).put (some d2) u2).put (some d3) u3).put (some d4) u4).put (some d5) u5).put (some d6) u6).put (some d7) u7).put (some d8) u8).put (some d9) u9).put (some d10) u10).put (some d11) u11).put (some d12) u12).put (some d13) u13).put (some d14) u14).put (some d15) u15).put (some d16) u16).put (some d17) u17).put (some d18) u18).put (some d19) u19).put (some d20) u20) w) :
    ∀ (vals : Nat → Value) (w : World), Ext w0 w → (∀ i, i < 21 → (φ i).R (vals i) w) → wpList P ops Q (ops.toList.drop 21) (putAll a0 ((List.range 21).map fun j => (([d0, d1, d2, d3, d4, d5, d6, d7, d8, d9, d10, d11, d12, d13, d14, d15, d16, d17, d18, d19, d20] : List Tmp).getD j 0, vals j))) w := fun vals w he hf => by
  have := h (vals 0) (vals 1) (vals 2) (vals 3) (vals 4) (vals 5) (vals 6) (vals 7) (vals 8) (vals 9) (vals 10) (vals 11) (vals 12) (vals 13) (vals 14) (vals 15) (vals 16) (vals 17) (vals 18) (vals 19) (vals 20) w he (hf 0 (by omega)) (hf 1 (by omega)) (hf 2 (by omega)) (hf 3 (by omega)) (hf 4 (by omega)) (hf 5 (by omega)) (hf 6 (by omega)) (hf 7 (by omega)) (hf 8 (by omega)) (hf 9 (by omega)) (hf 10 (by omega)) (hf 11 (by omega)) (hf 12 (by omega)) (hf 13 (by omega)) (hf 14 (by omega)) (hf 15 (by omega)) (hf 16 (by omega)) (hf 17 (by omega)) (hf 18 (by omega)) (hf 19 (by omega)) (hf 20 (by omega))
  simpa [putAll, List.getD_eq_getElem?_getD, List.range_succ] using this
theorem end22 {P : Program} {ops : Array Oper} {Q : Exit → Act → World → Prop} {a0 : Act} {w0 : World} {φ : Nat → Fct} {d0 d1 d2 d3 d4 d5 d6 d7 d8 d9 d10 d11 d12 d13 d14 d15 d16 d17 d18 d19 d20 d21 : Tmp}
    (h : ∀ (u0 u1 u2 u3 u4 u5 u6 u7 u8 u9 u10 u11 u12 u13 u14 u15 u16 u17 u18 u19 u20 u21 : Value) (w : World), Ext w0 w → (φ 0).R u0 w → (φ 1).R u1 w → (φ 2).R u2 w → (φ 3).R u3 w → (φ 4).R u4 w → (φ 5).R u5 w → (φ 6).R u6 w → (φ 7).R u7 w → (φ 8).R u8 w → (φ 9).R u9 w → (φ 10).R u10 w → (φ 11).R u11 w → (φ 12).R u12 w → (φ 13).R u13 w → (φ 14).R u14 w → (φ 15).R u15 w → (φ 16).R u16 w → (φ 17).R u17 w → (φ 18).R u18 w → (φ 19).R u19 w → (φ 20).R u20 w → (φ 21).R u21 w → wpList P ops Q (ops.toList.drop 22) ((((((((((((((((((((((a0.put (some d0) u0).put (some d1) u1).put (some d2) u2).put (some d3) u3).put (some d4) u4).put (some d5) u5).put (some d6) u6).put (some d7) u7).put (some d8) u8).put (some d9) u9).put (some d10) u10).put (some d11) u11).put (some d12) u12).put (some d13) u13).put (some d14) u14).put (some d15) u15).put (some d16) u16).put (some d17) u17).put (some d18) u18).put (some d19) u19).put (some d20) u20).put (some d21) u21) w) :
    ∀ (vals : Nat → Value) (w : World), Ext w0 w → (∀ i, i < 22 → (φ i).R (vals i) w) → wpList P ops Q (ops.toList.drop 22) (putAll a0 ((List.range 22).map fun j => (([d0, d1, d2, d3, d4, d5, d6, d7, d8, d9, d10, d11, d12, d13, d14, d15, d16, d17, d18, d19, d20, d21] : List Tmp).getD j 0, vals j))) w := fun vals w he hf => by
  have := h (vals 0) (vals 1) (vals 2) (vals 3) (vals 4) (vals 5) (vals 6) (vals 7) (vals 8) (vals 9) (vals 10) (vals 11) (vals 12) (vals 13) (vals 14) (vals 15) (vals 16) (vals 17) (vals 18) (vals 19) (vals 20) (vals 21) w he (hf 0 (by omega)) (hf 1 (by omega)) (hf 2 (by omega)) (hf 3 (by omega)) (hf 4 (by omega)) (hf 5 (by omega)) (hf 6 (by omega)) (hf 7 (by omega)) (hf 8 (by omega)) (hf 9 (by omega)) (hf 10 (by omega)) (hf 11 (by omega)) (hf 12 (by omega)) (hf 13 (by omega)) (hf 14 (by omega)) (hf 15 (by omega)) (hf 16 (by omega)) (hf 17 (by omega)) (hf 18 (by omega)) (hf 19 (by omega)) (hf 20 (by omega)) (hf 21 (by omega))
  simpa [putAll, List.getD_eq_getElem?_getD, List.range_succ] using this
theorem end23 {P : Program} {ops : Array Oper} {Q : Exit → Act → World → Prop} {a0 : Act} {w0 : World} {φ : Nat → Fct} {d0 d1 d2 d3 d4 d5 d6 d7 d8 d9 d10 d11 d12 d13 d14 d15 d16 d17 d18 d19 d20 d21 d22 : Tmp}
    (h : ∀ (u0 u1 u2 u3 u4 u5 u6 u7 u8 u9 u10 u11 u12 u13 u14 u15 u16 u17 u18 u19 u20 u21 u22 : Value) (w : World), Ext w0 w → (φ 0).R u0 w → (φ 1).R u1 w → (φ 2).R u2 w → (φ 3).R u3 w → (φ 4).R u4 w → (φ 5).R u5 w → (φ 6).R u6 w → (φ 7).R u7 w → (φ 8).R u8 w → (φ 9).R u9 w → (φ 10).R u10 w → (φ 11).R u11 w → (φ 12).R u12 w → (φ 13).R u13 w → (φ 14).R u14 w → (φ 15).R u15 w → (φ 16).R u16 w → (φ 17).R u17 w → (φ 18).R u18 w → (φ 19).R u19 w → (φ 20).R u20 w → (φ 21).R u21 w → (φ 22).R u22 w → wpList P ops Q (ops.toList.drop 23) (((((((((((((((((((((((a0.put (some d0) u0).put (some d1) u1).put (some d2) u2).put (some d3) u3).put (some d4) u4).put (some d5) u5).put (some d6) u6).put (some d7) u7).put (some d8) u8).put (some d9) u9).put (some d10) u10).put (some d11) u11).put (some d12) u12).put (some d13) u13).put (some d14) u14).put (some d15) u15).put (some d16) u16).put (some d17) u17).put (some d18) u18).put (some d19) u19).put (some d20) u20).put (some d21) u21).put (some d22) u22) w) :
    ∀ (vals : Nat → Value) (w : World), Ext w0 w → (∀ i, i < 23 → (φ i).R (vals i) w) → wpList P ops Q (ops.toList.drop 23) (putAll a0 ((List.range 23).map fun j => (([d0, d1, d2, d3, d4, d5, d6, d7, d8, d9, d10, d11, d12, d13, d14, d15, d16, d17, d18, d19, d20, d21, d22] : List Tmp).getD j 0, vals j))) w := fun vals w he hf => by
  have := h (vals 0) (vals 1) (vals 2) (vals 3) (vals 4) (vals 5) (vals 6) (vals 7) (vals 8) (vals 9) (vals 10) (vals 11) (vals 12) (vals 13) (vals 14) (vals 15) (vals 16) (vals 17) (vals 18) (vals 19) (vals 20) (vals 21) (vals 22) w he (hf 0 (by omega)) (hf 1 (by omega)) (hf 2 (by omega)) (hf 3 (by omega)) (hf 4 (by omega)) (hf 5 (by omega)) (hf 6 (by omega)) (hf 7 (by omega)) (hf 8 (by omega)) (hf 9 (by omega)) (hf 10 (by omega)) (hf 11 (by omega)) (hf 12 (by omega)) (hf 13 (by omega)) (hf 14 (by omega)) (hf 15 (by omega)) (hf 16 (by omega)) (hf 17 (by omega)) (hf 18 (by omega)) (hf 19 (by omega)) (hf 20 (by omega)) (hf 21 (by omega)) (hf 22 (by omega))
  simpa [putAll, List.getD_eq_getElem?_getD, List.range_succ] using this
theorem end24 {P : Program} {ops : Array Oper} {Q : Exit → Act → World → Prop} {a0 : Act} {w0 : World} {φ : Nat → Fct} {d0 d1 d2 d3 d4 d5 d6 d7 d8 d9 d10 d11 d12 d13 d14 d15 d16 d17 d18 d19 d20 d21 d22 d23 : Tmp}
    (h : ∀ (u0 u1 u2 u3 u4 u5 u6 u7 u8 u9 u10 u11 u12 u13 u14 u15 u16 u17 u18 u19 u20 u21 u22 u23 : Value) (w : World), Ext w0 w → (φ 0).R u0 w → (φ 1).R u1 w → (φ 2).R u2 w → (φ 3).R u3 w → (φ 4).R u4 w → (φ 5).R u5 w → (φ 6).R u6 w → (φ 7).R u7 w → (φ 8).R u8 w → (φ 9).R u9 w → (φ 10).R u10 w → (φ 11).R u11 w → (φ 12).R u12 w → (φ 13).R u13 w → (φ 14).R u14 w → (φ 15).R u15 w → (φ 16).R u16 w → (φ 17).R u17 w → (φ 18).R u18 w → (φ 19).R u19 w → (φ 20).R u20 w → (φ 21).R u21 w → (φ 22).R u22 w → (φ 23).R u23 w → wpList P ops Q (ops.toList.drop 24) ((((((((((((((((((((((((a0.put (some d0) u0).put (some d1) u1).put (some d2) u2).put (some d3) u3).put (some d4) u4).put (some d5) u5).put (some d6) u6).put (some d7) u7).put (some d8) u8).put (some d9) u9).put (some d10) u10).put (some d11) u11).put (some d12) u12).put (some d13) u13).put (some d14) u14).put (some d15) u15).put (some d16) u16).put (some d17) u17).put (some d18) u18).put (some d19) u19).put (some d20) u20).put (some d21) u21).put (some d22) u22).put (some d23) u23) w) :
    ∀ (vals : Nat → Value) (w : World), Ext w0 w → (∀ i, i < 24 → (φ i).R (vals i) w) → wpList P ops Q (ops.toList.drop 24) (putAll a0 ((List.range 24).map fun j => (([d0, d1, d2, d3, d4, d5, d6, d7, d8, d9, d10, d11, d12, d13, d14, d15, d16, d17, d18, d19, d20, d21, d22, d23] : List Tmp).getD j 0, vals j))) w := fun vals w he hf => by
  have := h (vals 0) (vals 1) (vals 2) (vals 3) (vals 4) (vals 5) (vals 6) (vals 7) (vals 8) (vals 9) (vals 10) (vals 11) (vals 12) (vals 13) (vals 14) (vals 15) (vals 16) (vals 17) (vals 18) (vals 19) (vals 20) (vals 21) (vals 22) (vals 23) w he (hf 0 (by omega)) (hf 1 (by omega)) (hf 2 (by omega)) (hf 3 (by omega)) (hf 4 (by omega)) (hf 5 (by omega)) (hf 6 (by omega)) (hf 7 (by omega)) (hf 8 (by omega)) (hf 9 (by omega)) (hf 10 (by omega)) (hf 11 (by omega)) (hf 12 (by omega)) (hf 13 (by omega)) (hf 14 (by omega)) (hf 15 (by omega)) (hf 16 (by omega)) (hf 17 (by omega)) (hf 18 (by omega)) (hf 19 (by omega)) (hf 20 (by omega)) (hf 21 (by omega)) (hf 22 (by omega)) (hf 23 (by omega))
  simpa [putAll, List.getD_eq_getElem?_getD, List.range_succ] using this

--# gsteps
theorem gstep1 {P : Program} {ops : Array Oper} {dsts : List Tmp} {deps : List (List Nat)} {a0 : Act} {w0 : World} {φ : Nat → Fct} {i : Nat} {o : Oper} {j0 : Nat} {d0 : Tmp} {want : Bool} (hg : o.guard = some (j0, want)) (hd : deps[i]? = some [j0]) (ho : ops.toList[i]? = some o) (h0 : dsts[j0]? = some d0)
    (hw : ∀ u w, (φ j0).R u w → u = .bool want)
    (h : ∀ (u0 : Value) (w : World), Ext w0 w → (φ j0).R u0 w → OpRun P (a0.put (some d0) u0).eval o w fun v w' => Ext w w' ∧ (φ i).R v w') : StepOf P ops dsts deps a0 w0 (fun i => (φ i).R) i := ⟨fun vals w he hf => by
  have e : deps.getD i [] = [j0] := by rw [List.getD_eq_getElem?_getD, hd]; rfl
  rw [e] at hf ⊢
  refine ⟨o, by rw [← Array.getElem?_toList]; exact ho, ?_⟩
  unfold StepRun
  rw [hg]
  refine ⟨fun _ => ?_, fun hne => absurd (hw _ w (hf j0 (by simp))) hne⟩
  have := h (vals j0) w he (hf j0 (by simp))
  simpa [putAll, List.getD_eq_getElem?_getD, h0] using this⟩
theorem gstep2 {P : Program} {ops : Array Oper} {dsts : List Tmp} {deps : List (List Nat)} {a0 : Act} {w0 : World} {φ : Nat → Fct} {i : Nat} {o : Oper} {j0 j1 : Nat} {d0 d1 : Tmp} {want : Bool} (hg : o.guard = some (j0, want)) (hd : deps[i]? = some [j0, j1]) (ho : ops.toList[i]? = some o) (h0 : dsts[j0]? = some d0) (h1 : dsts[j1]? = some d1)
    (hw : ∀ u w, (φ j0).R u w → u = .bool want)
    (h : ∀ (u0 u1 : Value) (w : World), Ext w0 w → (φ j0).R u0 w → (φ j1).R u1 w → OpRun P ((a0.put (some d0) u0).put (some d1) u1).eval o w fun v w' => Ext w w' ∧ (φ i).R v w') : StepOf P ops dsts deps a0 w0 (fun i => (φ i).R) i := ⟨fun vals w he hf => by
  have e : deps.getD i [] = [j0, j1] := by rw [List.getD_eq_getElem?_getD, hd]; rfl
  rw [e] at hf ⊢
  refine ⟨o, by rw [← Array.getElem?_toList]; exact ho, ?_⟩
  unfold StepRun
  rw [hg]
  refine ⟨fun _ => ?_, fun hne => absurd (hw _ w (hf j0 (by simp))) hne⟩
  have := h (vals j0) (vals j1) w he (hf j0 (by simp)) (hf j1 (by simp))
  simpa [putAll, List.getD_eq_getElem?_getD, h0, h1] using this⟩
theorem gstep3 {P : Program} {ops : Array Oper} {dsts : List Tmp} {deps : List (List Nat)} {a0 : Act} {w0 : World} {φ : Nat → Fct} {i : Nat} {o : Oper} {j0 j1 j2 : Nat} {d0 d1 d2 : Tmp} {want : Bool} (hg : o.guard = some (j0, want)) (hd : deps[i]? = some [j0, j1, j2]) (ho : ops.toList[i]? = some o) (h0 : dsts[j0]? = some d0) (h1 : dsts[j1]? = some d1) (h2 : dsts[j2]? = some d2)
    (hw : ∀ u w, (φ j0).R u w → u = .bool want)
    (h : ∀ (u0 u1 u2 : Value) (w : World), Ext w0 w → (φ j0).R u0 w → (φ j1).R u1 w → (φ j2).R u2 w → OpRun P (((a0.put (some d0) u0).put (some d1) u1).put (some d2) u2).eval o w fun v w' => Ext w w' ∧ (φ i).R v w') : StepOf P ops dsts deps a0 w0 (fun i => (φ i).R) i := ⟨fun vals w he hf => by
  have e : deps.getD i [] = [j0, j1, j2] := by rw [List.getD_eq_getElem?_getD, hd]; rfl
  rw [e] at hf ⊢
  refine ⟨o, by rw [← Array.getElem?_toList]; exact ho, ?_⟩
  unfold StepRun
  rw [hg]
  refine ⟨fun _ => ?_, fun hne => absurd (hw _ w (hf j0 (by simp))) hne⟩
  have := h (vals j0) (vals j1) (vals j2) w he (hf j0 (by simp)) (hf j1 (by simp)) (hf j2 (by simp))
  simpa [putAll, List.getD_eq_getElem?_getD, h0, h1, h2] using this⟩
theorem gstep4 {P : Program} {ops : Array Oper} {dsts : List Tmp} {deps : List (List Nat)} {a0 : Act} {w0 : World} {φ : Nat → Fct} {i : Nat} {o : Oper} {j0 j1 j2 j3 : Nat} {d0 d1 d2 d3 : Tmp} {want : Bool} (hg : o.guard = some (j0, want)) (hd : deps[i]? = some [j0, j1, j2, j3]) (ho : ops.toList[i]? = some o) (h0 : dsts[j0]? = some d0) (h1 : dsts[j1]? = some d1) (h2 : dsts[j2]? = some d2) (h3 : dsts[j3]? = some d3)
    (hw : ∀ u w, (φ j0).R u w → u = .bool want)
    (h : ∀ (u0 u1 u2 u3 : Value) (w : World), Ext w0 w → (φ j0).R u0 w → (φ j1).R u1 w → (φ j2).R u2 w → (φ j3).R u3 w → OpRun P ((((a0.put (some d0) u0).put (some d1) u1).put (some d2) u2).put (some d3) u3).eval o w fun v w' => Ext w w' ∧ (φ i).R v w') : StepOf P ops dsts deps a0 w0 (fun i => (φ i).R) i := ⟨fun vals w he hf => by
  have e : deps.getD i [] = [j0, j1, j2, j3] := by rw [List.getD_eq_getElem?_getD, hd]; rfl
  rw [e] at hf ⊢
  refine ⟨o, by rw [← Array.getElem?_toList]; exact ho, ?_⟩
  unfold StepRun
  rw [hg]
  refine ⟨fun _ => ?_, fun hne => absurd (hw _ w (hf j0 (by simp))) hne⟩
  have := h (vals j0) (vals j1) (vals j2) (vals j3) w he (hf j0 (by simp)) (hf j1 (by simp)) (hf j2 (by simp)) (hf j3 (by simp))
  simpa [putAll, List.getD_eq_getElem?_getD, h0, h1, h2, h3] using this⟩
theorem gstep5 {P : Program} {ops : Array Oper} {dsts : List Tmp} {deps : List (List Nat)} {a0 : Act} {w0 : World} {φ : Nat → Fct} {i : Nat} {o : Oper} {j0 j1 j2 j3 j4 : Nat} {d0 d1 d2 d3 d4 : Tmp} {want : Bool} (hg : o.guard = some (j0, want)) (hd : deps[i]? = some [j0, j1, j2, j3, j4]) (ho : ops.toList[i]? = some o) (h0 : dsts[j0]? = some d0) (h1 : dsts[j1]? = some d1) (h2 : dsts[j2]? = some d2) (h3 : dsts[j3]? = some d3) (h4 : dsts[j4]? = some d4)
    (hw : ∀ u w, (φ j0).R u w → u = .bool want)
    (h : ∀ (u0 u1 u2 u3 u4 : Value) (w : World), Ext w0 w → (φ j0).R u0 w → (φ j1).R u1 w → (φ j2).R u2 w → (φ j3).R u3 w → (φ j4).R u4 w → OpRun P (((((a0.put (some d0) u0).put (some d1) u1).put (some d2) u2).put (some d3) u3).put (some d4) u4).eval o w fun v w' => Ext w w' ∧ (φ i).R v w') : StepOf P ops dsts deps a0 w0 (fun i => (φ i).R) i := ⟨fun vals w he hf => by
  have e : deps.getD i [] = [j0, j1, j2, j3, j4] := by rw [List.getD_eq_getElem?_getD, hd]; rfl
  rw [e] at hf ⊢
  refine ⟨o, by rw [← Array.getElem?_toList]; exact ho, ?_⟩
  unfold StepRun
  rw [hg]
  refine ⟨fun _ => ?_, fun hne => absurd (hw _ w (hf j0 (by simp))) hne⟩
  have := h (vals j0) (vals j1) (vals j2) (vals j3) (vals j4) w he (hf j0 (by simp)) (hf j1 (by simp)) (hf j2 (by simp)) (hf j3 (by simp)) (hf j4 (by simp))
  simpa [putAll, List.getD_eq_getElem?_getD, h0, h1, h2, h3, h4] using this⟩
theorem gstep6 {P : Program} {ops : Array Oper} {dsts : List Tmp} {deps : List (List Nat)} {a0 : Act} {w0 : World} {φ : Nat → Fct} {i : Nat} {o : Oper} {j0 j1 j2 j3 j4 j5 : Nat} {d0 d1 d2 d3 d4 d5 : Tmp} {want : Bool} (hg : o.guard = some (j0, want)) (hd : deps[i]? = some [j0, j1, j2, j3, j4, j5]) (ho : ops.toList[i]? = some o) (h0 : dsts[j0]? = some d0) (h1 : dsts[j1]? = some d1) (h2 : dsts[j2]? = some d2) (h3 : dsts[j3]? = some d3) (h4 : dsts[j4]? = some d4) (h5 : dsts[j5]? = some d5)
    (hw : ∀ u w, (φ j0).R u w → u = .bool want)
    (h : ∀ (u0 u1 u2 u3 u4 u5 : Value) (w : World), Ext w0 w → (φ j0).R u0 w → (φ j1).R u1 w → (φ j2).R u2 w → (φ j3).R u3 w → (φ j4).R u4 w → (φ j5).R u5 w → OpRun P ((((((a0.put (some d0) u0).put (some d1) u1).put (some d2) u2).put (some d3) u3).put (some d4) u4).put (some d5) u5).eval o w fun v w' => Ext w w' ∧ (φ i).R v w') : StepOf P ops dsts deps a0 w0 (fun i => (φ i).R) i := ⟨fun vals w he hf => by
  have e : deps.getD i [] = [j0, j1, j2, j3, j4, j5] := by rw [List.getD_eq_getElem?_getD, hd]; rfl
  rw [e] at hf ⊢
  refine ⟨o, by rw [← Array.getElem?_toList]; exact ho, ?_⟩
  unfold StepRun
  rw [hg]
  refine ⟨fun _ => ?_, fun hne => absurd (hw _ w (hf j0 (by simp))) hne⟩
  have := h (vals j0) (vals j1) (vals j2) (vals j3) (vals j4) (vals j5) w he (hf j0 (by simp)) (hf j1 (by simp)) (hf j2 (by simp)) (hf j3 (by simp)) (hf j4 (by simp)) (hf j5 (by simp))
  simpa [putAll, List.getD_eq_getElem?_getD, h0, h1, h2, h3, h4, h5] using this⟩
theorem gstep7 {P : Program} {ops : Array Oper} {dsts : List Tmp} {deps : List (List Nat)} {a0 : Act} {w0 : World} {φ : Nat → Fct} {i : Nat} {o : Oper} {j0 j1 j2 j3 j4 j5 j6 : Nat} {d0 d1 d2 d3 d4 d5 d6 : Tmp} {want : Bool} (hg : o.guard = some (j0, want)) (hd : deps[i]? = some [j0, j1, j2, j3, j4, j5, j6]) (ho : ops.toList[i]? = some o) (h0 : dsts[j0]? = some d0) (h1 : dsts[j1]? = some d1) (h2 : dsts[j2]? = some d2) (h3 : dsts[j3]? = some d3) (h4 : dsts[j4]? = some d4) (h5 : dsts[j5]? = some d5) (h6 : dsts[j6]? = some d6)
    (hw : ∀ u w, (φ j0).R u w → u = .bool want)
    (h : ∀ (u0 u1 u2 u3 u4 u5 u6 : Value) (w : World), Ext w0 w → (φ j0).R u0 w → (φ j1).R u1 w → (φ j2).R u2 w → (φ j3).R u3 w → (φ j4).R u4 w → (φ j5).R u5 w → (φ j6).R u6 w → OpRun P (((((((a0.put (some d0) u0).put (some d1) u1).put (some d2) u2).put (some d3) u3).put (some d4) u4).put (some d5) u5).put (some d6) u6).eval o w fun v w' => Ext w w' ∧ (φ i).R v w') : StepOf P ops dsts deps a0 w0 (fun i => (φ i).R) i := ⟨fun vals w he hf => by
  have e : deps.getD i [] = [j0, j1, j2, j3, j4, j5, j6] := by rw [List.getD_eq_getElem?_getD, hd]; rfl
  rw [e] at hf ⊢
  refine ⟨o, by rw [← Array.getElem?_toList]; exact ho, ?_⟩
  unfold StepRun
  rw [hg]
  refine ⟨fun _ => ?_, fun hne => absurd (hw _ w (hf j0 (by simp))) hne⟩
  have := h (vals j0) (vals j1) (vals j2) (vals j3) (vals j4) (vals j5) (vals j6) w he (hf j0 (by simp)) (hf j1 (by simp)) (hf j2 (by simp)) (hf j3 (by simp)) (hf j4 (by simp)) (hf j5 (by simp)) (hf j6 (by simp))
  simpa [putAll, List.getD_eq_getElem?_getD, h0, h1, h2, h3, h4, h5, h6] using this⟩
/-- A guarded operation that is not carried out. -/
theorem skip_ {P : Program} {ops : Array Oper} {dsts : List Tmp} {deps : List (List Nat)} {a0 : Act} {w0 : World} {φ : Nat → Fct} {i : Nat} {o : Oper} {j0 : Nat} {ds : List Nat} {want : Bool} (hg : o.guard = some (j0, want)) (hd : deps[i]? = some (j0 :: ds)) (ho : ops.toList[i]? = some o)
    (hw : ∀ u w, (φ j0).R u w → u = .bool (!want)) (h : ∀ w, (φ i).R undef w) : StepOf P ops dsts deps a0 w0 (fun i => (φ i).R) i := ⟨fun vals w he hf => by
  have e : deps.getD i [] = j0 :: ds := by rw [List.getD_eq_getElem?_getD, hd]; rfl
  rw [e] at hf ⊢
  refine ⟨o, by rw [← Array.getElem?_toList]; exact ho, ?_⟩
  unfold StepRun
  rw [hg]
  refine ⟨fun he' => ?_, fun _ => ⟨Ext.refl _, h w⟩⟩
  have := hw _ w (hf j0 (by simp))
  rw [he'] at this
  cases want <;> cases this⟩

theorem skipu_ {P : Program} {ops : Array Oper} {dsts : List Tmp} {deps : List (List Nat)} {a0 : Act} {w0 : World} {φ : Nat → Fct} {i : Nat} {o : Oper} {j0 : Nat} {ds : List Nat} {want : Bool} (hg : o.guard = some (j0, want)) (hd : deps[i]? = some (j0 :: ds)) (ho : ops.toList[i]? = some o)
    (hw : ∀ u w, (φ j0).R u w → u = undef) (h : ∀ w, (φ i).R undef w) : StepOf P ops dsts deps a0 w0 (fun i => (φ i).R) i := ⟨fun vals w he hf => by
  have e : deps.getD i [] = j0 :: ds := by rw [List.getD_eq_getElem?_getD, hd]; rfl
  rw [e] at hf ⊢
  refine ⟨o, by rw [← Array.getElem?_toList]; exact ho, ?_⟩
  unfold StepRun
  rw [hg]
  refine ⟨fun he' => ?_, fun _ => ⟨Ext.refl _, h w⟩⟩
  have := hw _ w (hf j0 (by simp))
  rw [he'] at this
  cases this⟩

--# put
theorem setRow_blk {w : World} {g : Nat} {t : TypeId} {old cells : Array Value} (hg : Blk w g t old) : Blk (w.setRow g cells) g t cells := setRow_heap w g old cells t (0, 0) hg
theorem setRow_far (w : World) {g k : Nat} (cells : Array Value) (h : k ≠ g) : (w.setRow g cells).heap[k]? = w.heap[k]? := setRow_other w g k cells h
theorem setRow_ext {w0 w : World} {g : Nat} {cells : Array Value} (h : w0.heap.size ≤ g) (he : Ext w0 w) : Ext w0 (w.setRow g cells) := by
  have hb := he.below
  unfold Ext
  exact ⟨hb.os, hb.tape, hb.output, by rw [size_setRow]; exact hb.size, fun k hk => (setRow_far w cells (by omega)).trans (hb.block k hk)⟩
/-- A whole row is put into a block. -/
theorem wpList_put {P : Program} {ops : Array Oper} {rest : List Oper} {o : Oper} {a : Act} {w : World} {Q : Exit → Act → World → Prop} (ty : TypeId) (x y : Operand) (g : Nat) (t : TypeId) (old cells : Array Value) (hg : Blk w g t old)
    (hgd : o.guard = none) (ho : o.op = .store ty x y) (hx : a.eval x = .pointer (some ⟨g, 0, none⟩)) (hy : a.eval y = .agg cells)
    (hi : (P.info? ty).map (·.size) = some cells.size) (hold : old.size = cells.size) (h1 : cells.all (·.oneCell') = true)
    (h : ∀ w', Blk w' g t cells → (∀ w0 : World, w0.heap.size ≤ g → Ext w0 w → Ext w0 w') → (∀ k, k ≠ g → w'.heap[k]? = w.heap[k]?) → w'.heap.size = w.heap.size → wpList P ops Q rest (a.put o.dst undef) w') : wpList P ops Q (o :: rest) a w :=
  wpList_store_row hgd ty x y ho g cells hx hy t old hg hi hold h1 (h _ (setRow_blk hg) (fun w0 h0 he => setRow_ext h0 he) (fun k hk => setRow_far w cells hk) (size_setRow w g cells))

--# seq
/-- The same for a region in the order of the text. -/
theorem seq_facts {P : Program} {ops : Array Oper} {Q : Exit → Act → World → Prop} {a0 : Act} {w0 : World} (dsts : List Tmp) (deps : List (List Nat)) (φ : Nat → Value → World → Prop)
    (hck : regFits ops dsts deps = true) (hn : dsts.Nodup) (hlt : ∀ t ∈ dsts, t < a0.tmps.size)
    (hst : ∀ i v w w', φ i v w → Ext w w' → φ i v w') (hs : ∀ i, i < dsts.length → StepOf P ops dsts deps a0 w0 φ i)
    (hend : ∀ (vals : Nat → Value) (w : World), Ext w0 w → (∀ i, i < dsts.length → φ i (vals i) w) →
      wpList P ops Q (ops.toList.drop dsts.length) (putAll a0 ((List.range dsts.length).map fun j => (dsts.getD j 0, vals j))) w) : wpList P ops Q ops.toList a0 w0 := by
  simp only [regFits, Bool.and_eq_true] at hck
  obtain ⟨⟨hfits, htail⟩, hle⟩ := hck
  have hle : dsts.length ≤ ops.size := of_decide_eq_true hle
  have hfit : ∀ i, i < dsts.length → ∃ o, ops[i]? = some o ∧ opFits dsts i o (deps.getD i []) = true := fun i hi => by
    have := List.all_eq_true.1 hfits i (List.mem_range.2 hi)
    cases ho : ops[i]? with
    | none => rw [ho] at this; simp at this
    | some o =>
      cases hd : deps[i]? with
      | none => rw [ho, hd] at this; simp at this
      | some ds =>
        rw [ho, hd] at this
        exact ⟨o, rfl, by rw [List.getD_eq_getElem?_getD, hd]; exact this⟩
  have main : ∀ (c k : Nat) (vals : Nat → Value) (a : Act) (w : World), k + c = dsts.length → (∀ t, a.tmps[t]? = slotOf dsts vals (fun j => decide (j < k)) a0 t) → a.tmps.size = a0.tmps.size → a.defers = a0.defers →
      Ext w0 w → (∀ i, i < k → φ i (vals i) w) → wpList P ops Q (ops.toList.drop k) a w := by
    intro c
    induction c with
    | zero =>
      intro k vals a w hk ha hsz hdf he hφ
      have hk' : k = dsts.length := by omega
      subst hk'
      have hA : a = putAll a0 ((List.range dsts.length).map fun j => (dsts.getD j 0, vals j)) := by
        have hp := putAll_size ((List.range dsts.length).map fun j => (dsts.getD j 0, vals j)) a0
        have ht : a.tmps = (putAll a0 ((List.range dsts.length).map fun j => (dsts.getD j 0, vals j))).tmps := by
          apply Array.ext_getElem?
          intro t
          rw [ha t, putAll_get hn vals (List.range dsts.length) a0 (fun j hj => List.mem_range.1 hj) hlt t]
          unfold slotOf
          cases hf : dsts.findIdx? (· == t) with
          | none => rfl
          | some j =>
            obtain ⟨hj, _, _⟩ := List.findIdx?_eq_some_iff_getElem.1 hf
            simp [hj]
        obtain ⟨at_, ad⟩ := a
        simp only at ht hdf
        subst ht
        subst hdf
        rw [← hp.2]
      rw [hA]
      exact hend vals w he hφ
    | succ c ih =>
      intro k vals a w hk ha hsz hdf he hφ
      have hin : k < dsts.length := by omega
      obtain ⟨o, ho, hfo⟩ := hfit k hin
      have hkl : k < ops.size := by omega
      have hdrop : ops.toList.drop k = o :: ops.toList.drop (k + 1) := by
        rw [List.drop_eq_getElem_cons (by simpa using hkl)]
        congr 1
        have := (Array.getElem?_eq_some_iff.1 ho).2
        simpa using this
      rw [hdrop]
      have hdeps : ∀ j ∈ deps.getD k [], j < k := fun j hj => by
        simp only [opFits, Bool.and_eq_true] at hfo
        have h4 := List.all_eq_true.1 hfo.1.1.2 j hj
        simp only [Bool.and_eq_true, decide_eq_true_eq] at h4
        exact h4.1
      obtain ⟨o', ho', hrun⟩ := (hs k hin).out vals w he (fun j hj => hφ j (hdeps j hj))
      rw [ho] at ho'
      cases ho'
      have hg : o.dst = dsts[k]? := by
        simp only [opFits, Bool.and_eq_true, beq_iff_eq] at hfo
        exact hfo.1.1.1.1.1
      have hdst : ∀ j, j < dsts.length → ∃ oj, ops[j]? = some oj ∧ oj.dst = dsts[j]? := fun j hj => by
        obtain ⟨oj, hoj, hf⟩ := hfit j hj
        simp only [opFits, Bool.and_eq_true, beq_iff_eq] at hf
        exact ⟨oj, hoj, hf.1.1.1.1.1⟩
      show if Region.wanted o (yielded ops a.tmps) = true then _ else _
      refine step_wp (w := w) hrun hn hlt hfo hin ha (fun j hj => decide_eq_true (hdeps j hj)) (fun j hj => by have := hdeps j hj; omega) hdst (fun v w' hR => ?_)
      rw [hg]
      have hb : setB (fun j => decide (j < k)) k = fun j => decide (j < k + 1) := by
        funext j
        unfold setB
        by_cases hj : j = k
        · subst hj; simp
        · rw [if_neg hj, decide_eq_decide]
          omega
      refine ih (k + 1) (setV vals k v) _ w' (by omega) (fun t => by rw [slotOf_set hn hlt hin hsz ha, hb]) (by cases hd : dsts[k]? <;> simp [Act.put, hsz]) (by cases hd : dsts[k]? <;> simp [Act.put, hdf]) (he.trans hR.1) (fun j hj => ?_)
      by_cases hij : j = k
      · subst hij
        simpa [setV] using hR.2
      · have h9 := hst j (vals j) w w' (hφ j (by omega)) hR.1
        simpa [setV, hij] using h9
  have := main dsts.length 0 (fun _ => undef) a0 w0 (by omega) (fun t => by
    unfold slotOf
    cases dsts.findIdx? (· == t) <;> simp) rfl rfl (Ext.refl w0) (fun i h => by omega)
  simpa using this
theorem seq_go {P : Program} {id : Nat} {ops : Array Oper} {Q : Exit → Act → World → Prop} {a0 : Act} {w0 : World} (n : Nat) (dsts : List Tmp) (deps : List (List Nat)) (φ : Nat → Fct)
    (hck : regFits ops dsts deps = true) (hn : dsts.Nodup) (hlt : ∀ t ∈ dsts, t < a0.tmps.size) (hl : dsts.length = n)
    (hs : ∀ i, i < n → StepOf P ops dsts deps a0 w0 (fun i => (φ i).R) i)
    (hend : ∀ (vals : Nat → Value) (w : World), Ext w0 w → (∀ i, i < n → (φ i).R (vals i) w) →
      wpList P ops Q (ops.toList.drop n) (putAll a0 ((List.range n).map fun j => (dsts.getD j 0, vals j))) w) : (Code.region id ops false).wp P Q a0 w0 := by
  subst hl
  exact wp_region_list (seq_facts dsts deps (fun i => (φ i).R) hck hn hlt (fun i v w w' h k => (φ i).st v w w' h k) hs hend)

--# oploads
def rowDesc : TypeDesc → Bool
  | .struct _ | .array _ _ => true
  | _ => false
/-- A struct's or an array's type of n cells. -/
def RowT (P : Program) (ty : TypeId) (n : Nat) : Prop := ∃ d, P.underlying ty = some d ∧ rowDesc d = true ∧ (P.info? ty).map (·.size) = some n
theorem OpRun.row {P : Program} {ρ : Operand → Value} {o : Oper} {w : World} {R : Value → World → Prop} {g : Nat} {t ty : TypeId} {cs : Array Value} {n : Nat} {x : Operand} (hr : RowT P ty n) (hb : Blk w g t cs) (hn : cs.size = n) (ho : o.op = .load ty x)
    (hx : ρ x = .pointer (some ⟨g, 0, none⟩)) (h : R (.agg cs) w) : OpRun P ρ o w R := by
  obtain ⟨d, hu, hd, hi⟩ := hr
  have hl := run_loadVar_row (P := P) w g t ty cs (0, 0) d hb hu (by cases d <;> simp_all [rowDesc]) (by rw [hi, hn])
  unfold OpRun execOp
  simp only [ho, hx, Instr.loadAt, Instr.sureAddr, Sem.run_bind, Sem.run_pure, Result.andThen_ok, hl]
  exact h

--# frames
theorem wpList_cons_eq {P : Program} {ops : Array Oper} {Q : Exit → Act → World → Prop} {l rest : List Oper} {o : Oper} {a : Act} {w : World} (h : l = o :: rest) (k : wpList P ops Q (o :: rest) a w) : wpList P ops Q l a w := h ▸ k
theorem wp_frame {P : Program} {c : Code} {Q : Exit → Act → World → Prop} {a a' : Act} {w : World} (h : a = a') (k : c.wp P Q a' w) : c.wp P Q a w := h ▸ k
theorem then_normal {next : Act → World → Prop} {Q : Exit → Act → World → Prop} {a : Act} {w : World} (h : next a w) : Exit.then next Q .normal a w := h
end Go.Proofs.Ytdhidmigngmgjaa
