/-
  The reference's search: its struct in one block; the relation of worlds of its drawn region. No conditions.
-/
import Derived.Test.YtldlaohefgianaaSk
import Derived.Test.YtldlaohefgianaaRegT
import Derived.Test.YtldlaohefgianaaLs
namespace Go.Proofs.Ytldlaohefgianaa
open Go.RowKit
set_option linter.unusedSimpArgs false
set_option linter.unusedVariables false

--# mkA
/-- An array, cell by cell. -/
def mkA (n : Nat) (f : Nat → Value) : Array Value := ((List.range n).map f).toArray
theorem mkA_size (n : Nat) (f : Nat → Value) : (mkA n f).size = n := by simp [mkA]
theorem mkA_get {n : Nat} {f : Nat → Value} {i : Nat} (h : i < n) : (mkA n f)[i]? = some (f i) := by simp [mkA, h]
theorem mkA_ext {n : Nat} {f g : Nat → Value} (h : ∀ i, i < n → f i = g i) : mkA n f = mkA n g := by
  unfold mkA
  congr 1
  exact List.map_congr_left (fun i hi => h i (List.mem_range.1 hi))
theorem mkA_of {n : Nat} {f : Nat → Value} {cs : Array Value} (hs : cs.size = n) (h : ∀ i, i < n → cs[i]? = some (f i)) : cs = mkA n f := by
  apply Array.ext_getElem?
  intro i
  by_cases hi : i < n
  · rw [h i hi, mkA_get hi]
  · rw [Array.getElem?_eq_none (by omega), Array.getElem?_eq_none (by rw [mkA_size]; omega)]
/-- The search's struct: a set for each number, the budget, the looks, whether there were too many. -/
def srF (v : Int → Int × Int) (B lk : Int) (ov : Bool) (i : Nat) : Value :=
  if i < 200 then (if i % 2 = 0 then .int .u64 (v ((i / 2 : Nat) : Int)).1 else .int .u64 (v ((i / 2 : Nat) : Int)).2) else if i = 200 then .int .i64 B else if i = 201 then .int .i64 lk else .bool ov
def srC (v : Int → Int × Int) (B lk : Int) (ov : Bool) : Array Value := mkA 203 (srF v B lk ov)
section
variable {v : Int → Int × Int} {B lk lk2 : Int} {ov ov2 : Bool} {k : Nat}
theorem srC_size : (srC v B lk ov).size = 203 := mkA_size _ _
theorem srC_x (h : k < 100) : (srC v B lk ov)[0 + k * 2]? = some (.int .u64 (v (k : Int)).1) := by
  unfold srC
  rw [mkA_get (by omega)]
  unfold srF
  rw [if_pos (by omega), if_pos (by omega), show (0 + k * 2) / 2 = k by omega]
theorem srC_y (h : k < 100) : (srC v B lk ov)[0 + k * 2 + 1]? = some (.int .u64 (v (k : Int)).2) := by
  unfold srC
  rw [mkA_get (by omega)]
  unfold srF
  rw [if_pos (by omega), if_neg (by omega), show (0 + k * 2 + 1) / 2 = k by omega]
theorem srC_B : (srC v B lk ov)[200]? = some (.int .i64 B) := by unfold srC; rw [mkA_get (by omega)]; rfl
theorem srC_l : (srC v B lk ov)[201]? = some (.int .i64 lk) := by unfold srC; rw [mkA_get (by omega)]; rfl
theorem srC_o : (srC v B lk ov)[202]? = some (.bool ov) := by unfold srC; rw [mkA_get (by omega)]; rfl
theorem srC_setl : (srC v B lk ov).setIfInBounds 201 (.int .i64 lk2) = srC v B lk2 ov := by
  refine mkA_of (by rw [Array.size_setIfInBounds, srC_size]) (fun i hi => ?_)
  by_cases h : i = 201
  · subst h; rw [Array.getElem?_setIfInBounds_self_of_lt (by rw [srC_size]; omega)]; rfl
  · rw [Array.getElem?_setIfInBounds_ne (by omega)]
    unfold srC
    rw [mkA_get hi]
    unfold srF
    simp only [if_neg h]
theorem srC_seto : (srC v B lk ov).setIfInBounds 202 (.bool ov2) = srC v B lk ov2 := by
  refine mkA_of (by rw [Array.size_setIfInBounds, srC_size]) (fun i hi => ?_)
  by_cases h : i = 202
  · subst h; rw [Array.getElem?_setIfInBounds_self_of_lt (by rw [srC_size]; omega)]; rfl
  · rw [Array.getElem?_setIfInBounds_ne (by omega)]
    unfold srC
    rw [mkA_get hi]
    unfold srF
    by_cases h1 : i < 200
    · rw [if_pos h1, if_pos h1]
    · rw [if_neg h1, if_neg h1]
      by_cases h2 : i = 200
      · rw [if_pos h2, if_pos h2]
      · rw [if_neg h2, if_neg h2, if_pos (by omega), if_pos (by omega)]
end

--# rlq
/-- New blocks; the new lists keep their first n cells, and cell n if it is x. -/
structure RlQ (B : Nat) (t : TypeId) (n : Nat) (x : Int) (w w' : World) : Prop where
  bl : Below B w w'
  kp : ∀ g, B ≤ g → ∀ cs, Blk w g t cs → ∃ cs', Blk w' g t cs' ∧ cs'.size = cs.size ∧ (∀ i, i < n → cs'[i]? = cs[i]?) ∧ (cs[n]? = some (.int .i64 x) → cs'[n]? = some (.int .i64 x))
section
variable {B : Nat} {t : TypeId} {n : Nat} {x : Int}
theorem RlQ.of_ext {w w' : World} (hB : B ≤ w.heap.size) (h : Ext w w') : RlQ B t n x w w' :=
  ⟨⟨h.below.os, h.below.tape, h.below.output, h.below.size, fun k hk => h.below.block k (by omega)⟩, fun g _ cs hb => ⟨cs, hb.ext h, rfl, fun _ _ => rfl, id⟩⟩
theorem RlQ.drew (w : World) : RlQ B t n x w w.drew := ⟨(Below.refl B w).drew, fun g _ cs hb => ⟨cs, hb, rfl, fun _ _ => rfl, id⟩⟩
theorem RlQ.trans (u v w : World) (h : RlQ B t n x u v) (h2 : RlQ B t n x v w) : RlQ B t n x u w :=
  ⟨h.bl.trans h2.bl, fun g hg cs hb => by
    obtain ⟨c1, b1, s1, k1, x1⟩ := h.kp g hg cs hb
    obtain ⟨c2, b2, s2, k2, x2⟩ := h2.kp g hg c1 b1
    exact ⟨c2, b2, s2.trans s1, fun i hi => (k2 i hi).trans (k1 i hi), fun hx => x2 (x1 hx)⟩⟩
theorem RlQ.blk {w w' : World} {g : Nat} {t2 : TypeId} {cs : Array Value} (h : RlQ B t n x w w') (hb : Blk w g t2 cs) (hg : g < B) : Blk w' g t2 cs := (h.bl.block g hg).trans hb
theorem SlI.same {cs cs' : Array Value} {m cap : Nat} {ys : List Int} (h : SlI cs m cap .i64 ys) (hs : cs'.size = cs.size) (hg : ∀ i, i < m → cs'[i]? = cs[i]?) : SlI cs' m cap .i64 ys := by
  have hl := h.len
  refine ⟨?_, SlO.len h, SlO.nc h, SlO.cm h, by rw [hs]; exact SlO.sz h⟩
  rw [iv_length]
  apply List.ext_getElem?
  intro i
  by_cases hi : i < ys.length
  · rw [List.getElem?_take_of_lt hi, Array.getElem?_toList, hg i (by omega), iv_get hi]
    have := SlI.get h (i := i) (by omega)
    rwa [Nat.zero_add] at this
  · rw [List.getElem?_eq_none (by rw [List.length_take]; omega), List.getElem?_eq_none (by rw [iv_length]; omega)]
def FqNil (B : Nat) (t : TypeId) (n : Nat) (x : Int) : RT.Fct (RlQ B t n x) := ⟨fun v w => ∃ g, v = .slice (some ⟨g, 0, none⟩) 0 0 ∧ B ≤ g ∧ Blk w g t #[], fun v w w' h hr => by
  obtain ⟨g, e, hg, hb⟩ := h
  obtain ⟨cs', b1, s1, _⟩ := hr.kp g hg _ hb
  have : cs' = #[] := Array.eq_empty_of_size_eq_zero (by simpa using s1)
  exact ⟨g, e, hg, this ▸ b1⟩⟩
def FqLst (B : Nat) (t : TypeId) (n : Nat) (x : Int) (o : List Int) : RT.Fct (RlQ B t n x) := ⟨fun v w => ∃ g cap cs, v = .slice (some ⟨g, 0, none⟩) n cap ∧ B ≤ g ∧ Blk w g t cs ∧ SlI cs n cap .i64 o, fun v w w' h hr => by
  obtain ⟨g, cap, cs, e, hg, hb, hs⟩ := h
  obtain ⟨cs', b1, s1, k1, _⟩ := hr.kp g hg _ hb
  exact ⟨g, cap, cs', e, hg, b1, hs.same s1 k1⟩⟩
def FqOne (B : Nat) (t : TypeId) (n : Nat) (x : Int) : RT.Fct (RlQ B t n x) := ⟨fun v w => ∃ g, v = .slice (some ⟨g, 0, none⟩) 1 1 ∧ B ≤ g ∧ Blk w g t #[.int .i64 x], fun v w w' h hr => by
  obtain ⟨g, e, hg, hb⟩ := h
  obtain ⟨cs', b1, s1, k1, x1⟩ := hr.kp g hg _ hb
  have h0 : cs'[0]? = some (.int .i64 x) := by
    by_cases hn : 0 < n
    · rw [k1 0 hn]; rfl
    · have hn0 : n = 0 := by omega
      subst hn0
      exact x1 rfl
  have : cs' = #[.int .i64 x] := by
    apply Array.ext_getElem?
    intro i
    by_cases hi : i = 0
    · rw [hi, h0]; rfl
    · have hz : cs'.size = 1 := by simpa using s1
      rw [Array.getElem?_eq_none (by omega), Array.getElem?_eq_none (by simp; omega)]
  exact ⟨g, e, hg, this ▸ b1⟩⟩
def FqApp (B : Nat) (t : TypeId) (n : Nat) (x : Int) (o : List Int) (hl : n = o.length) : RT.Fct (RlQ B t n x) := ⟨fun v w => ∃ g cap cs, v = .slice (some ⟨g, 0, none⟩) (n + 1) cap ∧ B ≤ g ∧ Blk w g t cs ∧ SlI cs (n + 1) cap .i64 (o ++ [x]), fun v w w' h hr => by
  obtain ⟨g, cap, cs, e, hg, hb, hs⟩ := h
  obtain ⟨cs', b1, s1, k1, x1⟩ := hr.kp g hg _ hb
  have hx : cs[n]? = some (.int .i64 x) := by
    have := SlI.get hs (i := n) (by omega)
    rw [Nat.zero_add, hl, atI_app2] at this
    rw [hl]
    exact this
  refine ⟨g, cap, cs', e, hg, b1, hs.same s1 (fun i hi => ?_)⟩
  rcases (by omega : i < n ∨ i = n) with h | h
  · exact k1 i h
  · rw [h, x1 hx, hx]⟩
theorem Below.of_wr {g : Nat} {w w' : World} (h : Wr g w w') (hg : B ≤ g) (hB : B ≤ w.heap.size) : Below B w w' := by
  have h0 : Ext { w with heap := #[] } w := by
    unfold Ext
    exact ⟨rfl, rfl, rfl, Nat.zero_le _, fun k hk => absurd hk (by simp)⟩
  have h2 := (h.ext { w with heap := #[] } (by simp) h0).below
  exact ⟨h2.os, h2.tape, h2.output, h.size, fun k hk => h.oth k (by omega) (by omega)⟩
theorem OpRun.appQ {P : Program} {ρ : Operand → Value} {op : Oper} {w : World} {ts : TypeId} {bytes : Nat} {z : Value} {s y : Operand} {g d cap : Nat} {cs : Array Value} {o : List Int} (hT : SlT P ts t 1 bytes z)
    (ho : op.op = .call { callee := .builtin .append, args := #[s, y], argTypes := #[ts, ts] }) (hs : ρ s = .slice (some ⟨g, 0, none⟩) n cap) (hx : ρ y = .slice (some ⟨d, 0, none⟩) 1 1)
    (hg : B ≤ g) (hb : Blk w g t cs) (hS : SlI cs n cap .i64 o) (hd : Blk w d t #[.int .i64 x]) (hl : n = o.length) (hB : B ≤ w.heap.size) (hbd : n + 1 ≤ 9223372036854775807 ∧ (n + 1) * bytes ≤ 140737488355328) :
    OpRun P ρ op w fun v w' => RlQ B t n x w w' ∧ (FqApp B t n x o hl).R v w' := by
  have ev : iv .i64 o ++ [.int .i64 x] = iv .i64 (o ++ [x]) := (iv_append _ _ _).symm
  refine OpRun.app3 (news := [.int .i64 x]) hT ho hs hx hb hS (fun j u hu => ?_) rfl (by simp [Value.oneCell']) hbd (fun hr cs' w' h1 h2 h3 => ?_) (fun g' cap' cs' w' h1 h2 h3 h4 => ?_)
  · rw [Addr.add_mid, Nat.zero_add, hd.cell]
    rwa [← Array.getElem?_toList]
  · rw [ev] at h2
    have h2 : SlI cs' (n + 1) cap .i64 (o ++ [x]) := h2
    have hsz : cs'.size = cs.size := by have := SlO.sz h2; have := SlO.sz hS; omega
    refine ⟨⟨Below.of_wr h3 hg hB, fun g2 hg2 c2 b2 => ?_⟩, g, cap, cs', rfl, hg, h1, h2⟩
    by_cases e : g2 = g
    · subst e
      have e2 : c2 = cs := by have := b2.symm.trans hb; simpa using this
      subst e2
      refine ⟨cs', h1, hsz, fun i hi => ?_, fun _ => ?_⟩
      · have a1 := SlI.get h2 (i := i) (by omega)
        have a2 := SlI.get hS (i := i) hi
        rw [atI_app1 (by omega)] at a1
        rw [Nat.zero_add] at a1 a2
        rw [a1, a2]
      · have a1 := SlI.get h2 (i := n) (by omega)
        rw [Nat.zero_add, show atI (o ++ [x]) n = x by rw [hl]; exact atI_app2] at a1
        exact a1
    · exact ⟨c2, h3.blk b2 e, rfl, fun _ _ => rfl, id⟩
  · rw [ev] at h2
    exact ⟨RlQ.of_ext hB h3, g', cap', cs', rfl, by omega, h1, h2⟩
end
--# cells
def upC (v : Int → Int × Int) (k : Int) (u : Int × Int) : Int → Int × Int := fun c => if c = k then u else v c
section
variable {v : Int → Int × Int} {B lk : Int} {ov : Bool} {k : Nat}
theorem srC_put (hk : k < 100) (u : Int × Int) : spliceAt (srC v B lk ov) (0 + k * 2) [.int .u64 u.1, .int .u64 u.2] = srC (upC v (k : Int) u) B lk ov := by
  have hz := srC_size (v := v) (B := B) (lk := lk) (ov := ov)
  rw [Nat.zero_add]
  have hl : (srC v B lk ov).toList.length = 203 := by rw [Array.length_toList, hz]
  have htk : ((srC v B lk ov).toList.take (k * 2)).length = k * 2 := by rw [List.length_take, hl]; omega
  refine mkA_of ?_ (fun i hi => ?_)
  · unfold spliceAt
    simp only [List.size_toArray, List.length_append, List.length_drop, hl, htk, List.length_cons, List.length_nil]
    omega
  · unfold spliceAt
    rw [List.getElem?_toArray, List.append_assoc]
    have hold : ∀ i, i < 203 → (i < k * 2 ∨ k * 2 + 2 ≤ i) → (srC v B lk ov)[i]? = some (srF (upC v (k : Int) u) B lk ov i) := fun i hi h => by
      unfold srC
      rw [mkA_get hi]
      unfold srF upC
      by_cases h1 : i < 200
      · rw [if_pos h1, if_pos h1]
        have e : ¬ ((i / 2 : Nat) : Int) = (k : Int) := by omega
        simp only [if_neg e]
      · rw [if_neg h1, if_neg h1]
    rcases (by omega : i < k * 2 ∨ i = k * 2 ∨ i = k * 2 + 1 ∨ k * 2 + 2 ≤ i) with h | h | h | h
    · rw [List.getElem?_append_left (by omega), List.getElem?_take_of_lt (by omega), Array.getElem?_toList]
      exact hold i hi (.inl h)
    · rw [List.getElem?_append_right (by omega), htk, h, Nat.sub_self]
      unfold srF upC
      rw [if_pos (by omega), if_pos (by omega), if_pos (by omega)]
      rfl
    · rw [List.getElem?_append_right (by omega), htk, h, show k * 2 + 1 - k * 2 = 1 by omega]
      unfold srF upC
      rw [if_pos (by omega), if_neg (by omega), if_pos (by omega)]
      rfl
    · rw [List.getElem?_append_right (by omega), htk, List.getElem?_append_right (by simp; omega), List.getElem?_drop, Array.getElem?_toList]
      simp only [List.length_cons, List.length_nil]
      rw [show k * 2 + (0 + 1 + 1) + (i - k * 2 - (0 + 1 + 1)) = i by omega]
      exact hold i hi (.inr h)
theorem srC_range {w : World} {g : Nat} {t : TypeId} (hb : Blk w g t (srC v B lk ov)) (hk : k < 100) : w.rangeAt g (0 + k * 2) [.int .u64 (v (k : Int)).1, .int .u64 (v (k : Int)).2] := by
  intro j u hj
  rw [hb.cell]
  rcases (by
    have := (List.getElem?_eq_some_iff.1 hj).1
    simp only [List.length_cons, List.length_nil] at this
    omega : j = 0 ∨ j = 1) with rfl | rfl
  · rw [Nat.add_zero, srC_x hk]; exact hj
  · rw [srC_y hk]; exact hj
end
/-- An array of elements of m cells. -/
def ArrM (P : Program) (ty : TypeId) (n m : Nat) : Prop := ∃ e, P.underlying ty = some (.array n e) ∧ (P.info? e).map (·.size) = some m
section
variable {P : Program} {ρ : Operand → Value} {o : Oper} {w : World} {R : Value → World → Prop} {x y : Operand} {ty : TypeId} {g off : Nat}
theorem OpRun.ixm {n m : Nat} {k : IntKind} {i : Nat} (ha : ArrM P ty n m) (ho : o.op = .indexAddr ty x y) (hx : ρ x = .pointer (some ⟨g, off, none⟩)) (hy : ρ y = .int k (i : Int)) (h1 : i < n)
    (h : R (.pointer (some ⟨g, off + i * m, none⟩)) w) : OpRun P ρ o w R := by
  obtain ⟨e, hu, hi⟩ := ha
  have hr : (Instr.indexAt ty (ρ x) (ρ y)).run P w = .ok (.pointer (some ⟨g, off + i * m, none⟩)) w := by
    rw [hx, hy]
    unfold Instr.indexAt
    simp [Sem.run_bind, asIntOf, run_underlying hu w, Instr.sureAddr, h1, run_size hi, Addr.add_mid]
  unfold OpRun execOp
  simp only [ho, Sem.run_bind, hr, Result.andThen_ok]
  exact h
end
section
variable {P : Program} {ops : Array Oper} {Q : Exit → Act → World → Prop} {rest : List Oper} {o : Oper} {a : Act} {w : World} {ty : TypeId} {x y : Operand}
theorem wixm {n m : Nat} (g off i : Nat) (k : IntKind) (ha : ArrM P ty n m) (h1 : i < n) (kk : wpList P ops Q rest (putL a o.dst (.pointer (some ⟨g, off + i * m, none⟩))) w)
    (hw : Region.wanted o (yielded ops a.tmps) = true := by kernel_rfl) (ho : o.op = .indexAddr ty x y := by exact rfl) (hx : evalL a x = .pointer (some ⟨g, off, none⟩) := by kernel_rfl) (hy : evalL a y = .int k (i : Int) := by kernel_rfl) : wpList P ops Q (o :: rest) a w :=
  wpl_op (R := fun v' w' => v' = _ ∧ w' = w) rfl hw (OpRun.ixm ha ho hx hy h1 ⟨rfl, rfl⟩) (fun v' w' h => by rw [h.1, h.2]; exact kk)
end
/-- What the reference's search leaves behind, with its value. -/
def FnS (w : World) (b : Nat) (t tI : TypeId) (v : Int → Int × Int) (B : Int) (gP : Nat) (r : FwR) (val : Value) (w' : World) : Prop :=
  ∃ u, val = .tuple #[u, .bool r.fd.isSome] ∧ Blk w' b t (srC v B r.lk r.ov) ∧ Wr b w w' ∧
    (r.fd = none ∨ ∃ Q g n cap cs, r.fd = some Q ∧ u = .slice (some ⟨g, 0, none⟩) n cap ∧ Blk w' g tI cs ∧ SlI cs n cap .i64 Q ∧ g ≠ b ∧ (g = gP ∨ w.heap.size ≤ g))
def FnR (w : World) (b : Nat) (t tI : TypeId) (v : Int → Int × Int) (B : Int) (gP : Nat) (r : FwR) (e : Ending) (w' : World) : Prop := ∃ val, e = .returned val ∧ FnS w b t tI v B gP r val w'
section
variable {w w' : World} {b : Nat} {t tI : TypeId} {v : Int → Int × Int} {B : Int} {gP : Nat} {r r' : FwR} {val u : Value}
theorem FnS.got (h : FnS w b t tI v B gP r val w') (hf : r.fd.isSome = true) : ∃ g n cap cs, val = .tuple #[.slice (some ⟨g, 0, none⟩) n cap, .bool r.fd.isSome] ∧ Blk w' b t (srC v B r.lk r.ov) ∧ Wr b w w' ∧ Blk w' g tI cs ∧ SlI cs n cap .i64 (r.fd.getD []) ∧ g ≠ b ∧ (g = gP ∨ w.heap.size ≤ g) := by
  obtain ⟨u, h1, h2, h3, h4⟩ := h
  rcases h4 with h4 | ⟨Q, g, n, cap, cs, h4, rfl, h5, h6, h7, h8⟩
  · rw [h4] at hf; simp at hf
  · exact ⟨g, n, cap, cs, h1, h2, h3, h5, by rw [h4]; exact h6, h7, h8⟩
theorem FnS.not (h : FnS w b t tI v B gP r val w') : ∃ u, val = .tuple #[u, .bool r.fd.isSome] ∧ Blk w' b t (srC v B r.lk r.ov) ∧ Wr b w w' := by
  obtain ⟨u, h1, h2, h3, _⟩ := h
  exact ⟨u, h1, h2, h3⟩
theorem FnR.no {bv : Bool} {lk : Int} {ov : Bool} (hr : r = r') (hf : r'.fd.isSome = false) (hv : bv = false) (hl : lk = r'.lk) (ho : ov = r'.ov) (hb : Blk w' b t (srC v B lk ov)) (hw : Wr b w w') : FnR w b t tI v B gP r (.returned (.tuple #[u, .bool bv])) w' := by
  subst hr hl ho hv
  refine ⟨_, rfl, u, by rw [hf], hb, hw, .inl ?_⟩
  cases h : r.fd with
  | none => rfl
  | some _ => rw [h] at hf; simp at hf
theorem FnR.yes {bv : Bool} {lk : Int} {ov : Bool} {Q : List Int} {g n cap : Nat} {cs : Array Value} (hr : r = r') (hf : r'.fd = some Q) (hv : bv = true) (hl : lk = r'.lk) (ho : ov = r'.ov) (hb : Blk w' b t (srC v B lk ov)) (hw : Wr b w w')
    (hg : Blk w' g tI cs) (hS : SlI cs n cap .i64 Q) (hne : g ≠ b) (hlo : g = gP ∨ w.heap.size ≤ g) : FnR w b t tI v B gP r (.returned (.tuple #[.slice (some ⟨g, 0, none⟩) n cap, .bool bv])) w' := by
  subst hr hl ho hv
  exact ⟨_, rfl, _, by rw [hf]; rfl, hb, hw, .inr ⟨Q, g, n, cap, cs, hf, rfl, hg, hS, hne, hlo⟩⟩
end
section
variable {P : Program} {ops : Array Oper} {Q : Exit → Act → World → Prop} {m : Nat} {L : Array Bool} {a a' : Act} {w : World}
variable {rest : List Oper} {op : Oper} {f : FuncId} {args : Array Value} {b gP : Nat} {t tI : TypeId} {v : Int → Int × Int} {B : Int} {r : FwR}
theorem wfdT (hc : Calls P f args w (FnR w b t tI v B gP r)) (hr : r.fd.isSome = true)
    (k : ∀ g n cap cs w', Blk w' b t (srC v B r.lk r.ov) → Wr b w w' → Blk w' g tI cs → SlI cs n cap .i64 (r.fd.getD []) → g ≠ b → (g = gP ∨ w.heap.size ≤ g) → wpList P ops Q rest (putL a op.dst (.tuple #[.slice (some ⟨g, 0, none⟩) n cap, .bool r.fd.isSome])) w')
    (hw : Region.wanted op (yielded ops a.tmps) = true := by kernel_rfl) (he : (execOp (evalL a) op).run P w = .ok (.enter f args) w := by kernel_rfl) : wpList P ops Q (op :: rest) a w :=
  wpl_callx (S := FnS w b t tI v B gP r) f args rfl hw he hc (fun e w' ⟨val, h1, h2⟩ => ⟨val, h1, h2⟩)
    (fun u w' h => by
      obtain ⟨g, n, cap, cs, rfl, h2, h3, h4, h5, h6, h7⟩ := h.got hr
      exact k g n cap cs w' h2 h3 h4 h5 h6 h7)
theorem wfdF (hc : Calls P f args w (FnR w b t tI v B gP r))
    (k : ∀ u w', Blk w' b t (srC v B r.lk r.ov) → Wr b w w' → wpList P ops Q rest (putL a op.dst (.tuple #[u, .bool r.fd.isSome])) w')
    (hw : Region.wanted op (yielded ops a.tmps) = true := by kernel_rfl) (he : (execOp (evalL a) op).run P w = .ok (.enter f args) w := by kernel_rfl) : wpList P ops Q (op :: rest) a w :=
  wpl_callx (S := FnS w b t tI v B gP r) f args rfl hw he hc (fun e w' ⟨val, h1, h2⟩ => ⟨val, h1, h2⟩)
    (fun u w' h => by
      obtain ⟨u2, rfl, h2, h3⟩ := h.not
      exact k u2 w' h2 h3)
theorem wpAny_p1 (i : Nat) (o : Oper) (v : Value) (ho : ops[i]? = some o) (hr : Region.ready .any ops L = [i]) (hk : Region.wanted o (yielded ops a.tmps) = true)
    (h : OpRun P a.eval o w fun u w' => u = v ∧ w' = w) (k : wpAny P .any ops Q m (L.setIfInBounds i true) (a.put o.dst v) w) : wpAny P .any ops Q (m + 1) L a w :=
  RT.wpAny_one i o _ ho hr hk h (fun u w' hu => by rw [hu.1, hu.2]; exact k)
theorem wpAny_fin (hr : Region.ready .any ops L = []) (ha : a = a') (h : Q .normal a' w) : wpAny P .any ops Q 0 L a w := ⟨hr, ha ▸ h⟩
theorem fin_any (h : Q .normal a' w) (k : Q .normal a' w → wpAny P .any ops Q m L a w) : wpAny P .any ops Q m L a w := k h
end
theorem OpRun.mono {P : Program} {ρ : Operand → Value} {o : Oper} {w : World} {R R' : Value → World → Prop} (h : OpRun P ρ o w R) (hk : ∀ v w', R v w' → R' v w') : OpRun P ρ o w R' := by
  unfold OpRun at h ⊢
  split at h
  · exact hk _ _ h
  · exact hk _ _ h
  · refine Calls.mono h fun e w'' he => ?_
    obtain ⟨v, hv, hr⟩ := he
    exact ⟨v, hv, hk _ _ hr⟩
  · exact h.elim
--# off
/-- A set inside a block. -/
theorem wd_off {cs : Array Value} {off : Nat} {x y c : Int} (h0 : cs[off]? = some (.int .u64 x)) (h1 : cs[off + 1]? = some (.int .u64 y)) (hc : 0 ≤ c ∧ c ≤ 99) : cs[off + (c / 64).toNat]? = some (.int .u64 (wd x y c)) := by
  unfold wd
  by_cases h : c < 64
  · rw [if_pos h, show (c / 64).toNat = 0 by omega]; exact h0
  · rw [if_neg h, show (c / 64).toNat = 1 by omega]; exact h1
section
variable {F : Fld} {w l B k lk : Int} {s : Int × Int} {o : List Int} {m n f : Nat}
theorem sp_skip (hs : okP s) (hf : fsC s = (f : Int)) (hk : n < 100) (hb : hasB (cvP F w l (n : Int)).1 (cvP F w l (n : Int)).2 (f : Int) = false) : atF F w l B m s o (cpN F n) lk = atF F w l B m s o (cpN F (n + 1)) lk := by
  cases hi : isB F (n : Int) with
  | false => rw [cpN_f hi]
  | true =>
    obtain ⟨h1, h2⟩ := cpN_at hk hi
    rw [cpN_t hi]
    exact at_skip h1 (by rw [h2, hf]; exact hb)
theorem sp_is (hb : hasB (cvP F w l (n : Int)).1 (cvP F w l (n : Int)).2 (f : Int) = true) (hs : okP s) : isB F (n : Int) = true := by
  cases hi : isB F (n : Int) with
  | true => rfl
  | false => rw [cv_no hs hi f] at hb; exact absurd hb (by decide)
theorem sp_over (hs : okP s) (hf : fsC s = (f : Int)) (hk : n < 100) (hb : hasB (cvP F w l (n : Int)).1 (cvP F w l (n : Int)).2 (f : Int) = true) (he : lk = B) : atF F w l B m s o (cpN F n) lk = ⟨none, true, lk⟩ := by
  obtain ⟨h1, h2⟩ := cpN_at hk (sp_is hb hs)
  exact at_over h1 (by rw [h2, hf]; exact hb) he
theorem sp_ret (hs : okP s) (hf : fsC s = (f : Int)) (hk : n < 100) (hb : hasB (cvP F w l (n : Int)).1 (cvP F w l (n : Int)).2 (f : Int) = true) (he : ¬ lk = B) (hr : (stF F w l B m s o (n : Int) (lk + 1)).fd.isSome = true ∨ (stF F w l B m s o (n : Int) (lk + 1)).ov = true) : atF F w l B m s o (cpN F n) lk = stF F w l B m s o (n : Int) (lk + 1) := by
  obtain ⟨h1, h2⟩ := cpN_at hk (sp_is hb hs)
  have := at_ret (F := F) (w := w) (l := l) (B := B) (m := m) (s := s) (o := o) h1 (by rw [h2, hf]; exact hb) he (by rw [h2]; exact hr)
  rwa [h2] at this
theorem sp_next (hs : okP s) (hf : fsC s = (f : Int)) (hk : n < 100) (hb : hasB (cvP F w l (n : Int)).1 (cvP F w l (n : Int)).2 (f : Int) = true) (he : ¬ lk = B) (hr : ¬ ((stF F w l B m s o (n : Int) (lk + 1)).fd.isSome = true ∨ (stF F w l B m s o (n : Int) (lk + 1)).ov = true)) : atF F w l B m s o (cpN F n) lk = atF F w l B m s o (cpN F (n + 1)) (stF F w l B m s o (n : Int) (lk + 1)).lk := by
  have hi := sp_is hb hs
  obtain ⟨h1, h2⟩ := cpN_at hk hi
  have := at_next (F := F) (w := w) (l := l) (B := B) (m := m) (s := s) (o := o) h1 (by rw [h2, hf]; exact hb) he (by rw [h2]; exact hr)
  rw [h2] at this
  rw [cpN_t hi]
  exact this
theorem seek_ov (hf : (seekF F w l B m s o lk).fd.isSome = true) : (seekF F w l B m s o lk).ov = false := by
  have hl : ∀ (c : Int) (g : Int → Int → FwR), (∀ k lk, (g k lk).fd.isSome = true → (g k lk).ov = false) → ∀ L lk, (lpF F w l B g c L lk).fd.isSome = true → (lpF F w l B g c L lk).ov = false := by
    intro c g hg L
    induction L with
    | nil => intro lk h; simp [lpF] at h
    | cons k r ih =>
      intro lk h
      rw [lpF] at h ⊢
      split at h
      · next hb =>
        rw [if_pos hb]
        split at h
        · simp at h
        · next hne =>
          rw [if_neg hne]
          split at h
          · next hc => rw [if_pos hc]; exact hg _ _ h
          · next hc => rw [if_neg hc]; exact ih _ h
      · next hb => rw [if_neg hb]; exact ih _ h
  revert s o lk
  induction m with
  | zero =>
    intro lk s o h
    unfold seekF at h ⊢
    split at h
    · next he => rw [if_pos he]
    · next he => rw [if_neg he]
  | succ m ih =>
    intro lk s o h
    unfold seekF at h ⊢
    split at h
    · next he => rw [if_pos he]
    · next he => rw [if_neg he]; exact hl _ _ (fun k lk h => ih h) _ _ h
theorem fwS_1 {tx ty : Int} (h : code F (inB w 1 1000 && inB l 1 1000) ≠ 0) : code F (inB w 1 1000 && inB l 1 1000) = fwK F w l B tx ty := by
  have e : fwC F w l B = code F (inB w 1 1000 && inB l 1 1000) := by rw [fwC_s, if_neg h]
  rw [fwK_n (by rw [e]; exact h), e]
theorem fwS_2 {tx ty : Int} (h : code F (inB w 1 1000 && inB l 1 1000) = 0) (h2 : inB B 0 20000 = false) : (2 : Int) = fwK F w l B tx ty := by
  have e : fwC F w l B = 2 := by rw [fwC_s, if_pos h, if_neg (by rw [h2]; decide)]
  rw [fwK_n (by rw [e]; decide), e]
theorem fwS_0 (h : code F (inB w 1 1000 && inB l 1 1000) = 0) (h2 : inB B 0 20000 = true) : fwC F w l B = 0 := by rw [fwC_s, if_pos h, if_pos h2]
/-- The covers of the first k numbers. -/
def vK (F : Fld) (w l : Int) (k : Nat) (c : Int) : Int × Int := if c < (k : Int) then cvP F w l c else (0, 0)
theorem vK_0 {lk : Int} {ov : Bool} : srC (vK F w l 0) B lk ov = srC (fun _ => (0, 0)) B lk ov := mkA_ext (fun i hi => by
  unfold srF vK
  by_cases h : i < 200
  · rw [if_pos h, if_pos h]
    have e : ¬ ((i / 2 : Nat) : Int) < ((0 : Nat) : Int) := by omega
    simp only [if_neg e]
  · rw [if_neg h, if_neg h])
theorem vK_s {k : Nat} : upC (vK F w l k) (k : Int) ((cvP F w l (k : Int)).1, (cvP F w l (k : Int)).2) = vK F w l (k + 1) := by
  funext c
  unfold upC vK
  by_cases h : c = (k : Int)
  · subst h; rw [if_pos rfl, if_pos (by omega)]
  · rw [if_neg h]
    by_cases h2 : c < (k : Int)
    · rw [if_pos h2, if_pos (by omega)]
    · rw [if_neg h2, if_neg (by omega)]
theorem vK_e {k : Nat} {lk : Int} {ov : Bool} (h : 100 ≤ k) : srC (vK F w l k) B lk ov = srC (cvP F w l) B lk ov := mkA_ext (fun i hi => by
  unfold srF vK
  by_cases h3 : i < 200
  · rw [if_pos h3, if_pos h3]
    have e : ((i / 2 : Nat) : Int) < (k : Int) := by omega
    simp only [if_pos e]
  · rw [if_neg h3, if_neg h3])
theorem lt100 {j : Nat} (h : (j : Int) < 100) : j < 100 := by omega
theorem ge100 {j : Nat} (h : ¬ (j : Int) < 100) : 100 ≤ j := by omega
theorem fs_ok {x y : Int} (hs : okP (x, y)) (hn : f < 100) (h1 : ∀ j : Nat, j < f → hasB x y (j : Int) = false) (h2 : hasB x y (f : Int) = true) : eq2 x y 0 0 = false ∧ fsC (x, y) = (f : Int) :=
  ⟨fsC_some (s := (x, y)) hs hn h2, fsC_first (s := (x, y)) hn h1 h2⟩
theorem seekf_t {x y : Int} (h : eq2 x y 0 0 = false) (hm : m ≠ 0) : seekF F w l B m (x, y) o lk = atF F w l B (m - 1) (x, y) o 0 lk := by
  obtain ⟨m', rfl⟩ : ∃ m', m = m' + 1 := ⟨m - 1, by omega⟩
  exact seek_s h
theorem sp_end (hn : 100 ≤ n) (hn2 : n ≤ 100) : atF F w l B m s o (cpN F n) lk = ⟨none, false, lk⟩ := by
  rw [show n = 100 by omega, cpN_end]
  exact at_end (Nat.le_refl _)
end
end Go.Proofs.Ytldlaohefgianaa
