/- More of rows of one's own: rows without elements, parts of rows, appends as one operation. Nothing here names the program. -/
import Derived.Test.YteablbficakfcaaOwnSet
set_option linter.unusedVariables false
set_option linter.unusedSimpArgs false
set_option linter.unusedSectionVars false
namespace Go.Pb
open Go.RowKit

section
variable {α : Type} [Enc α] {w : World} {base : Nat} {e : TypeId} {v : Value} {L : List α}
theorem Owns.some' (H : Owns w base e v L) (hne : L ≠ []) : ∃ g cap, v = .slice (some ⟨g, 0, none⟩) L.length cap ∧ base ≤ g ∧ g < w.heap.size ∧ L.length ≤ cap := by
  obtain ⟨_, H⟩ := H
  rcases H with ⟨_, h0⟩ | ⟨g, cap, cur, rfl, hb, hg, hc, _⟩
  · exact absurd (List.eq_nil_of_length_eq_zero h0) hne
  · exact ⟨g, cap, rfl, hb, (Array.getElem?_eq_some_iff.1 hg).1, hc⟩
theorem Owns.there {g n cap : Nat} (H : Owns w base e (.slice (some ⟨g, 0, none⟩) n cap) L) {i : Nat} (hi : i < L.length) (o k : Nat) (h : o + k ≤ Enc.sz α) : w.there g (i * Enc.sz α + o) k := by
  obtain ⟨_, H⟩ := H
  rcases H with ⟨H, _⟩ | ⟨g', cap', cur, H, hb, hg, hc, hm, hs, ht⟩
  · simp at H
  · simp only [Value.slice.injEq, Option.some.injEq, Addr.mk.injEq, and_true, true_and] at H
    obtain ⟨rfl, rfl, rfl⟩ := H
    intro j hj
    have h1 : (i + 1) * Enc.sz α ≤ L.length * Enc.sz α := Nat.mul_le_mul_right _ hi
    have h2 : L.length * Enc.sz α ≤ cap * Enc.sz α := Nat.mul_le_mul_right _ hc
    rw [Nat.add_mul, Nat.one_mul] at h1
    have hlt : i * Enc.sz α + o + j < cur.size := by omega
    refine ⟨?_, ?_⟩
    · rw [cell_of_row w g _ cur e (0, 0) hg, Array.getElem?_eq_getElem hlt]
      rfl
    · exact frozen_of_block hg _
theorem Reads.take {A : Option Addr} (h : Reads w A L) (k : Nat) : Reads w A (L.take k) := fun hne => by
  have hne' : L ≠ [] := fun e => hne (by rw [e]; simp)
  obtain ⟨b, o, e, hr⟩ := h hne'
  refine ⟨b, o, e, fun j v hv => hr j v ?_⟩
  rw [flat_take, List.getElem?_take] at hv
  split at hv
  · exact hv
  · cases hv
theorem Reads.drop {A : Option Addr} (h : Reads w A L) (k c : Nat) (hk : k ≤ c) (hL : L.length ≤ c) : Reads w (if c = k then A else A.map (·.add (k * Enc.sz α))) (L.drop k) := fun hne => by
  have hlt : k < L.length := by
    rcases Nat.lt_or_ge k L.length with h1 | h1
    · exact h1
    · exact absurd (List.drop_of_length_le h1) hne
  have hne' : L ≠ [] := fun e => hne (by rw [e]; simp)
  obtain ⟨b, o, e, hr⟩ := h hne'
  rw [if_neg (by omega)]
  refine ⟨b, o + k * Enc.sz α, by rw [e]; simp [Addr.add_mid], fun j v hv => ?_⟩
  rw [flat_drop, List.getElem?_drop] at hv
  rw [Nat.add_assoc]
  exact hr _ v hv
end
section
variable {P : Program} {o : Oper} {ρ : Operand → Value} {w : World}
/-- '[]T{}'. -/
theorem run_row0 (t e : TypeId) (ho : o.op = .buildSlice t 0 #[]) (ht : P.underlying t = some (.slice e)) (n : Nat) (hi : (P.info? e).map (·.size) = some n) :
    (execOp ρ o).run P w = .ok (.value (.slice (some ⟨w.heap.size, 0, none⟩) 0 0)) (w.alloc (.cells #[] e)) := by
  obtain ⟨i, hi, hs⟩ := Option.map_eq_some_iff.1 hi
  unfold execOp
  simp [ho, Instr.buildSlice, run_underlying ht w, sizeOf, typeInfo, hi, newRow, fill_nil, Result.andThen]
  have h0 : ∀ f : Nat → Value, (Array.range 0).map f = #[] := fun f => Array.ext' (by simp)
  rw [h0]
theorem Owns.row0 {α : Type} [Enc α] (w : World) (base : Nat) (e : TypeId) (hb : base ≤ w.heap.size) : Owns (w.alloc (.cells #[] e)) base e (.slice (some ⟨w.heap.size, 0, none⟩) 0 0) ([] : List α) := by
  have := Owns.lit w base e ([] : List α) hb (by simp)
  simpa [flat] using this
/-- 'x[:k]'. -/
theorem op_slice_to (t e : TypeId) (x y : Operand) (ho : o.op = .slice t x none (some y) none) (ht : P.underlying t = some (.slice e)) (n : Nat) (hi : (P.info? e).map (·.size) = some n) {A : Option Addr} {len c : Nat} (hx : ρ x = .slice A len c) {ki : IntKind} (k : Nat) (hy : ρ y = .int ki (k : Int)) (hk : k ≤ c)
    (hA : ∀ a, A = some a → a.spot = none) : (execOp ρ o).run P w = .ok (.value (.slice A k c)) w := by
  obtain ⟨i, hi, hs⟩ := Option.map_eq_some_iff.1 hi
  have hk' : (0 : Int) ≤ (k : Int) ∧ (k : Int) ≤ (c : Int) := ⟨by omega, by omega⟩
  have hadd : A.map (·.add 0) = A := by
    cases A with
    | none => rfl
    | some a =>
      obtain ⟨b, f, s⟩ := a
      have := hA _ rfl
      simp only at this
      subst this
      rfl
  unfold execOp
  simp [ho, hx, hy, Instr.sliceAt, Instr.slice, Instr.sliceBounds, Instr.sliceBound, asIntOf, run_underlying ht w, sizeOf, typeInfo, hi, Result.andThen, hk', hk, hadd]
/-- 'x[k:]'. -/
theorem op_slice_from (t e : TypeId) (x y : Operand) (ho : o.op = .slice t x (some y) none none) (ht : P.underlying t = some (.slice e)) (n : Nat) (hi : (P.info? e).map (·.size) = some n) {A : Option Addr} {len c : Nat} (hx : ρ x = .slice A len c) {ki : IntKind} (k : Nat) (hy : ρ y = .int ki (k : Int)) (hk : k ≤ len)
    (A' : Option Addr) (hA : A' = if c = k then A else A.map (·.add (k * n))) : (execOp ρ o).run P w = .ok (.value (.slice A' (len - k) (c - k))) w := by
  subst hA
  obtain ⟨i, hi, hs⟩ := Option.map_eq_some_iff.1 hi
  have hk' : (0 : Int) ≤ (k : Int) ∧ (k : Int) ≤ (len : Int) := ⟨by omega, by omega⟩
  unfold execOp
  simp [ho, hx, hy, Instr.sliceAt, Instr.slice, Instr.sliceBounds, Instr.sliceBound, asIntOf, run_underlying ht w, sizeOf, typeInfo, hi, hs, Result.andThen, hk', hk]
theorem op_slice_rest (t e : TypeId) (x y : Operand) (ho : o.op = .slice t x (some y) none none) (ht : P.underlying t = some (.slice e)) (n : Nat) (hi : (P.info? e).map (·.size) = some n) {A : Option Addr} {len c : Nat} (hx : ρ x = .slice A len c) {ki : IntKind} (k : Nat) (hy : ρ y = .int ki (k : Int)) (m d : Nat) (hk : len = k + m) (hc : c = k + d)
    (A' : Option Addr) (hA : A' = if c = k then A else A.map (·.add (k * n))) : (execOp ρ o).run P w = .ok (.value (.slice A' m d)) w := by
  have h := op_slice_from t e x y ho ht n hi hx k hy (by omega) A' hA (w := w)
  rwa [show len - k = m by omega, show c - k = d by omega] at h
/-- append(v, ys...), v nil or a row of one's own, as one operation. -/
theorem op_append {α : Type} [Enc α] (base : Nat) (s x : Operand) (t e : TypeId) (ho : o.op = .call { callee := .builtin .append, args := #[s, x], argTypes := #[t, t] })
    (ht : P.underlying t = some (.slice e)) (z : α) (bytes : Nat) (hinfo : (P.info? e).map (fun i => (i.zero, i.size, i.bytes)) = some (some (agg z), Enc.sz α, bytes)) (hb0 : 0 < bytes)
    (v : Value) (l news : List α) {A : Option Addr} {c : Nat} (hs : ρ s = v) (hx : ρ x = .slice A news.length c) (H : Owns w base e v l) (HN : Reads w A news)
    (hb : (l.length + news.length) * bytes ≤ 140737488355328) (hbase : base ≤ w.heap.size) :
    ∃ v' w', (execOp ρ o).run P w = .ok (.value v') w' ∧ Owns w' base e v' (l ++ news) ∧ w.grownBy w' v.ownBlock ∧ (v'.ownBlock = v.ownBlock ∨ v'.ownBlock = some w.heap.size) := by
  obtain ⟨i0, hi, hz0, hz1, hz2⟩ := info_parts hinfo
  have hlen : l.length + news.length ≤ 140737488355328 := Nat.le_trans (Nat.le_mul_of_pos_right _ hb0) hb
  have hrun : ∃ v' w', (Builtin.append_ #[t, t] o.type #[v, .slice A news.length c]).run P w = .ok v' w' ∧ Owns w' base e v' (l ++ news) ∧ w.grownBy w' v.ownBlock ∧ (v'.ownBlock = v.ownBlock ∨ v'.ownBlock = some w.heap.size) := by
    by_cases hne : news = []
    · subst hne
      rcases A with _ | ad
      · refine ⟨v, w, ?_, by simpa using H, World.grownBy.refl w _, .inl rfl⟩
        rcases H.2 with ⟨rfl, hn⟩ | ⟨g, cap, cur, rfl, _, _, hnc, _⟩
        · simp [Builtin.append_, run_underlying ht, sizeOf, typeInfo, hi, Builtin.lenOf, Builtin.firstCells]
        · simp [Builtin.append_, run_underlying ht, sizeOf, typeInfo, hi, Builtin.lenOf, Builtin.firstCells, hnc, storeCells]
      · obtain ⟨v', w', hr, h2, h3, _, h5⟩ := run_append_own_at (P := P) w base t o.type e i0 (agg z) (Enc.sz α) bytes ht hi hz0 hz1 hz2 (by simp [agg, Value.cells, Enc.len]) Enc.pos v l.length (flat l) H ad 0 c [] (by simp) (by simp) (by simp)
          (by simp only [maxLen]; simp at hlen; omega) (by simpa using hb) hbase
        exact ⟨v', w', hr, by simpa [Owns] using h2, h3, h5⟩
    · obtain ⟨b, f, rfl, hr0⟩ := HN hne
      obtain ⟨v', w', hr, h2, h3, _, h5⟩ := run_append_own_at (P := P) w base t o.type e i0 (agg z) (Enc.sz α) bytes ht hi hz0 hz1 hz2 (by simp [agg, Value.cells, Enc.len]) Enc.pos v l.length (flat l) H ⟨b, f, none⟩ news.length c (flat news) (flat_length news) (range_add hr0) (flat_one news)
        (by simp only [maxLen]; omega) hb hbase
      exact ⟨v', w', hr, by simpa [Owns, flat_append] using h2, h3, h5⟩
  obtain ⟨v', w', hr, hown, hg, hat⟩ := hrun
  refine ⟨v', w', ?_, hown, hg, hat⟩
  unfold execOp
  simp only [ho, resolve, invoke, builtin, Sem.run_bind, Sem.run_pure, Result.andThen_ok, List.map_toArray, List.map_cons, List.map_nil, hs, hx, hr]
end
theorem hs_append {P : Program} {l : List Oper} {Q : Exit → Act → World → Prop} {S : World → Prop} {fuel : Nat} {listed : Array Bool} {a : Act} {w : World} {i : Nat} {o : Oper} (hi : l[i]? = some o) (hw : Region.wanted o (yielded l.toArray a.tmps) = true) {α : Type} [Enc α] (base : Nat) (s x : Operand) (t e : TypeId) (ho : o.op = .call { callee := .builtin .append, args := #[s, x], argTypes := #[t, t] })
    (ht : P.underlying t = some (.slice e)) (z : α) (bytes : Nat) (hinfo : (P.info? e).map (fun i => (i.zero, i.size, i.bytes)) = some (some (agg z), Enc.sz α, bytes)) (hb0 : 0 < bytes)
    (v : Value) (L news : List α) {A : Option Addr} {c : Nat} (hs : a.eval s = v) (hx : a.eval x = .slice A news.length c) (H : Owns w base e v L) (HN : Reads w A news)
    (hb : (L.length + news.length) * bytes ≤ 140737488355328) (hbase : base ≤ w.heap.size)
    (hk : ∀ v' w', Owns w' base e v' (L ++ news) → w.grownBy w' v.ownBlock → S w' ∧ wpAnyH P .any l.toArray Q S fuel (listed.setIfInBounds i true) (a.put o.dst v') w') : HStep P l Q S fuel listed a w i := by
  obtain ⟨v', w', hr, h1, h2, _⟩ := op_append base s x t e ho ht z bytes hinfo hb0 v L news hs hx H HN hb hbase
  exact hs_val hi hw hr (hk v' w' h1 h2).1 (hk v' w' h1 h2).2
theorem hl_three {P : Program} {l : List Oper} {Q : Exit → Act → World → Prop} {S : World → Prop} {fuel : Nat} {listed : Array Bool} {a : Act} {w : World} (i k m : Nat) (hr : Region.ready .any l.toArray listed = [i, k, m]) (h : HStep P l Q S fuel listed a w i) (h2 : HStep P l Q S fuel listed a w k) (h3 : HStep P l Q S fuel listed a w m) : wpAnyH P .any l.toArray Q S (fuel + 1) listed a w :=
  wpAnyH_all hr (by simp) (fun j hj => by
    simp only [List.mem_cons, List.not_mem_nil, or_false] at hj
    rcases hj with rfl | rfl | rfl
    · exact h
    · exact h2
    · exact h3)
/-- A field of the variable that was made last is stored into. -/
theorem setCell_new {α : Type} [Enc α] (w : World) (i : Nat) (v : Value) (p p' : α) (t : TypeId) (h : (Enc.enc p).set i v = Enc.enc p') : (w.alloc (.cells (Enc.enc p).toArray t)).setCell ⟨w.heap.size, i, none⟩ v = w.alloc (.cells (Enc.enc p').toArray t) := by
  have hb := heap_alloc_new w (.cells (Enc.enc p).toArray t)
  rw [setCell_eq_setRow _ _ _ _ _ _ v hb, World.setRow_alloc_new, ← h]
  simp
theorem fresh_own {a w w' : World} {base : Nat} {v : Value} {α : Type} [Enc α] {e : TypeId} {l : List α} (h : Below a.heap.size a w) (H : Owns w base e v l) (hg : w.grownBy w' v.ownBlock) (hb : a.heap.size ≤ base) : Below a.heap.size a w' :=
  fresh_grown h hg (fun k hk => Nat.le_trans hb (H.block k hk).1)
end Go.Pb
