/- Steps of regions, by laws that name no program: what an operation yields, in a plain region, and in one that draws its order and makes memory besides. -/
import Derived.Test.YteablbficakfcaaData
import Derived.Sort.Grow
set_option linter.unusedVariables false
set_option linter.unusedSimpArgs false
set_option linter.unusedSectionVars false
namespace Go.Pb
open Go.RowKit

/-! ### 1. Worlds that have grown -/
abbrev Fr (w : World) := { w' : World // Below w.heap.size w w' }
instance (w : World) : Nonempty (Fr w) := ⟨⟨w, Below.refl _ _⟩⟩
theorem fresh_trans {a b c : World} (h : Below a.heap.size a b) (k : Below b.heap.size b c) : Below a.heap.size a c := h.trans (k.mono h.size)
theorem fresh_refl (w : World) : Below w.heap.size w w := Below.refl _ _
theorem fresh_alloc {a w : World} (h : Below a.heap.size a w) (o : Obj) : Below a.heap.size a (w.alloc o) := h.alloc h.size o
theorem fresh_drew {a w : World} (h : Below a.heap.size a w) : Below a.heap.size a w.drew := h.drew
theorem fresh_drewN {a w : World} (h : Below a.heap.size a w) (n : Nat) : Below a.heap.size a (w.drewN n) := ⟨h.os, h.tape, h.output, h.size, h.block⟩
theorem fresh_grown {a w w' : World} {row : Option Nat} (h : Below a.heap.size a w) (hg : w.grownBy w' row) (hr : ∀ k, row = some k → a.heap.size ≤ k) : Below a.heap.size a w' := h.grown hg h.size hr
theorem fresh_setCell {a w : World} (h : Below a.heap.size a w) {p : Addr} (hp : a.heap.size ≤ p.block) (u : Value) : Below a.heap.size a (w.setCell p u) := h.setCell hp u
theorem fresh_of_grown {a w : World} (hg : a.grownBy w none) : Below a.heap.size a w := ⟨hg.os, hg.tape, hg.output, hg.size, fun k hk => hg.block k hk (by simp)⟩
theorem grown_of_fresh {a w : World} (h : Below a.heap.size a w) (row : Option Nat) : a.grownBy w row := ⟨h.os, h.tape, h.output, h.size, fun i hi _ => h.block i hi⟩
theorem fresh_grow (w : World) (os : Array Obj) : Below w.heap.size w (Go.Sort.grow w os) :=
  ⟨rfl, rfl, rfl, by simp [Go.Sort.grow], fun k hk => by simp [Go.Sort.grow, Array.getElem?_append, hk]⟩
theorem fresh_setRow {a w : World} (h : Below a.heap.size a w) {g : Nat} (hg : a.heap.size ≤ g) (cs : Array Value) : Below a.heap.size a (w.setRow g cs) :=
  h.trans ⟨rfl, rfl, rfl, by simp, fun k hk => setRow_other w g k cs (by omega)⟩
theorem grown_setRow (w : World) (g : Nat) (cs : Array Value) : w.grownBy (w.setRow g cs) (some g) := ⟨rfl, rfl, rfl, by simp, fun k _ hk => setRow_other w g k cs (fun e => hk (by rw [e]))⟩
theorem grown_setCell (w : World) (p : Addr) (u : Value) : w.grownBy (w.setCell p u) (some p.block) := ⟨rfl, rfl, rfl, by simp [World.setCell], fun k _ hk => Below.heap_setCell w p u k (fun e => hk (by rw [e]))⟩
theorem setCells_eq (b : Nat) : ∀ (vs : List Value) (o : Nat) (w : World), w.grownBy (w.setCells b o vs) (some b) ∧ (w.setCells b o vs).heap.size = w.heap.size
  | [], o, w => ⟨⟨rfl, rfl, rfl, Nat.le_refl _, fun _ _ _ => rfl⟩, rfl⟩
  | v :: r, o, w => by
    obtain ⟨h1, h2⟩ := setCells_eq b r (o + 1) (w.setCell ⟨b, o, none⟩ v)
    exact ⟨(grown_setCell w ⟨b, o, none⟩ v).trans h1, by rw [World.setCells, h2]; simp [World.setCell]⟩

/-- A region that draws its order, in which nothing that was there is turned: ONE WALK OF THE TEXT's ORDER SERVES EVERY ORDER; each operation yields one value in every world that has grown out of this one. -/
theorem wp_region_fresh_lit {P : Program} {id : Nat} {Q : Exit → Act → World → Prop} {a : Act} {w : World} {l : List Oper} (hm : P.follows .mixedOrders = true) (hB : Region.lexB .any l.toArray = true)
    (h : wpQuiet P l.toArray (fun w' => ∃ x : Fr w, w' = x.1) (fun a' => ∀ w', (∃ x : Fr w, w' = x.1) → Q .normal a' w') l a) : (Code.region id l.toArray true).wp P Q a w :=
  wp_region_quiet (C := fun w' => ∃ x : Fr w, w' = x.1) hm hB ⟨⟨_, (Below.refl _ w).drew⟩, rfl⟩ (by simpa using h)

/-! ### 2. One step -/
section
variable {P : Program} {ops : Array Oper} {rest : List Oper} {o : Oper} {a : Act} {w w' : World} {v : Value}
theorem st_val {Q : Exit → Act → World → Prop} (hw : Region.wanted o (yielded ops a.tmps) = true) (h : (execOp a.eval o).run P w = .ok (.value v) w') (hk : wpList P ops Q rest (a.put o.dst v) w') : wpList P ops Q (o :: rest) a w :=
  BigFrame.wpList_want hw fun K hK => by unfold Oper.wp; rw [h]; exact hK _ _ hk
theorem st_skip {Q : Exit → Act → World → Prop} (hw : Region.wanted o (yielded ops a.tmps) = true) (h : (execOp a.eval o).run P w = .ok .skip w') (hk : wpList P ops Q rest (a.put o.dst undef) w') : wpList P ops Q (o :: rest) a w :=
  BigFrame.wpList_want hw fun K hK => by unfold Oper.wp; rw [h]; exact hK _ _ hk
theorem sq_val {C : World → Prop} {Q : Act → Prop} (hw : Region.wanted o (yielded ops a.tmps) = true) (h : ∀ w, C w → (execOp a.eval o).run P w = .ok (.value v) w) (hk : wpQuiet P ops C Q rest (a.put o.dst v)) : wpQuiet P ops C Q (o :: rest) a :=
  BigFrame.wpQuiet_want hw fun K hK => ⟨v, fun w hw => by unfold Oper.quietAt; rw [h w hw]; exact ⟨rfl, rfl⟩, hK _ hk⟩
theorem sq_call {C : World → Prop} {Q : Act → Prop} (hw : Region.wanted o (yielded ops a.tmps) = true) (f : FuncId) (xs : List Operand) (ts : Array TypeId) (ho : o.op = .call { callee := .value (.func f), args := xs.toArray, argTypes := ts })
    (args : List Value) (hargs : xs.map a.eval = args) (eg : ∀ args w, (callFunc f args).run P w = .ok (.enter f args) w) (h : ∀ w, C w → Calls P f args.toArray w fun e w' => e = .returned v ∧ C w') (hk : wpQuiet P ops C Q rest (a.put o.dst v)) : wpQuiet P ops C Q (o :: rest) a :=
  BigFrame.wpQuiet_want hw fun K hK => ⟨v, fun w hw => by
    unfold Oper.quietAt
    have hr : (execOp a.eval o).run P w = .ok (.enter f args.toArray) w := by
      unfold execOp
      simp only [ho, resolve, List.map_toArray, hargs, Act.eval, Deferred.ofValue, invoke, Sem.run_bind, Sem.run_pure, Result.andThen, Array.empty_append, Array.append_empty, eg]
    rw [hr]
    exact ⟨rfl, h w hw⟩, hK _ hk⟩
theorem fr_call {f : FuncId} {args : Array Value} {w0 : World} (h : ∀ w, Below w0.heap.size w0 w → Calls P f args w fun e w' => e = .returned v ∧ Below w.heap.size w w') : ∀ w, (∃ x : Fr w0, w = x.1) → Calls P f args w fun e w' => e = .returned v ∧ ∃ x : Fr w0, w' = x.1 := by
  rintro _ ⟨x, rfl⟩
  refine (h _ x.2).mono ?_
  rintro e w' ⟨he, hb⟩
  exact ⟨he, ⟨w', fresh_trans x.2 hb⟩, rfl⟩
end

/-! ### 3. What operations yield -/
section
variable {P : Program} {o : Oper} {ρ : Operand → Value} {w : World}
/-- 'new(T)', 'var x T' of an aggregate. -/
theorem run_alloc {α : Type} [Enc α] (t : TypeId) (z : α) (hz : (P.info? t).map (·.zero) = some (some (agg z))) (ho : o.op = .alloc t) :
    (execOp ρ o).run P w = .ok (.value (.pointer (some ⟨w.heap.size, 0, none⟩))) (w.alloc (.cells (Enc.enc z).toArray t)) := by
  obtain ⟨i, hi, hz⟩ := Option.map_eq_some_iff.1 hz
  unfold execOp
  simp [ho, Instr.alloc, zeroValue, typeInfo, hi, hz, newVar, newRow, agg, Value.cells]
/-- a parameter laid in a variable of its own. -/
theorem run_box {α : Type} [Enc α] (t : TypeId) (x : Operand) (z : α) (ho : o.op = .box t x) (hx : ρ x = agg z) :
    (execOp ρ o).run P w = .ok (.value (.pointer (some ⟨w.heap.size, 0, none⟩))) (w.alloc (.cells (Enc.enc z).toArray t)) := by
  unfold execOp
  simp [ho, Instr.box, newVar, newRow, agg, Value.cells, hx]
/-- a whole variable is stored into. -/
theorem run_store_all {α : Type} [Enc α] (t : TypeId) (x y : Operand) (ho : o.op = .store t x y) {g : Nat} (hx : ρ x = .pointer (some ⟨g, 0, none⟩)) (z : α) (hy : ρ y = agg z) (old : Array Value) (tg : TypeId)
    (hg : w.heap[g]? = some (.cells old tg (0, 0))) (hold : old.size = Enc.sz α) (hi : (P.info? t).map (·.size) = some (Enc.sz α)) :
    (execOp ρ o).run P w = .ok .skip (w.setRow g (Enc.enc z).toArray) := by
  have h := run_storeVar_row (P := P) w g tg t old (Enc.enc z).toArray hg (by simpa [Enc.len] using hi) (by simpa [Enc.len] using hold) (all_oneCell_toArray (Enc.one z))
  unfold execOp
  simp only [ho, hx, hy, Instr.storeAt, Instr.sureAddr, agg, Sem.run_bind, Sem.run_pure, Result.andThen_ok, h]
/-- the variable that was made last is stored into. -/
theorem run_store_last {α : Type} [Enc α] (t : TypeId) (x y : Operand) (ho : o.op = .store t x y) (hx : ρ x = .pointer (some ⟨w.heap.size, 0, none⟩)) (z z0 : α) (hy : ρ y = agg z) (tg : TypeId)
    (hi : (P.info? t).map (·.size) = some (Enc.sz α)) :
    (execOp ρ o).run P (w.alloc (.cells (Enc.enc z0).toArray tg)) = .ok .skip (w.alloc (.cells (Enc.enc z).toArray tg)) := by
  rw [run_store_all t x y ho hx z hy (Enc.enc z0).toArray tg (heap_alloc_new w _) (by simp [Enc.len]) hi, World.setRow_alloc_new]
/-- elements of a row that came in, or is one's own, are stored into. -/
theorem run_store_mid {α : Type} [Enc α] (t : TypeId) (x y : Operand) (ho : o.op = .store t x y) {b f : Nat} (hx : ρ x = .pointer (some ⟨b, f, none⟩)) (z : α) (hy : ρ y = agg z) (ht : w.there b f (Enc.sz α))
    (hi : (P.info? t).map (·.size) = some (Enc.sz α)) : (execOp ρ o).run P w = .ok .skip (w.setCells b f (Enc.enc z)) := by
  have h := run_storeVar_mid (P := P) w b f t (Enc.enc z).toArray (by simpa [Enc.len] using ht) (by simpa [Enc.len] using hi) (all_oneCell_toArray (Enc.one z))
  unfold execOp
  simp only [ho, hx, hy, Instr.storeAt, Instr.sureAddr, agg, Sem.run_bind, Sem.run_pure, Result.andThen_ok, h]
/-- 'make([]T, n, c)'. -/
theorem run_makeRow {α : Type} [Enc α] (t e : TypeId) (x y : Operand) (ho : o.op = .makeSlice t x y) (ht : P.underlying t = some (.slice e)) (z : α) (bytes : Nat) (hinfo : (P.info? e).map (fun i => (i.zero, i.size, i.bytes)) = some (some (agg z), Enc.sz α, bytes))
    (n c : Nat) (hx : ρ x = .int .i64 (n : Int)) (hy : ρ y = .int .i64 (c : Int)) (hnc : n ≤ c) (hb : bytes * c ≤ 281474976710656) (hc : c ≤ 9223372036854775807) :
    (execOp ρ o).run P w = .ok (.value (.slice (some ⟨w.heap.size, 0, none⟩) n c)) (w.alloc (.cells (flat (List.replicate c z)).toArray e)) := by
  obtain ⟨i, hi, hz0, hz1, hz2⟩ := info_parts hinfo
  have hb' : (i.bytes : Int) * (c : Int) ≤ 281474976710656 := by
    have h : ((i.bytes * c : Nat) : Int) ≤ 281474976710656 := by rw [hz2]; omega
    rwa [Int.natCast_mul] at h
  have hr := run_make (P := P) w t e i (agg z) ht hi hz0 .i64 .i64 n c (by omega) (by omega) hb' (by omega)
  simp only [Int.toNat_natCast] at hr
  have hm : madeCells (agg z).cells (c * i.size) = (flat (List.replicate c z)).toArray := by
    rw [hz1]
    apply Array.ext'
    have hl : (agg z).cells = (Enc.enc z).toArray := rfl
    have hzl := Enc.len z
    have hpos := Enc.pos (α := α)
    apply List.ext_getElem?
    intro j
    simp only [madeCells, hl, Array.toList_map, List.getElem?_map]
    by_cases hj : j < c * Enc.sz α
    · have hq : j / Enc.sz α < c := Nat.div_lt_of_lt_mul (by rw [Nat.mul_comm]; exact hj)
      have hmod := Nat.mod_lt j hpos
      have h1 : (flat (List.replicate c z))[j]? = (Enc.enc z)[j % Enc.sz α]? := by
        have := flat_get (List.replicate c z) (j / Enc.sz α) (by simpa using hq) (j % Enc.sz α) hmod
        rw [Nat.div_add_mod' j] at this
        simpa using this
      rw [h1]
      have h2 : (Array.range (c * Enc.sz α)).toList[j]? = some j := by simp [hj]
      rw [h2]
      simp only [Option.map_some, List.size_toArray, hzl]
      rw [List.getElem?_eq_getElem (by rw [hzl]; exact hmod)]
      congr 1
      exact getElem!_pos (Enc.enc z).toArray _ (by simpa [hzl] using hmod)
    · have h2 : (Array.range (c * Enc.sz α)).toList[j]? = none := by simp; omega
      rw [h2, List.getElem?_eq_none (by rw [flat_length]; simpa using hj)]
      rfl
  unfold execOp
  simp only [ho, hx, hy, Sem.run_bind, hr, hm, Result.andThen_ok, Sem.run_pure]
/-- a part laid over cells. -/
def splice' (cs : List Value) (off : Nat) (vs : List Value) : List Value := cs.take off ++ (vs ++ cs.drop (off + vs.length))
theorem fold_splice : ∀ (vs : List Value) (off j : Nat) (cs : Array Value), off + j + vs.length ≤ cs.size →
    ((vs.zipIdx j).foldl (fun cs (p : Value × Nat) => cs.setIfInBounds (off + p.2) p.1) cs).toList = splice' cs.toList (off + j) vs
  | [], off, j, cs, h => by simp [splice']
  | v :: r, off, j, cs, h => by
    simp only [List.length_cons] at h
    have hk : off + j < cs.toList.length := by simp; omega
    rw [List.zipIdx_cons, List.foldl_cons, fold_splice r off (j + 1) _ (by simp; omega)]
    unfold splice'
    simp only [Array.toList_setIfInBounds, List.length_cons]
    rw [List.set_eq_take_append_cons_drop, if_pos hk]
    have hl : (cs.toList.take (off + j)).length = off + j := by rw [List.length_take]; omega
    have e1 : (cs.toList.take (off + j) ++ v :: cs.toList.drop (off + j + 1)).take (off + (j + 1)) = cs.toList.take (off + j) ++ [v] := by
      rw [List.take_append, hl, List.take_of_length_le (by omega), show off + (j + 1) - (off + j) = 1 by omega]
      simp
    have e2 : (cs.toList.take (off + j) ++ v :: cs.toList.drop (off + j + 1)).drop (off + (j + 1) + r.length) = cs.toList.drop (off + j + (r.length + 1)) := by
      rw [List.drop_append, hl, List.drop_of_length_le (by omega), show off + (j + 1) + r.length - (off + j) = r.length + 1 by omega, List.drop_succ_cons, List.drop_drop, List.nil_append]
      congr 1
      omega
    rw [e1, e2]
    simp
theorem fill_nil (place : Nat → Option (Nat × Nat)) (cells : Array Value) : Instr.fill place cells [] = some cells := rfl
theorem fill_cons (place : Nat → Option (Nat × Nat)) (cells : Array Value) (i off size : Nat) (v : Value) (rest : List (Nat × Value)) (hp : place i = some (off, size)) (hs : v.cells.size = size) (hf : off + size ≤ cells.size) :
    Instr.fill place cells ((i, v) :: rest) = Instr.fill place (splice' cells.toList off v.cells.toList).toArray rest := by
  have h0 := fold_splice v.cells.toList off 0 cells (by simp; omega)
  rw [Nat.add_zero] at h0
  have h1 : v.cells.zipIdx.foldl (fun cs (p : Value × Nat) => cs.setIfInBounds (off + p.2) p.1) cells = (splice' cells.toList off v.cells.toList).toArray := by
    apply Array.ext'
    rw [← h0, ← Array.foldl_toList, Array.toList_zipIdx]
  rw [Instr.fill, hp]
  simp only []
  rw [if_neg (by simp [hs]; omega), ← h1]
/-- one element laid in a row of its own, for append. -/
theorem run_row1 {α : Type} [Enc α] (t e : TypeId) (x : Operand) (ho : o.op = .buildSlice t 1 #[(0, x)]) (ht : P.underlying t = some (.slice e)) (z0 z : α) (bytes : Nat) (hinfo : (P.info? e).map (fun i => (i.zero, i.size, i.bytes)) = some (some (agg z0), Enc.sz α, bytes))
    (hx : ρ x = agg z) (hsmall : Enc.sz α ≤ 16777216) :
    (execOp ρ o).run P w = .ok (.value (.slice (some ⟨w.heap.size, 0, none⟩) 1 1)) (w.alloc (.cells (Enc.enc z).toArray e)) := by
  obtain ⟨i, hi, hz0, hz1, hz2⟩ := info_parts hinfo
  have hpos := Enc.pos (α := α)
  have hlen := Enc.len z
  have hfill : ∀ c : Array Value, c.size = Enc.sz α → Instr.fill (fun i => some (i * Enc.sz α, Enc.sz α)) c [(0, agg z)] = some (Enc.enc z).toArray := by
    intro c hc
    rw [fill_cons _ c 0 0 (Enc.sz α) (agg z) [] (by simp) (by simp [agg, Value.cells, hlen]) (by omega), fill_nil]
    congr 1
    simp [splice', agg, Value.cells, hlen, hc]
  have hne : ¬ (Enc.sz α = 0) := by omega
  have hns : ¬ (2 ^ 24 < Enc.sz α) := by omega
  unfold execOp
  simp only [ho, Instr.buildSlice, Sem.run_bind, run_underlying ht w, Result.andThen_ok, sizeOf, typeInfo, run_program, hi, hz1, Sem.run_pure, Nat.one_mul, gt_iff_lt, hns, if_false, hne, zeroValue, hz0, List.map_toArray, List.map_cons, List.map_nil, hx]
  rw [hfill _ (by simp)]
  simp [newRow, Result.andThen]
end

/-! ### 4. append -/
section
variable {P : Program} {ops : Array Oper} {rest : List Oper} {o : Oper} {a : Act} {w : World} {Q : Exit → Act → World → Prop} {α : Type} [Enc α]
theorem range_add {b f : Nat} {cs : List Value} (h : w.rangeAt b f cs) : ∀ j u, cs[j]? = some u → w.cell? ((⟨b, f, none⟩ : Addr).add j) = some u := fun j u hu => by
  rw [Addr.add_mid]
  exact h j u hu
/-- append(v, ys...), v nil or a row of one's own; what is appended may be nil. -/
theorem st_append (base : Nat) (hw : Region.wanted o (yielded ops a.tmps) = true) (s x : Operand) (t e : TypeId) (ho : o.op = .call { callee := .builtin .append, args := #[s, x], argTypes := #[t, t] })
    (ht : P.underlying t = some (.slice e)) (z : α) (bytes : Nat) (hinfo : (P.info? e).map (fun i => (i.zero, i.size, i.bytes)) = some (some (agg z), Enc.sz α, bytes)) (hb0 : 0 < bytes)
    (v : Value) (l news : List α) {A : Option Addr} {c : Nat} (hs : a.eval s = v) (hx : a.eval x = .slice A news.length c) (H : Owns w base e v l) (HN : Reads w A news)
    (hb : (l.length + news.length) * bytes ≤ 140737488355328) (hbase : base ≤ w.heap.size)
    (h : ∀ v' w', Owns w' base e v' (l ++ news) → w.grownBy w' v.ownBlock → (v'.ownBlock = v.ownBlock ∨ v'.ownBlock = some w.heap.size) → wpList P ops Q rest (a.put o.dst v') w') : wpList P ops Q (o :: rest) a w := by
  obtain ⟨i0, hi, hz0, hz1, hz2⟩ := info_parts hinfo
  have hlen : l.length + news.length ≤ 140737488355328 := Nat.le_trans (Nat.le_mul_of_pos_right _ hb0) hb
  have hrun : ∃ v' w', (Builtin.append_ #[t, t] o.type #[v, .slice A news.length c]).run P w = .ok v' w' ∧ Owns w' base e v' (l ++ news) ∧ w.grownBy w' v.ownBlock ∧ (v'.ownBlock = v.ownBlock ∨ v'.ownBlock = some w.heap.size) := by
    by_cases hne : news = []
    · subst hne
      rcases A with _ | ad
      · refine ⟨v, w, ?_, by simpa using H, World.grownBy.refl w _, .inl rfl⟩
        rcases H.2 with ⟨rfl, hn⟩ | ⟨g, cap, cur, rfl, _, _, hnc, _⟩
        · simp [Builtin.append_, run_underlying ht, sizeOf, typeInfo, hi, Builtin.lenOf, Builtin.firstCells]
        · simp [Builtin.append_, run_underlying ht, sizeOf, typeInfo, hi, Builtin.lenOf, Builtin.firstCells, hnc, storeCells]
      · obtain ⟨v', w', hr, h2, h3, _, h5⟩ := run_append_own_at (P := P) w base t o.type e i0 (agg z) (Enc.sz α) bytes ht hi hz0 hz1 hz2 (by simp [agg, Value.cells, Enc.len]) Enc.pos v l.length (flat l) H ad 0 c [] (by simp) (by simp) (by simp)
          (by simp only [maxLen]; simp at hlen; omega) (by simpa using hb) hbase
        exact ⟨v', w', hr, by simpa [Owns] using h2, h3, h5⟩
    · obtain ⟨b, f, rfl, hr0⟩ := HN hne
      obtain ⟨v', w', hr, h2, h3, _, h5⟩ := run_append_own_at (P := P) w base t o.type e i0 (agg z) (Enc.sz α) bytes ht hi hz0 hz1 hz2 (by simp [agg, Value.cells, Enc.len]) Enc.pos v l.length (flat l) H ⟨b, f, none⟩ news.length c (flat news) (flat_length news) (range_add hr0) (flat_one news)
        (by simp only [maxLen]; omega) hb hbase
      exact ⟨v', w', hr, by simpa [Owns, flat_append] using h2, h3, h5⟩
  obtain ⟨v', w', hr, hown, hg, hat⟩ := hrun
  refine BigFrame.wpList_want hw fun K hK => ?_
  unfold Oper.wp execOp
  simp only [ho, resolve, invoke, builtin, Sem.run_bind, Sem.run_pure, Result.andThen_ok, List.map_toArray, List.map_cons, List.map_nil, hs, hx, hr]
  exact hK _ _ (h v' w' hown hg hat)
/-- .. of one element, that lies in a row of its own just made. -/
theorem st_push (base : Nat) {W : World} (hw : Region.wanted o (yielded ops a.tmps) = true) (s x : Operand) (t e : TypeId) (ho : o.op = .call { callee := .builtin .append, args := #[s, x], argTypes := #[t, t] })
    (ht : P.underlying t = some (.slice e)) (z : α) (bytes : Nat) (hinfo : (P.info? e).map (fun i => (i.zero, i.size, i.bytes)) = some (some (agg z), Enc.sz α, bytes)) (hb0 : 0 < bytes)
    (v : Value) (l : List α) (y : α) (hs : a.eval s = v) (hx : a.eval x = .slice (some ⟨W.heap.size, 0, none⟩) 1 1) (H : Owns W base e v l)
    (hb : (l.length + 1) * bytes ≤ 140737488355328) (hbase : base ≤ W.heap.size)
    (h : ∀ v' w', Owns w' base e v' (l ++ [y]) → W.grownBy w' v.ownBlock → (v'.ownBlock = v.ownBlock ∨ ∃ g, v'.ownBlock = some g ∧ W.heap.size ≤ g) → wpList P ops Q rest (a.put o.dst v') w') : wpList P ops Q (o :: rest) a (W.alloc (.cells (Enc.enc y).toArray e)) := by
  refine st_append base hw s x t e ho ht z bytes hinfo hb0 v l [y] (A := some ⟨W.heap.size, 0, none⟩) (c := 1) hs hx (H.alloc _) (fun _ => ⟨_, _, rfl, ?_⟩) hb (by simp; omega) ?_
  · have := range_block (heap_alloc_new W (.cells (Enc.enc y).toArray e))
    simpa [flat_single] using this
  · intro v' w' h1 h2 h3
    refine h v' w' h1 ((World.grownBy_alloc W _ _).trans h2) ?_
    rcases h3 with h3 | h3
    · exact .inl h3
    · exact .inr ⟨_, h3, by simp⟩
/-- append within the capacity: the value is known. -/
theorem st_append_fit (base : Nat) (hw : Region.wanted o (yielded ops a.tmps) = true) (s x : Operand) (t e : TypeId) (ho : o.op = .call { callee := .builtin .append, args := #[s, x], argTypes := #[t, t] })
    (ht : P.underlying t = some (.slice e)) (z : α) (bytes : Nat) (hinfo : (P.info? e).map (fun i => (i.zero, i.size, i.bytes)) = some (some (agg z), Enc.sz α, bytes))
    {g n cap : Nat} (l news : List α) {A : Option Addr} {c : Nat} (hs : a.eval s = .slice (some ⟨g, 0, none⟩) n cap) (hn : n = l.length) (hx : a.eval x = .slice A news.length c) (H : Owns w base e (.slice (some ⟨g, 0, none⟩) n cap) l) (HN : Reads w A news)
    (hfit : n + news.length ≤ cap)
    (h : ∀ w', Owns w' base e (.slice (some ⟨g, 0, none⟩) (n + news.length) cap) (l ++ news) → w.grownBy w' (some g) → wpList P ops Q rest (a.put o.dst (.slice (some ⟨g, 0, none⟩) (n + news.length) cap)) w') : wpList P ops Q (o :: rest) a w := by
  subst hn
  obtain ⟨i0, hi, hz0, hz1, hz2⟩ := info_parts hinfo
  have hrun : ∃ w', (Builtin.append_ #[t, t] o.type #[.slice (some ⟨g, 0, none⟩) l.length cap, .slice A news.length c]).run P w = .ok (.slice (some ⟨g, 0, none⟩) (l.length + news.length) cap) w' ∧ Owns w' base e (.slice (some ⟨g, 0, none⟩) (l.length + news.length) cap) (l ++ news) ∧ w.grownBy w' (some g) := by
    by_cases hne : news = []
    · subst hne
      rcases A with _ | ad
      · refine ⟨w, ?_, by simpa using H, World.grownBy.refl w _⟩
        simp [Builtin.append_, run_underlying ht, sizeOf, typeInfo, hi, Builtin.lenOf, Builtin.firstCells, storeCells]
        intro hc
        simp at hfit
        omega
      · obtain ⟨w', hr, h2, h3⟩ := run_append_fits (P := P) w base t o.type e i0 (Enc.sz α) ht hi hz1 g l.length cap (flat l) H ad 0 c [] (by simp) (by simp) (by simp) (by simpa using hfit)
        exact ⟨w', hr, by simpa [Owns] using h2, h3⟩
    · obtain ⟨b, f, rfl, hr0⟩ := HN hne
      obtain ⟨w', hr, h2, h3⟩ := run_append_fits (P := P) w base t o.type e i0 (Enc.sz α) ht hi hz1 g l.length cap (flat l) H ⟨b, f, none⟩ news.length c (flat news) (flat_length news) (range_add hr0) (flat_one news) hfit
      exact ⟨w', hr, by simpa [Owns, flat_append] using h2, h3⟩
  obtain ⟨w', hr, hown, hg⟩ := hrun
  refine BigFrame.wpList_want hw fun K hK => ?_
  unfold Oper.wp execOp
  simp only [ho, resolve, invoke, builtin, Sem.run_bind, Sem.run_pure, Result.andThen_ok, List.map_toArray, List.map_cons, List.map_nil, hs, hx, hr]
  exact hK _ _ (h w' hown hg)
end

/-! ### 5. A composite literal -/
section
variable {P : Program} {o : Oper} {ρ : Operand → Value} {w : World}
theorem run_build {α : Type} [Enc α] (t : TypeId) (parts : Array (Nat × Operand)) (ho : o.op = .build t parts) (fs : Array Field) (ht : P.underlying t = some (.struct fs)) (z y : α) (hz : (P.info? t).map (·.zero) = some (some (agg z)))
    (places : Array (Nat × Nat)) (hp : ∀ w, (fs.mapM fun f => do pure (f.offset, ← sizeOf f.type) : Sem (Array (Nat × Nat))).run P w = .ok places w)
    (hf : Instr.fill (places[·]?) (Enc.enc z).toArray ((parts.map fun (i, x) => (i, ρ x)).toList) = some (Enc.enc y).toArray) :
    (execOp ρ o).run P w = .ok (.value (agg y)) w := by
  obtain ⟨i, hi, hz⟩ := Option.map_eq_some_iff.1 hz
  unfold execOp
  simp only [ho, Instr.build, zeroValue, typeInfo, Sem.run_bind, run_program, hi, hz, Sem.run_pure, Result.andThen_ok, run_underlying ht w, hp w]
  have : (agg z).cells = (Enc.enc z).toArray := rfl
  rw [this, hf]
  rfl
end
end Go.Pb
