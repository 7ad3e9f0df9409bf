/- Regions that draw their order, walked by hand: what only reads is taken first, what turns memory goes as it comes up. Nothing here names the program. -/
import Derived.Test.YteablbficakfcaaSteps
import Derived.Test.YteablbficakfcaaMaps
import Derived.OrdersHeld
import Derived.StillTail
set_option linter.unusedVariables false
set_option linter.unusedSimpArgs false
set_option linter.unusedSectionVars false
namespace Go.Pb
open Go.RowKit

section
variable {P : Program} {l : List Oper} {Q : Exit → Act → World → Prop} {S : World → Prop} {fuel : Nat} {listed : Array Bool} {a : Act} {w : World}

def okTake (l : List Oper) (listed : Array Bool) (i : Nat) : Bool := Region.noSelect l.toArray && (Region.free .any l.toArray listed i && (Region.ready .any l.toArray listed).contains i)

theorem held_lit {id : Nat} (S : World → Prop) (n : Nat) (hn : l.length = n) (hm : P.follows .mixedOrders = true) (h : wpAnyH P .any l.toArray Q S n (Array.replicate n false) a w.drew) : (Code.region id l.toArray true).wp P Q a w := by
  subst hn
  have hh : wpAnyH P .any l.toArray Q S l.toArray.size (Array.replicate l.toArray.size false) a { w with drawn := w.drawn + 1 } := by
    rw [List.size_toArray]
    exact h
  exact wp_region_held (S := S) hm hh
/-- What only reads is taken first. -/
theorem hl_take (i : Nat) {oi : Oper} {v : Value} (hi : l[i]? = some oi) (hok : okTake l listed i = true) (hw : Region.wanted oi (yielded l.toArray a.tmps) = true) (h : ∀ w', S w' → (execOp a.eval oi).run P w' = .ok (.value v) w') (hS : S w)
    (hQ : ∀ c a w, Q (.panic c) (a.put oi.dst v) w → Q (.panic c) a w) (hk : wpAnyH P .any l.toArray Q S fuel (listed.setIfInBounds i true) (a.put oi.dst v) w) : wpAnyH P .any l.toArray Q S (fuel + 1) listed a w := by
  unfold okTake at hok
  simp only [Bool.and_eq_true] at hok
  exact wpAnyH_take (i := i) (by simpa using hi) hok.1 hok.2.1 hok.2.2 hQ (.inl ⟨hw, h⟩) hS hk
/-- What a guard leaves out is taken first. -/
theorem hl_unw (i : Nat) {oi : Oper} (hi : l[i]? = some oi) (hok : okTake l listed i = true) (hw : Region.wanted oi (yielded l.toArray a.tmps) = false) (hS : S w)
    (hQ : ∀ c a w, Q (.panic c) (a.put oi.dst undef) w → Q (.panic c) a w) (hk : wpAnyH P .any l.toArray Q S fuel (listed.setIfInBounds i true) (a.put oi.dst undef) w) : wpAnyH P .any l.toArray Q S (fuel + 1) listed a w := by
  unfold okTake at hok
  simp only [Bool.and_eq_true] at hok
  exact wpAnyH_take (i := i) (by simpa using hi) hok.1 hok.2.1 hok.2.2 hQ (.inr ⟨hw, rfl⟩) hS hk
/-- Operation i comes up. -/
def HStep (P : Program) (l : List Oper) (Q : Exit → Act → World → Prop) (S : World → Prop) (fuel : Nat) (listed : Array Bool) (a : Act) (w : World) (i : Nat) : Prop :=
  wpOp P l.toArray Q i (fun a' w' => S w' ∧ wpAnyH P .any l.toArray Q S fuel (listed.setIfInBounds i true) a' w') a w
theorem hl_one (i : Nat) (hr : Region.ready .any l.toArray listed = [i]) (h : HStep P l Q S fuel listed a w i) : wpAnyH P .any l.toArray Q S (fuel + 1) listed a w :=
  wpAnyH_all hr (by simp) (fun j hj => by
    rw [List.mem_singleton] at hj
    subst hj
    exact h)
theorem hl_two (i k : Nat) (hr : Region.ready .any l.toArray listed = [i, k]) (h : HStep P l Q S fuel listed a w i) (h2 : HStep P l Q S fuel listed a w k) : wpAnyH P .any l.toArray Q S (fuel + 1) listed a w :=
  wpAnyH_all hr (by simp) (fun j hj => by
    simp only [List.mem_cons, List.not_mem_nil, or_false] at hj
    rcases hj with rfl | rfl
    · exact h
    · exact h2)
theorem hl_done (hr : Region.ready .any l.toArray listed = []) (h : Q .normal a w) : wpAnyH P .any l.toArray Q S fuel listed a w := wpAnyH_done hr h fuel
theorem hs_val {i : Nat} {o : Oper} {v : Value} {w' : World} (hi : l[i]? = some o) (hw : Region.wanted o (yielded l.toArray a.tmps) = true) (h : (execOp a.eval o).run P w = .ok (.value v) w') (hS : S w')
    (hk : wpAnyH P .any l.toArray Q S fuel (listed.setIfInBounds i true) (a.put o.dst v) w') : HStep P l Q S fuel listed a w i := by
  refine wpOp_step (o := o) (by simpa using hi) (fun K hK => ?_)
  rw [if_pos hw]
  unfold Oper.wp
  rw [h]
  exact hK _ _ ⟨hS, hk⟩
theorem hs_skip {i : Nat} {o : Oper} {w' : World} (hi : l[i]? = some o) (hw : Region.wanted o (yielded l.toArray a.tmps) = true) (h : (execOp a.eval o).run P w = .ok .skip w') (hS : S w')
    (hk : wpAnyH P .any l.toArray Q S fuel (listed.setIfInBounds i true) (a.put o.dst undef) w') : HStep P l Q S fuel listed a w i := by
  refine wpOp_step (o := o) (by simpa using hi) (fun K hK => ?_)
  rw [if_pos hw]
  unfold Oper.wp
  rw [h]
  exact hK _ _ ⟨hS, hk⟩
theorem hs_call {i : Nat} {o : Oper} (hi : l[i]? = some o) (hw : Region.wanted o (yielded l.toArray a.tmps) = true) (f : FuncId) (xs : List Operand) (ts : Array TypeId) (ho : o.op = .call { callee := .value (.func f), args := xs.toArray, argTypes := ts })
    (args : List Value) (hargs : xs.map a.eval = args) (eg : ∀ args w, (callFunc f args).run P w = .ok (.enter f args) w) {R : Ending → World → Prop} (h : Calls P f args.toArray w R)
    (hk : ∀ e w', R e w' → ∃ v, e = .returned v ∧ S w' ∧ wpAnyH P .any l.toArray Q S fuel (listed.setIfInBounds i true) (a.put o.dst v) w') : HStep P l Q S fuel listed a w i := by
  refine wpOp_step (o := o) (by simpa using hi) (fun K hK => ?_)
  rw [if_pos hw]
  have hr : (execOp a.eval o).run P w = .ok (.enter f args.toArray) w := by
    unfold execOp
    simp only [ho, resolve, List.map_toArray, hargs, Act.eval, Deferred.ofValue, invoke, Sem.run_bind, Sem.run_pure, Result.andThen, Array.empty_append, Array.append_empty, eg]
  unfold Oper.wp
  rw [hr]
  refine Calls.mono h (fun e w' he => ?_)
  obtain ⟨v, rfl, h1, h2⟩ := hk e w' he
  exact hK _ _ ⟨h1, h2⟩
end

/-! ### Regions that draw their order, whose last operations turn memory, one behind the other -/
section
variable {P : Program} {ops : Array Oper}
theorem still_of_quiet {w : World} {Q Q' : Act → Prop} (hQ : ∀ a, Q a → Q' a) : ∀ (l : List Oper) (a : Act), wpQuiet P ops (fun w' => w' = w) Q l a → wpStill P ops w Q' l a
  | [], a, h => hQ a h
  | o :: rest, a, h => by
    unfold wpQuiet at h
    unfold wpStill
    split at h
    · rename_i hw
      rw [if_pos hw]
      obtain ⟨v, hv, hk⟩ := h
      have h1 := hv w rfl
      have ih := still_of_quiet hQ rest _ hk
      unfold Oper.quietAt at h1
      unfold Oper.still
      generalize (execOp a.eval o).run P w = r at h1
      cases r with
      | ok n w' =>
        cases n <;> simp only [Oper.quietUpon, Oper.stillUpon] at h1 ⊢
        case value u => obtain ⟨h1, rfl⟩ := h1; exact ⟨h1, ih⟩
        case skip => obtain ⟨h1, rfl⟩ := h1; exact ⟨h1, ih⟩
        case enter f args => exact ⟨h1.1, v, h1.2, ih⟩
      | halt x w' => exact h1.elim
    · rename_i hw
      rw [if_neg hw]
      exact still_of_quiet hQ rest _ h
theorem wp_region_tail_lit {id : Nat} {Q : Exit → Act → World → Prop} {a : Act} {w : World} {l : List Oper} (n : Nat) (hm : P.follows .mixedOrders = true) (hB : Region.lexTailB .any l.toArray n = true)
    (h : wpQuiet P l.toArray (fun w' => w' = w.drew) (fun a' => wpList P l.toArray Q (l.drop n) a' w.drew) (l.take n) a) : (Code.region id l.toArray true).wp P Q a w :=
  wp_region_still_tail n hm hB (still_of_quiet (w := w.drew) (fun _ h => h) _ _ h)
end
/-! ### Worlds that differ in some blocks -/
structure Keep (X : Nat → Prop) (w w' : World) : Prop where
  os : w'.os = w.os
  tape : w'.tape = w.tape
  output : w'.output = w.output
  size : w.heap.size ≤ w'.heap.size
  block : ∀ k, k < w.heap.size → ¬ X k → w'.heap[k]? = w.heap[k]?
section
variable {X Y : Nat → Prop} {w w' u : World}
theorem Keep.refl (w : World) : Keep X w w := ⟨rfl, rfl, rfl, Nat.le_refl _, fun _ _ _ => rfl⟩
theorem Keep.trans (h : Keep X w w') (k : Keep X w' u) : Keep X w u :=
  ⟨k.os.trans h.os, k.tape.trans h.tape, k.output.trans h.output, Nat.le_trans h.size k.size, fun i hi hx => (k.block i (Nat.lt_of_lt_of_le hi h.size) hx).trans (h.block i hi hx)⟩
theorem Keep.mono (h : Keep X w w') (hx : ∀ k, k < w.heap.size → X k → Y k) : Keep Y w w' := ⟨h.os, h.tape, h.output, h.size, fun i hi hn => h.block i hi (fun hxi => hn (hx i hi hxi))⟩
theorem Keep.below (h : Below w.heap.size w w') : Keep X w w' := ⟨h.os, h.tape, h.output, h.size, fun i hi _ => h.block i hi⟩
theorem Keep.toBelow (h : Keep X w w') (hx : ∀ k, k < w.heap.size → ¬ X k) : Below w.heap.size w w' := ⟨h.os, h.tape, h.output, h.size, fun i hi => h.block i hi (hx i hi)⟩
theorem Keep.grown {b : Nat} (h : w.grownBy w' (some b)) : Keep (fun k => k = b) w w' := ⟨h.os, h.tape, h.output, h.size, fun i hi hn => h.block i hi (by simpa using hn)⟩
theorem Keep.toGrown {b : Nat} (h : Keep (fun k => k = b) w w') : w.grownBy w' (some b) := ⟨h.os, h.tape, h.output, h.size, fun i hi hn => h.block i hi (by simpa using hn)⟩
theorem Keep.heap (h : Keep X w w') {k : Nat} {o : Obj} (hk : w.heap[k]? = some o) (hx : ¬ X k) : w'.heap[k]? = some o := (h.block k (Array.getElem?_eq_some_iff.1 hk).1 hx).trans hk
theorem Keep.cell (h : Keep X w w') {p : Addr} {v : Value} (hp : w.cell? p = some v) (hx : ¬ X p.block) : w'.cell? p = some v :=
  (World.cell?_of_block (h.block p.block (World.block_lt_of_cell? w _ hp) hx)).trans hp
theorem Keep.range (h : Keep X w w') {b o : Nat} {cs : List Value} (hr : w.rangeAt b o cs) (hx : ¬ X b) : w'.rangeAt b o cs := fun j v hv => h.cell (p := ⟨b, o + j, none⟩) (hr j v hv) hx
theorem Keep.setCell (w : World) (p : Addr) (v : Value) : Keep (fun k => k = p.block) w (w.setCell p v) := Keep.grown (grown_setCell w p v)
end
theorem quiet_eq {P : Program} {f : FuncId} {args : Array Value} {w : World} {n : Nat} {v : Value} (h : Calls P f args (w.drewN n) fun e w' => e = .returned v ∧ w.drewN n = w') : Calls P f args (w.drewN n) fun e w'' => e = .returned v ∧ ∃ m, w'' = w.drewN m :=
  h.mono fun _ _ ⟨he, hm⟩ => ⟨he, n, hm.symm⟩
theorem heap_setCell_same {w : World} {g : Nat} {cur : Array Value} {t : TypeId} {fr : Nat × Nat} (hg : w.heap[g]? = some (.cells cur t fr)) (i : Nat) (v : Value) : (w.setCell ⟨g, i, none⟩ v).heap[g]? = some (.cells (cur.setIfInBounds i v) t fr) := by
  rw [setCell_eq_setRow w g i cur t fr v hg, setRow_heap _ _ _ _ _ _ hg]
theorem heap_setCell_far {w : World} {g b : Nat} (h : g ≠ b) (i : Nat) (v : Value) : (w.setCell ⟨b, i, none⟩ v).heap[g]? = w.heap[g]? := Below.heap_setCell w ⟨b, i, none⟩ v g h
/-- a call of a function that the model runs itself. -/
theorem op_callf {P : Program} {o : Oper} {ρ : Operand → Value} {w : World} (f : FuncId) (xs : List Operand) (ts : Array TypeId) (ho : o.op = .call { callee := .value (.func f), args := xs.toArray, argTypes := ts }) (args : List Value) (hargs : xs.map ρ = args) {n : Next} {w' : World} (h : (callFunc f args.toArray).run P w = .ok n w') (hf : ρ (.func f) = .func (.func f) #[] #[] := by rfl) :
    (execOp ρ o).run P w = .ok n w' := by
  unfold execOp
  simp only [ho, resolve, List.map_toArray, hargs, hf, Deferred.ofValue, invoke, Sem.run_bind, Sem.run_pure, Result.andThen, Array.empty_append, Array.append_empty, h]
/-- the address of a field. -/
theorem run_faddr {P : Program} {o : Oper} {ρ : Operand → Value} {w : World} (t : TypeId) (x : Operand) (i : Nat) (ho : o.op = .fieldAddr t x i) {b f : Nat} (hx : ρ x = .pointer (some ⟨b, f, none⟩)) (fs : Array Field) (ht : P.underlying t = some (.struct fs)) (off : Nat) (fd : Field) (hfd : fs[i]? = some fd) (hoff : fd.offset = off) (n : Nat) (hi : (P.info? fd.type).map (·.size) = some (n + 1)) :
    (execOp ρ o).run P w = .ok (.value (.pointer (some ⟨b, f + off, none⟩))) w := by
  obtain ⟨ie, hie, hsz⟩ := Option.map_eq_some_iff.1 hi
  unfold execOp
  simp [ho, hx, Instr.fieldAt, fieldPlace, sizeOf, typeInfo, hie, hsz, Instr.sureAddr, run_underlying ht, hfd, hoff, Result.andThen, Addr.add_mid]
theorem fresh_keep {X : Nat → Prop} {w wr w' : World} (h : Below w.heap.size w wr) (k : Keep X wr w') (hx : ∀ i, X i → w.heap.size ≤ i) : Below w.heap.size w w' :=
  ⟨k.os.trans h.os, k.tape.trans h.tape, k.output.trans h.output, Nat.le_trans h.size k.size, fun i hi => (k.block i (Nat.lt_of_lt_of_le hi h.size) (fun hxi => absurd (hx i hxi) (by omega))).trans (h.block i hi)⟩
theorem Owns.keep {α : Type} [Enc α] {X : Nat → Prop} {w w' : World} {base : Nat} {e : TypeId} {v : Value} {l : List α} (h : Owns w base e v l) (k : Keep X w w') (hx : ∀ i, v.ownBlock = some i → ¬ X i) : Owns w' base e v l := by
  obtain ⟨h1, h2⟩ := h
  refine ⟨h1, ?_⟩
  rcases h2 with h2 | ⟨g, cap, cur, rfl, hb, hg, h3⟩
  · exact .inl h2
  · exact .inr ⟨g, cap, cur, rfl, hb, k.heap hg (hx g rfl), h3⟩
/-! ### A call through a value -/
theorem run_enter {P : Program} {f : FuncId} {fn : Func} {c : Code} (hf : P.funcs[f]? = some fn) (hname : (fn.name == "runtime.NumGoroutine") = false) (hb : fn.body = some c) (args : Array Value) (w : World) : (callFunc f args).run P w = .ok (.enter f args) w := by
  have hn : ¬ fn.name = "runtime.NumGoroutine" := by simpa using hname
  simp [callFunc, hf, hn, hb]
theorem st_callv {P : Program} {ops : Array Oper} {rest : List Oper} {o : Oper} {a : Act} {w : World} {Q : Exit → Act → World → Prop} (hw : Region.wanted o (yielded ops a.tmps) = true) (f : FuncId) (first cap : Array Value) (x : Operand) (xs : List Operand) (ts : Array TypeId)
    (ho : o.op = .call { callee := .value x, args := xs.toArray, argTypes := ts }) (hx : a.eval x = .func (.func f) first cap) (args : List Value) (hargs : xs.map a.eval = args) (eg : ∀ args w, (callFunc f args).run P w = .ok (.enter f args) w)
    {R : Ending → World → Prop} (h : Calls P f (first ++ args.toArray ++ cap) w R) (hk : ∀ e w', R e w' → ∃ v, e = .returned v ∧ wpList P ops Q rest (a.put o.dst v) w') : wpList P ops Q (o :: rest) a w := by
  refine BigFrame.wpList_want hw fun K hK => ?_
  have hr : (execOp a.eval o).run P w = .ok (.enter f (first ++ args.toArray ++ cap)) w := by
    unfold execOp
    simp only [ho, resolve, hx, Deferred.ofValue, invoke, Sem.run_bind, Sem.run_pure, Result.andThen, List.map_toArray, hargs, eg]
  unfold Oper.wp
  rw [hr]
  refine Calls.mono h (fun e w' he => ?_)
  obtain ⟨v, rfl, h2⟩ := hk e w' he
  exact hK _ _ h2
/-! ### A variable that was made last -/
theorem run_store_new {P : Program} {o : Oper} {ρ : Operand → Value} {w : World} {α : Type} [Enc α] (t : TypeId) (x y : Operand) (ho : o.op = .store t x y) {g : Nat} (hx : ρ x = .pointer (some ⟨g, 0, none⟩)) (hg : g = w.heap.size) (z z0 : α) (hy : ρ y = agg z) (tg : TypeId)
    (hi : (P.info? t).map (·.size) = some (Enc.sz α)) : (execOp ρ o).run P (w.alloc (.cells (Enc.enc z0).toArray tg)) = .ok .skip (w.alloc (.cells (Enc.enc z).toArray tg)) := by
  subst hg
  exact run_store_last t x y ho hx z z0 hy tg hi
theorem setRow_prev (w : World) (c c' : Array Value) (t : TypeId) (o : Obj) : ((w.alloc (.cells c t)).alloc o).setRow w.heap.size c' = (w.alloc (.cells c' t)).alloc o := by
  have hb : ((w.alloc (.cells c t)).alloc o).heap[w.heap.size]? = some (.cells c t) := by rw [heap_alloc_old _ _ (by simp)]; exact heap_alloc_new _ _
  have h1 := setRow_heap _ _ _ c' _ _ hb
  have hh : (((w.alloc (.cells c t)).alloc o).setRow w.heap.size c').heap = ((w.alloc (.cells c' t)).alloc o).heap := by
    apply Array.ext_getElem?
    intro k
    by_cases hk : k = w.heap.size
    · subst hk
      rw [h1, heap_alloc_old _ _ (by simp)]
      exact (heap_alloc_new _ _).symm
    · rw [setRow_other _ _ _ _ hk]
      by_cases h2 : k < w.heap.size
      · rw [heap_alloc_old _ _ (by simp; omega), heap_alloc_old _ _ h2, heap_alloc_old _ _ (by simp; omega), heap_alloc_old _ _ h2]
      · by_cases h3 : k = w.heap.size + 1
        · subst h3
          rw [heap_alloc2_new, heap_alloc2_new]
        · rw [Array.getElem?_eq_none (by simp; omega), Array.getElem?_eq_none (by simp; omega)]
  show ({ ((w.alloc (.cells c t)).alloc o) with heap := (((w.alloc (.cells c t)).alloc o).setRow w.heap.size c').heap } : World) = _
  rw [hh]
  rfl
theorem run_store_prev {P : Program} {o : Oper} {ρ : Operand → Value} {w : World} {α : Type} [Enc α] (t : TypeId) (x y : Operand) (ho : o.op = .store t x y) {g : Nat} (hx : ρ x = .pointer (some ⟨g, 0, none⟩)) (hg : g = w.heap.size) (z z0 : α) (hy : ρ y = agg z) (tg : TypeId) (ob : Obj)
    (hi : (P.info? t).map (·.size) = some (Enc.sz α)) : (execOp ρ o).run P ((w.alloc (.cells (Enc.enc z0).toArray tg)).alloc ob) = .ok .skip ((w.alloc (.cells (Enc.enc z).toArray tg)).alloc ob) := by
  subst hg
  rw [run_store_all t x y ho hx z hy (Enc.enc z0).toArray tg (by rw [heap_alloc_old _ _ (by simp)]; exact heap_alloc_new _ _) (by simp [Enc.len]) hi, setRow_prev]
/-! ### One cell -/
section
variable {P : Program} {o : Oper} {ρ : Operand → Value} {w : World}
theorem not_agg {t : TypeId} {d : TypeDesc} (hu : P.underlying t = some d) (hd : d.isRow = false) (w : World) : (isAgg t).run P w = .ok false w := by
  unfold isAgg
  rw [Sem.run_bind, run_underlying hu w]
  cases d <;> simp_all
theorem run_load1 (t : TypeId) (x : Operand) (ho : o.op = .load t x) {b f : Nat} (hx : ρ x = .pointer (some ⟨b, f, none⟩)) {v : Value} (hc : w.cell? ⟨b, f, none⟩ = some v) (d : TypeDesc) (hu : P.underlying t = some d) (hd : d.isRow = false) :
    (execOp ρ o).run P w = .ok (.value v) w := by
  unfold execOp
  simp only [ho, hx, Instr.loadAt, Instr.sureAddr, loadVar, Sem.run_bind, Sem.run_pure, Result.andThen_ok, not_agg hu hd w]
  simp [hc, Result.andThen]
theorem run_store1 (t : TypeId) (x y : Operand) (ho : o.op = .store t x y) {b f : Nat} (hx : ρ x = .pointer (some ⟨b, f, none⟩)) {v u : Value} (hy : ρ y = v) (hc : w.cell? ⟨b, f, none⟩ = some u) (hf : w.frozen? ⟨b, f, none⟩ = false) (hv : v.cells = #[v]) (h1 : v.oneCell' = true) (hi : (P.info? t).map (·.size) = some 1) :
    (execOp ρ o).run P w = .ok .skip (w.setCell ⟨b, f, none⟩ v) := by
  obtain ⟨i, hi, hs⟩ := Option.map_eq_some_iff.1 hi
  unfold execOp
  simp only [ho, hx, hy, Instr.storeAt, Instr.sureAddr, storeVar, Sem.run_bind, Sem.run_pure, Result.andThen_ok, sizeOf, typeInfo, run_program, hi, hs, hv]
  simp [hc, hf, Result.andThen, storeCells, Addr.add_mid, run_store P w _ v .plain h1, stored]
end

theorem frozen_of_block {w : World} {v : Nat} {cs : Array Value} {t : TypeId} (h : w.heap[v]? = some (.cells cs t)) (i : Nat) : w.frozen? ⟨v, i, none⟩ = false := by
  simp [World.frozen?, h]
theorem run_alloc1 {P : Program} {o : Oper} {ρ : Operand → Value} {w : World} (t : TypeId) (u : Value) (ho : o.op = .alloc t) (hz : (P.info? t).map (·.zero) = some (some u)) (hu : u.cells = #[u]) :
    (execOp ρ o).run P w = .ok (.value (.pointer (some ⟨w.heap.size, 0, none⟩))) (w.alloc (.cells #[u] t)) := by
  obtain ⟨i, hi, hz⟩ := Option.map_eq_some_iff.1 hz
  unfold execOp
  simp [ho, Instr.alloc, zeroValue, typeInfo, hi, hz, newVar, newRow, hu]
theorem run_store1_new {P : Program} {o : Oper} {ρ : Operand → Value} {w : World} (t : TypeId) (x y : Operand) (ho : o.op = .store t x y) {g : Nat} (hx : ρ x = .pointer (some ⟨g, 0, none⟩)) (hg : g = w.heap.size) {v : Value} (hy : ρ y = v) (u : Value) (tg : TypeId) (hv : v.cells = #[v]) (h1 : v.oneCell' = true) (hi : (P.info? t).map (·.size) = some 1) :
    (execOp ρ o).run P (w.alloc (.cells #[u] tg)) = .ok .skip (w.alloc (.cells #[v] tg)) := by
  subst hg
  have hb := heap_alloc_new w (.cells #[u] tg)
  have hc : (w.alloc (.cells #[u] tg)).cell? ⟨w.heap.size, 0, none⟩ = some u := range_block hb 0 _ rfl
  have hf : (w.alloc (.cells #[u] tg)).frozen? ⟨w.heap.size, 0, none⟩ = false := frozen_of_block hb 0
  have h2 := setCell_eq_setRow _ w.heap.size 0 _ _ _ v hb
  rw [World.setRow_alloc_new] at h2
  rw [run_store1 t x y ho hx hy hc hf hv h1 hi, h2]
  rfl
theorem op_neq_map {P : Program} {o : Oper} {ρ : Operand → Value} {w : World} (t ty k e : TypeId) (x y : Operand) (m : Option Nat) (ho : o.op = .binOp .neq t x y ty) (ht : P.underlying t = some (.map k e)) (hx : ρ x = .map m) (hy : ρ y = .map none) :
    (execOp ρ o).run P w = .ok (.value (.bool (!m.isNone))) w := by
  unfold execOp
  have h := run_neq_map_nil (P := P) w t k e m ht
  simp [ho, hx, hy, eqGuard, h, Result.andThen]
theorem op_makeMap {P : Program} {o : Oper} {ρ : Operand → Value} {w : World} (t : TypeId) (ho : o.op = .makeMap t none) : (execOp ρ o).run P w = .ok (.value (.map (some w.heap.size))) (w.alloc (.map #[] 0)) := by
  have h : (Instr.makeMap t none).run P w = .ok (.map (some w.heap.size)) (w.alloc (.map #[] 0)) := rfl
  unfold execOp
  simp [ho, h, Result.andThen]
theorem op_range {P : Program} {o : Oper} {ρ : Operand → Value} {w w' : World} (t : TypeId) (x : Operand) (ho : o.op = .range t x) {mv v : Value} (hx : ρ x = mv) (h : (Instr.range t mv).run P w = .ok v w') : (execOp ρ o).run P w = .ok (.value v) w' := by
  unfold execOp
  simp [ho, hx, h, Result.andThen]
theorem op_next {P : Program} {o : Oper} {ρ : Operand → Value} {w w' : World} (x : Operand) (ho : o.op = .next x false) {mv v : Value} (hx : ρ x = mv) (h : (Instr.next mv false o.type).run P w = .ok v w') : (execOp ρ o).run P w = .ok (.value v) w' := by
  unfold execOp
  simp [ho, hx, h, Result.andThen]
theorem op_entry {P : Program} {o : Oper} {ρ : Operand → Value} {w w' : World} (x : Operand) (ho : o.op = .entry x) {mv v : Value} (hx : ρ x = mv) (h : (Instr.entry mv).run P w = .ok v w') : (execOp ρ o).run P w = .ok (.value v) w' := by
  unfold execOp
  simp [ho, hx, h, Result.andThen]
/-! ### Operations on maps -/
section
variable {K V : Type} [DecidableEq K] {P : Program} {kt et : TypeId} {kv : K → Value} {vv : V → Value} {w w' : World} {b : Nat} {m : List (K × V)} {o : Oper} {ρ : Operand → Value}
theorem op_look2 (C : KeyCode P kt kv) (t : TypeId) (x y : Operand) (ho : o.op = .lookup t x y true) (ht : P.underlying t = some (.map kt et)) (z : Value) (hz : ∀ w, (zeroValue et).run P w = .ok z w) (hx : ρ x = .map (some b)) (k : K) (hy : ρ y = kv k) (h : MapIs w b kv vv m) :
    (execOp ρ o).run P w = .ok (.value (.tuple #[(look m k).elim z vv, .bool (look m k).isSome])) w := by
  unfold execOp
  simp only [ho, hx, hy, Sem.run_bind, run_look C t ht z hz h k true, Result.andThen, Sem.run_pure, if_true]
theorem op_look1 (C : KeyCode P kt kv) (t : TypeId) (x y : Operand) (ho : o.op = .lookup t x y false) (ht : P.underlying t = some (.map kt et)) (z : Value) (hz : ∀ w, (zeroValue et).run P w = .ok z w) (hx : ρ x = .map (some b)) (k : K) (hy : ρ y = kv k) (h : MapIs w b kv vv m) :
    (execOp ρ o).run P w = .ok (.value ((look m k).elim z vv)) w := by
  unfold execOp
  simp only [ho, hx, hy, Sem.run_bind, run_look C t ht z hz h k false, Result.andThen, Sem.run_pure, Bool.false_eq_true, if_false]
theorem op_put (C : KeyCode P kt kv) (t : TypeId) (x y z : Operand) (ho : o.op = .mapUpdate t x y z) (ht : P.underlying t = some (.map kt et)) (hx : ρ x = .map (some b)) (k : K) (hy : ρ y = kv k) (v : V) (hz : ρ z = vv v) (h : MapIs w b kv vv m) :
    ∃ w', (execOp ρ o).run P w = .ok .skip w' ∧ MapIs w' b kv vv (put m k v) ∧ w.grownBy w' (some b) ∧ w'.heap.size = w.heap.size := by
  obtain ⟨w', h1, h2⟩ := run_put C t ht h k v
  refine ⟨w', ?_, h2⟩
  unfold execOp
  simp only [ho, hx, hy, hz, Sem.run_bind, h1, Result.andThen, Sem.run_pure]
theorem op_put' (t : TypeId) (x y z : Operand) (ho : o.op = .mapUpdate t x y z) {mv kx vx : Value} (hx : ρ x = mv) (hy : ρ y = kx) (hz : ρ z = vx) (h : (Instr.mapUpdate t mv kx vx).run P w = .ok () w') : (execOp ρ o).run P w = .ok .skip w' := by
  unfold execOp
  simp only [ho, hx, hy, hz, Sem.run_bind, h, Result.andThen, Sem.run_pure]
theorem op_del' (x y : Operand) (ts : Array TypeId) (ho : o.op = .call { callee := .builtin .delete, args := #[x, y], argTypes := ts }) {mv kx : Value} (hx : ρ x = mv) (hy : ρ y = kx) (h : (Builtin.delete_ ts o.type #[mv, kx]).run P w = .ok (.tuple #[]) w') : (execOp ρ o).run P w = .ok (.value (.tuple #[])) w' := by
  unfold execOp
  simp only [ho, resolve, invoke, builtin, Sem.run_bind, Sem.run_pure, Result.andThen_ok, List.map_toArray, List.map_cons, List.map_nil, hx, hy, h]
theorem op_del (C : KeyCode P kt kv) (t : TypeId) (x y : Operand) (ho : o.op = .call { callee := .builtin .delete, args := #[x, y], argTypes := #[t, kt] }) (ht : P.underlying t = some (.map kt et)) (hx : ρ x = .map (some b)) (k : K) (hy : ρ y = kv k) (h : MapIs w b kv vv m) :
    ∃ w', (execOp ρ o).run P w = .ok (.value (.tuple #[])) w' ∧ MapIs w' b kv vv (del m k) ∧ w.grownBy w' (some b) ∧ w'.heap.size = w.heap.size := by
  obtain ⟨w', h1, h2⟩ := run_del C t o.type ht h k
  refine ⟨w', ?_, h2⟩
  unfold execOp
  simp only [ho, resolve, invoke, builtin, Sem.run_bind, Sem.run_pure, Result.andThen_ok, List.map_toArray, List.map_cons, List.map_nil, hx, hy, h1]
theorem op_len (t : TypeId) (x : Operand) (ho : o.op = .call { callee := .builtin .len, args := #[x], argTypes := #[t] }) (ht : P.underlying t = some (.map kt et)) (hx : ρ x = .map (some b)) (h : MapIs w b kv vv m) :
    (execOp ρ o).run P w = .ok (.value (.int .i64 (m.length : Int))) w := by
  unfold execOp
  simp only [ho, resolve, invoke, builtin, Sem.run_bind, Sem.run_pure, Result.andThen_ok, List.map_toArray, List.map_cons, List.map_nil, hx, run_len t o.type ht h]
end
end Go.Pb
