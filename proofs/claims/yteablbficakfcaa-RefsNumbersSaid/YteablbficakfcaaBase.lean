/- Words on memory for this family: data with a fixed number of cells, rows that are read, rows that are owned, what a step of a region yields. Nothing here names the program. -/
import Derived.WalkKit
import Derived.WalkLawsBesides
import Derived.WalkSpells
import Derived.Lib.Hide
import Derived.Lib.Bytealg
import Derived.Deep.MidRow
import Derived.Deep.WholeRow
import Derived.Deep.QuietTactic
import Derived.Deep.DeepCutAuto
import Derived.Deep.LoopGhost
import Derived.BigQuiet
import Derived.KernelRfl
import Derived.Maps.AppendAt
import Derived.Maps.RangeRun
import Derived.Maps.Keyed
set_option linter.unusedVariables false
set_option linter.unusedSimpArgs false
set_option linter.unusedSectionVars false
namespace Go.Pb
open Go.RowKit

/-! ### 1. Data of a fixed number of cells -/
class Enc (α : Type) where
  enc : α → List Value
  sz : Nat
  len : ∀ x, (enc x).length = sz
  one : ∀ x, ∀ v ∈ enc x, v.oneCell' = true
  pos : 0 < sz

/-- The value of an aggregate. -/
def agg {α : Type} [Enc α] (x : α) : Value := .agg (Enc.enc x).toArray
def flat {α : Type} [Enc α] (l : List α) : List Value := l.flatMap Enc.enc

section
variable {α : Type} [Enc α]
theorem agg_eq (x : α) : agg x = .agg (Enc.enc x).toArray := rfl
theorem flat_nil : flat ([] : List α) = [] := rfl
theorem flat_cons (x : α) (l : List α) : flat (x :: l) = Enc.enc x ++ flat l := by simp [flat]
theorem flat_append (l m : List α) : flat (l ++ m) = flat l ++ flat m := by simp [flat]
theorem flat_single (x : α) : flat [x] = Enc.enc x := by simp [flat]
theorem flat_length (l : List α) : (flat l).length = l.length * Enc.sz α := by
  induction l with
  | nil => simp [flat]
  | cons x l ih => rw [flat_cons, List.length_append, ih, Enc.len, List.length_cons, Nat.add_mul]; omega
theorem flat_one (l : List α) : ∀ v ∈ flat l, v.oneCell' = true := by
  intro v hv
  obtain ⟨x, _, hx⟩ := List.mem_flatMap.1 hv
  exact Enc.one x v hx
theorem flat_take (l : List α) (n : Nat) : flat (l.take n) = (flat l).take (n * Enc.sz α) := by
  induction l generalizing n with
  | nil => simp [flat]
  | cons x l ih =>
    cases n with
    | zero => simp [flat]
    | succ n =>
      have h1 : (Enc.enc x).take (n * Enc.sz α + Enc.sz α) = Enc.enc x := List.take_of_length_le (by have := Enc.len x; omega)
      have h2 : n * Enc.sz α + Enc.sz α - (Enc.enc x).length = n * Enc.sz α := by have := Enc.len x; omega
      rw [List.take_succ_cons, flat_cons, flat_cons, ih, Nat.add_mul, Nat.one_mul, List.take_append, h1, h2]
theorem flat_drop (l : List α) (n : Nat) : flat (l.drop n) = (flat l).drop (n * Enc.sz α) := by
  induction l generalizing n with
  | nil => simp [flat]
  | cons x l ih =>
    cases n with
    | zero => simp
    | succ n =>
      have h1 : (Enc.enc x).drop (n * Enc.sz α + Enc.sz α) = [] := List.drop_of_length_le (by have := Enc.len x; omega)
      have h2 : n * Enc.sz α + Enc.sz α - (Enc.enc x).length = n * Enc.sz α := by have := Enc.len x; omega
      rw [List.drop_succ_cons, flat_cons, ih, Nat.add_mul, Nat.one_mul, List.drop_append, h1, h2, List.nil_append]
/-- Element k's cells among all. -/
theorem flat_get (l : List α) (k : Nat) (hk : k < l.length) (j : Nat) (hj : j < Enc.sz α) : (flat l)[k * Enc.sz α + j]? = (Enc.enc l[k])[j]? := by
  have h : flat (l.drop k) = Enc.enc l[k] ++ flat (l.drop (k + 1)) := by rw [List.drop_eq_getElem_cons hk, flat_cons]
  rw [flat_drop] at h
  have h2 := congrArg (fun L => L[j]?) h
  simp only [List.getElem?_drop] at h2
  rw [h2, List.getElem?_append_left (by rw [Enc.len]; exact hj)]
end

/-! ### 2. Ranges of cells -/
section
variable {w w' : World} {b o : Nat} {cs : List Value}
theorem range_below {B : Nat} (h : w.rangeAt b o cs) (hb : Below B w w') (hB : b < B) : w'.rangeAt b o cs := fun j v hv => (hb.cell (p := ⟨b, o + j, none⟩) hB).trans (h j v hv)
theorem range_lt (h : w.rangeAt b o cs) (hne : cs ≠ []) : b < w.heap.size := by
  cases cs with
  | nil => exact absurd rfl hne
  | cons v r => exact World.block_lt_of_cell? w _ (h 0 v rfl)
theorem range_fresh (h : w.rangeAt b o cs) (hb : Below w.heap.size w w') : w'.rangeAt b o cs := fun j v hv => by
  have := h j v hv
  exact (hb.cell (p := ⟨b, o + j, none⟩) (World.block_lt_of_cell? w _ this)).trans this
theorem range_sub (h : w.rangeAt b o cs) (i n : Nat) : w.rangeAt b (o + i) ((cs.drop i).take n) := fun j v hv => by
  rw [List.getElem?_take] at hv
  split at hv
  · rw [List.getElem?_drop] at hv
    rw [Nat.add_assoc]
    exact h _ v hv
  · cases hv
theorem range_drewN (h : w.rangeAt b o cs) (n : Nat) : (w.drewN n).rangeAt b o cs := h
theorem range_grown {row : Option Nat} (h : w.rangeAt b o cs) (hg : w.grownBy w' row) (hne : some b ≠ row) : w'.rangeAt b o cs := fun j v hv => hg.cell (h j v hv) hne
theorem range_block {c : Array Value} {t : TypeId} {fr : Nat × Nat} (h : w.heap[b]? = some (.cells c t fr)) : w.rangeAt b 0 c.toList := fun j v hv => by
  rw [cell_of_row w b _ c t fr h]
  simpa using hv
end

/-! ### 3. A slice that is read; nil and empty ones let in -/
section
variable {α : Type} [Enc α]
def Reads (w : World) (A : Option Addr) (l : List α) : Prop := l ≠ [] → ∃ b o, A = some ⟨b, o, none⟩ ∧ w.rangeAt b o (flat l)
variable {w w' : World} {A : Option Addr} {l : List α}
theorem Reads.fresh (h : Reads w A l) (hb : Below w.heap.size w w') : Reads w' A l := fun hne => by
  obtain ⟨b, o, e, hr⟩ := h hne
  exact ⟨b, o, e, range_fresh hr hb⟩
theorem Reads.alloc (h : Reads w A l) (ob : Obj) : Reads (w.alloc ob) A l := fun hne => by
  obtain ⟨b, o, e, hr⟩ := h hne
  exact ⟨b, o, e, World.rangeAt_alloc hr ob⟩
theorem Reads.drew (h : Reads w A l) : Reads w.drew A l := h
theorem Reads.drewN (h : Reads w A l) (n : Nat) : Reads (w.drewN n) A l := h
theorem Reads.nil (w : World) (A : Option Addr) : Reads w A ([] : List α) := fun h => absurd rfl h
theorem Reads.at_ (h : Reads w A l) {k : Nat} (hk : k < l.length) : ∃ b o, A = some ⟨b, o, none⟩ ∧ w.rangeAt b (o + k * Enc.sz α) (Enc.enc l[k]) := by
  have hne : l ≠ [] := by intro e; subst e; simp at hk
  obtain ⟨b, o, e, hr⟩ := h hne
  refine ⟨b, o, e, fun j v hv => ?_⟩
  have hj : j < Enc.sz α := by
    have := (List.getElem?_eq_some_iff.1 hv).1
    rwa [Enc.len] at this
  rw [Nat.add_assoc]
  exact hr _ v (by rw [flat_get l k hk j hj]; exact hv)
theorem Reads.at_n (h : Reads w A l) {k : Nat} (hk : k < l.length) (n : Nat) (hn : Enc.sz α = n) : ∃ b o, A = some ⟨b, o, none⟩ ∧ w.rangeAt b (o + k * n) (Enc.enc l[k]) := by
  subst hn
  exact h.at_ hk
theorem Reads.grown {row : Option Nat} (h : Reads w A l) (hg : w.grownBy w' row) (hne : ∀ a, A = some a → some a.block ≠ row) : Reads w' A l := fun h0 => by
  obtain ⟨b, o, e, hr⟩ := h h0
  exact ⟨b, o, e, range_grown hr hg (hne _ e)⟩
end

/-! ### 4. A slice that is owned -/
section
variable {α : Type} [Enc α]
/-- The slice value v owns the row of l; its block is of type e, from base on. -/
def Owns (w : World) (base : Nat) (e : TypeId) (v : Value) (l : List α) : Prop := w.ownsRow base e (Enc.sz α) v l.length (flat l)
variable {w w' : World} {base : Nat} {e : TypeId} {v : Value} {l : List α}
theorem Owns.nil (w : World) (base : Nat) (e : TypeId) : Owns w base e (.slice none 0 0) ([] : List α) := World.ownsRow_nil _ _ _ _
theorem Owns.fresh (h : Owns w base e v l) (hb : Below w.heap.size w w') : Owns w' base e v l :=
  World.ownsRow.kept h ⟨hb.os, hb.tape, hb.output, hb.size, fun k hk _ => hb.block k hk⟩ (row := none) (by cases v.ownBlock <;> simp)
theorem Owns.alloc (h : Owns w base e v l) (o : Obj) : Owns (w.alloc o) base e v l := World.ownsRow.alloc h o
theorem Owns.drew (h : Owns w base e v l) : Owns w.drew base e v l := h
theorem Owns.drewN (h : Owns w base e v l) (n : Nat) : Owns (w.drewN n) base e v l := h
theorem Owns.lower (h : Owns w base e v l) {base' : Nat} (hb : base' ≤ base) : Owns w base' e v l := by
  obtain ⟨h1, h2⟩ := h
  refine ⟨h1, ?_⟩
  rcases h2 with h2 | ⟨g, cap, cur, rfl, hg, r⟩
  · exact .inl h2
  · exact .inr ⟨g, cap, cur, rfl, Nat.le_trans hb hg, r⟩
/-- Its shape, and what may be read of it. -/
theorem Owns.shape (h : Owns w base e v l) : ∃ A c, v = .slice A l.length c ∧ Reads w A l ∧ l.length ≤ c := by
  obtain ⟨h1, h2⟩ := h
  rcases h2 with ⟨rfl, h0⟩ | ⟨g, cap, cur, rfl, hg, hh, hnc, _, hs, ht⟩
  · have : l = [] := List.eq_nil_of_length_eq_zero h0
    subst this
    exact ⟨none, 0, rfl, Reads.nil _ _, Nat.le_refl _⟩
  · refine ⟨_, cap, rfl, fun _ => ⟨g, 0, rfl, fun j u hu => ?_⟩, hnc⟩
    rw [cell_of_row w g _ cur e (0, 0) hh]
    rw [← ht, List.getElem?_take] at hu
    split at hu
    · simpa using hu
    · cases hu
theorem Owns.len_max (h : Owns w base e v l) : l.length ≤ maxLen := by
  rcases h.2 with ⟨_, h0⟩ | ⟨g, cap, cur, _, _, _, hnc, hm, _⟩
  · omega
  · omega
theorem Owns.block (h : Owns w base e v l) : ∀ k, v.ownBlock = some k → base ≤ k ∧ k < w.heap.size := World.ownsRow.lt h
/-- A literal, or what append has laid anew: a new block that holds just these. -/
theorem Owns.lit (w : World) (base : Nat) (e : TypeId) (l : List α) (hb : base ≤ w.heap.size) (hm : l.length ≤ maxLen) :
    Owns (w.alloc (.cells (flat l).toArray e)) base e (.slice (some ⟨w.heap.size, 0, none⟩) l.length l.length) l := by
  have h := World.ownsRow_lit (base := base) (e := e) (size := Enc.sz α) w (flat l).toArray l.length hb hm (by simp [flat_length])
  simpa [Owns] using h
end

/-! ### 5. What one operation yields; plain regions and quiet ones -/
section
variable {P : Program} {ops : Array Oper} {rest : List Oper} {o : Oper} {a : Act} {w w' : World} {Q : Exit → Act → World → Prop} {v : Value}
/-- The operation yields v and leaves the world alone. -/
theorem wp_val (hgd : o.guard = none) (h : (execOp a.eval o).run P w = .ok (.value v) w) (hk : wpList P ops Q rest (a.put o.dst v) w) : wpList P ops Q (o :: rest) a w :=
  wpList_plain hgd fun K hK => by unfold Oper.wp; rw [h]; exact hK _ _ hk
/-- .. and turns it. -/
theorem wp_turn (hgd : o.guard = none) (h : (execOp a.eval o).run P w = .ok (.value v) w') (hk : wpList P ops Q rest (a.put o.dst v) w') : wpList P ops Q (o :: rest) a w :=
  wpList_plain hgd fun K hK => by unfold Oper.wp; rw [h]; exact hK _ _ hk
theorem wp_skip' (hgd : o.guard = none) (h : (execOp a.eval o).run P w = .ok .skip w') (hk : wpList P ops Q rest (a.put o.dst undef) w') : wpList P ops Q (o :: rest) a w :=
  wpList_plain hgd fun K hK => by unfold Oper.wp; rw [h]; exact hK _ _ hk
theorem wq_val {C : World → Prop} {Q : Act → Prop} (hgd : o.guard = none) (h : ∀ w, C w → (execOp a.eval o).run P w = .ok (.value v) w) (hk : wpQuiet P ops C Q rest (a.put o.dst v)) : wpQuiet P ops C Q (o :: rest) a :=
  wpQuiet_step fun K hK => by
    rw [if_pos (by simp [Region.wanted, hgd])]
    exact ⟨v, fun w hw => by unfold Oper.quietAt; rw [h w hw]; exact ⟨rfl, rfl⟩, hK _ hk⟩
end

section
variable {P : Program} {o : Oper} {ρ : Operand → Value} {w : World}
/-- load of an aggregate. -/
theorem run_load (t : TypeId) (x : Operand) (ho : o.op = .load t x) {b f : Nat} (hx : ρ x = .pointer (some ⟨b, f, none⟩)) {α : Type} [Enc α] (y : α) (hc : w.rangeAt b f (Enc.enc y))
    (d : TypeDesc) (hu : P.underlying t = some d) (hd : d.isRow = true) (hi : (P.info? t).map (·.size) = some (Enc.sz α)) : (execOp ρ o).run P w = .ok (.value (agg y)) w := by
  unfold execOp
  simp only [ho, hx, Sem.run_bind, run_loadAt_mid w b f t (Enc.enc y) d hc hu hd (by rw [Enc.len]; exact hi), Result.andThen, Sem.run_pure]
  rfl
/-- the address of an element of a slice. -/
theorem run_elem (t e : TypeId) (x i : Operand) (ho : o.op = .indexAddr t x i) (ht : P.underlying t = some (.slice e)) (k : Nat) (hi : (P.info? e).map (·.size) = some k)
    {b f n c : Nat} (hx : ρ x = .slice (some ⟨b, f, none⟩) n c) {ki : IntKind} (j : Nat) (hj : ρ i = .int ki (j : Int)) (hlt : j < n) :
    (execOp ρ o).run P w = .ok (.value (.pointer (some ⟨b, f + j * k, none⟩))) w := by
  obtain ⟨ie, hie, hsz⟩ := Option.map_eq_some_iff.1 hi
  have hlt' : (0 : Int) ≤ (j : Int) ∧ (j : Int) < (n : Int) := ⟨by omega, by omega⟩
  unfold execOp
  simp only [ho, hx, hj, Instr.indexAt, asIntOf, Sem.run_bind, Sem.run_pure, Result.andThen, run_underlying ht w]
  simp [hlt', sizeOf, typeInfo, hie, hsz, Addr.add_mid, hlt]
/-- a field of an aggregate: an aggregate. -/
theorem run_field_agg (t : TypeId) (x : Operand) (f : Nat) (ho : o.op = .field t x f) {C : Array Value} (hx : ρ x = .agg C) (fs : Array Field) (ht : P.underlying t = some (.struct fs)) (fd : Field) (hf : fs[f]? = some fd)
    (d : TypeDesc) (hu : P.underlying fd.type = some d) (hd : d.isRow = true) (k : Nat) (hi : (P.info? fd.type).map (·.size) = some k) :
    (execOp ρ o).run P w = .ok (.value (.agg (C.extract fd.offset (fd.offset + k)))) w := by
  obtain ⟨ie, hie, hsz⟩ := Option.map_eq_some_iff.1 hi
  have hagg : (isAgg fd.type).run P w = .ok true w := by
    unfold isAgg
    rw [Sem.run_bind, run_underlying hu w]
    cases d <;> simp_all
  unfold execOp
  simp only [ho, hx, Instr.field, part, asAgg, Sem.run_bind, Sem.run_pure, Result.andThen, run_underlying ht w, hf, hagg]
  simp [sizeOf, typeInfo, hie, hsz]
/-- a field of an aggregate: one cell. -/
theorem run_field_one (t : TypeId) (x : Operand) (f : Nat) (ho : o.op = .field t x f) {C : Array Value} (hx : ρ x = .agg C) (fs : Array Field) (ht : P.underlying t = some (.struct fs)) (fd : Field) (hf : fs[f]? = some fd)
    (d : TypeDesc) (hu : P.underlying fd.type = some d) (hd : d.isRow = false) (v : Value) (hv : C[fd.offset]? = some v) :
    (execOp ρ o).run P w = .ok (.value v) w := by
  have hagg : (isAgg fd.type).run P w = .ok false w := by
    unfold isAgg
    rw [Sem.run_bind, run_underlying hu w]
    cases d <;> simp_all
  unfold execOp
  simp only [ho, hx, Instr.field, part, asAgg, Sem.run_bind, Sem.run_pure, Result.andThen, run_underlying ht w, hf, hagg]
  simp [hv]
end

end Go.Pb
