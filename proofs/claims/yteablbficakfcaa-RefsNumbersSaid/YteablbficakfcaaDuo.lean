/- Two rows, as a literal row of slices. Nothing here names the program. -/
import Derived.Test.YteablbficakfcaaFlatL
import Derived.Test.YteablbficakfcaaFill
set_option linter.unusedVariables false
set_option linter.unusedSimpArgs false
set_option linter.unusedSectionVars false
namespace Go.Pb
open Go.RowKit

def duo {β : Type} (x y : β) : Nat → β := fun i => if i = 0 then x else y
section
variable {α : Type} [Enc α] {w : World} {base : Nat} {e : TypeId} {sa sb : Sl} {la lb : List α}
theorem duo_lsl : ∀ i, i < 2 → [sa, sb][i]? = some (duo sa sb i) := fun i hi => by
  match i, hi with
  | 0, _ => rfl
  | 1, _ => rfl
theorem duo_own (ha : Owns w base e sa.val la) (hb : Owns w base e sb.val lb) : ∀ i, i < 2 → Owns w base e (duo sa sb i).val (duo la lb i) := fun i hi => by
  match i, hi with
  | 0, _ => exact ha
  | 1, _ => exact hb
theorem duo_dis (h : ∀ g, sa.own = some g → sb.own ≠ some g) : ∀ i j g, i < 2 → j < 2 → (duo sa sb i).own = some g → (duo sa sb j).own = some g → i = j := fun i j g hi hj h1 h2 => by
  match i, hi, j, hj with
  | 0, _, 0, _ => rfl
  | 1, _, 1, _ => rfl
  | 0, _, 1, _ => exact absurd h2 (h g h1)
  | 1, _, 0, _ => exact absurd h1 (h g h2)
theorem duo_len {na nb : Nat} (ha : la.length = na) (hb : lb.length = nb) : ∀ i, i < 2 → (duo la lb i).length = duo na nb i := fun i hi => by
  match i, hi with
  | 0, _ => exact ha
  | 1, _ => exact hb
theorem duo_le {na nb m : Nat} (ha : na ≤ m) (hb : nb ≤ m) : ∀ i, i < 2 → duo na nb i ≤ m := fun i hi => by
  match i, hi with
  | 0, _ => exact ha
  | 1, _ => exact hb
theorem duo_in {g B : Nat} (ha : ∀ g, sa.own = some g → B ≤ g) (hb : ∀ g, sb.own = some g → B ≤ g) (h : InV 2 (duo sa sb) g) : B ≤ g := by
  obtain ⟨i, hi, h⟩ := h
  match i, hi with
  | 0, _ => exact ha g h
  | 1, _ => exact hb g h
/-- Two rows that were made one behind the other lie apart. -/
theorem duo_apart {w1 : World} {b1 b2 : Nat} (h1 : Owns w1 b1 e sa.val la) (h2 : Owns w b2 e sb.val lb) (hb : w1.heap.size ≤ b2) : ∀ g, sa.own = some g → sb.own ≠ some g := fun g ha hb' => by
  have := (h1.block g ha).2
  have := (h2.block g hb').1
  omega
end
theorem fill_two2 (c : Array Value) (hc : c.size = 2) (v0 v1 : Value) (h0 : v0.cells = #[v0]) (h1 : v1.cells = #[v1]) : Instr.fill (fun i => some (i * 1, 1)) c [(0, v0), (1, v1)] = some #[v0, v1] := by
  obtain ⟨l⟩ := c
  match l, hc with
  | [x, y], _ =>
    rw [fill_cons _ _ 0 0 1 v0 _ rfl (by rw [h0]; rfl) (by simp), h0]
    rw [fill_cons _ _ 1 1 1 v1 _ rfl (by rw [h1]; rfl) (by simp [splice']), h1]
    rw [fill_nil]
    simp [splice']
section
variable {P : Program} {o : Oper} {ρ : Operand → Value} {w : World}
theorem run_duo (t e : TypeId) (p0 p1 : Operand) (ho : o.op = .buildSlice t 2 #[(0, p0), (1, p1)]) (ht : P.underlying t = some (.slice e)) (bytes : Nat) (hinfo : (P.info? e).map (fun i => (i.zero, i.size, i.bytes)) = some (some (.slice none 0 0), 1, bytes))
    (sa sb : Sl) (h0 : ρ p0 = sa.val) (h1 : ρ p1 = sb.val) :
    (execOp ρ o).run P w = .ok (.value (.slice (some ⟨w.heap.size, 0, none⟩) 2 2)) (w.alloc (.cells (flat [sa, sb]).toArray e)) := by
  obtain ⟨i, hi, hi2⟩ := Option.map_eq_some_iff.1 hinfo
  injection hi2 with hz0 hi3
  injection hi3 with hz1 hz2
  unfold execOp
  have hns : ¬ (2 ^ 24 < 2 * 1) := by omega
  have hne : ¬ (2 * 1 = 0) := by omega
  simp only [ho, Instr.buildSlice, Sem.run_bind, run_underlying ht w, Result.andThen_ok, sizeOf, typeInfo, run_program, hi, hz1, Sem.run_pure, gt_iff_lt, hns, if_false, hne, zeroValue, hz0, List.map_toArray, List.map_cons, List.map_nil, h0, h1]
  rw [fill_two2 _ (by simp [Value.cells]) sa.val sb.val rfl rfl]
  simp [newRow, Result.andThen]
  rfl
end
end Go.Pb
