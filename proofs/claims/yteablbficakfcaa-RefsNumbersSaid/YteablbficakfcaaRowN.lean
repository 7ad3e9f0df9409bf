/- A row of several elements, as a literal. Nothing here names the program. -/
import Derived.Test.YteablbficakfcaaFill
set_option linter.unusedVariables false
set_option linter.unusedSimpArgs false
set_option linter.unusedSectionVars false
namespace Go.Pb
open Go.RowKit

section
variable {α : Type} [Enc α]
theorem fill_row (zs : List α) : ∀ (pre : List α) (rest : List Value), rest.length = zs.length * Enc.sz α →
    Instr.fill (fun i => some (i * Enc.sz α, Enc.sz α)) (flat pre ++ rest).toArray ((zs.zipIdx pre.length).map (fun p => (p.2, agg p.1))) = some (flat (pre ++ zs)).toArray := by
  induction zs with
  | nil =>
    intro pre rest h
    have : rest = [] := List.eq_nil_of_length_eq_zero (by simpa using h)
    subst this
    simp [fill_nil]
  | cons z zs ih =>
    intro pre rest h
    rw [List.length_cons, Nat.add_mul, Nat.one_mul] at h
    have hz : (agg z).cells.toList = Enc.enc z := rfl
    rw [List.zipIdx_cons, List.map_cons, fill_cons _ _ pre.length (pre.length * Enc.sz α) (Enc.sz α) (agg z) _ rfl (by rw [← Array.length_toList, hz, Enc.len]) (by simp [flat_length]; omega), hz]
    have hs : splice' (flat pre ++ rest) (pre.length * Enc.sz α) (Enc.enc z) = flat (pre ++ [z]) ++ rest.drop (Enc.sz α) := by
      have hr : rest = rest.take (Enc.sz α) ++ rest.drop (Enc.sz α) := (List.take_append_drop _ _).symm
      have := splice_mid (flat pre) (rest.take (Enc.sz α)) (rest.drop (Enc.sz α)) (Enc.enc z) (pre.length * Enc.sz α) (flat_length pre).symm (by rw [Enc.len, List.length_take]; omega)
      rw [← hr] at this
      rw [this, flat_append, flat_single, List.append_assoc]
    have ht : (flat pre ++ rest).toArray.toList = flat pre ++ rest := rfl
    rw [ht, hs]
    have := ih (pre ++ [z]) (rest.drop (Enc.sz α)) (by rw [List.length_drop]; omega)
    rw [List.length_append, List.length_singleton] at this
    rw [this, List.append_assoc]
    rfl
variable {P : Program} {o : Oper} {ρ : Operand → Value} {w : World}
theorem run_rowN (t e : TypeId) (n : Nat) (parts : List (Nat × Operand)) (ho : o.op = .buildSlice t n parts.toArray) (ht : P.underlying t = some (.slice e)) (z0 : α) (bytes : Nat) (hinfo : (P.info? e).map (fun i => (i.zero, i.size, i.bytes)) = some (some (agg z0), Enc.sz α, bytes))
    (zs : List α) (hn : zs.length = n) (hp : (parts.map fun (p : Nat × Operand) => (p.1, ρ p.2)) = zs.zipIdx.map (fun p => (p.2, agg p.1))) (hpos : 0 < n) (hsmall : n * Enc.sz α ≤ 16777216) :
    (execOp ρ o).run P w = .ok (.value (.slice (some ⟨w.heap.size, 0, none⟩) n n)) (w.alloc (.cells (flat zs).toArray e)) := by
  obtain ⟨i, hi, hz0, hz1, hz2⟩ := info_parts hinfo
  have hsz := Enc.pos (α := α)
  have hne : ¬ (n * Enc.sz α = 0) := by
    have := Nat.mul_pos hpos hsz
    omega
  have hns : ¬ (2 ^ 24 < n * Enc.sz α) := by omega
  have hfill : ∀ c : Array Value, c.size = n * Enc.sz α → Instr.fill (fun i => some (i * Enc.sz α, Enc.sz α)) c (zs.zipIdx.map (fun p => (p.2, agg p.1))) = some (flat zs).toArray := by
    intro c hc
    have := fill_row zs [] c.toList (by rw [Array.length_toList, hc, hn])
    simpa [flat] using this
  unfold execOp
  simp only [ho, Instr.buildSlice, Sem.run_bind, run_underlying ht w, Result.andThen_ok, sizeOf, typeInfo, run_program, hi, hz1, Sem.run_pure, gt_iff_lt, hns, if_false, hne, zeroValue, hz0, List.map_toArray, hp]
  rw [hfill _ (by simp)]
  simp [newRow, Result.andThen]
end
end Go.Pb
