/- A row of three slices, as a literal. -/
import Derived.Test.YteablbficakfcaaRowN
import Derived.Test.YteablbficakfcaaTypes
set_option linter.unusedVariables false
set_option linter.unusedSimpArgs false
set_option linter.unusedSectionVars false
namespace Go.Pb
open Go.RowKit Go.Proofs Go.BigFrame

theorem fill_three (c : Array Value) (hc : c.size = 3) (v0 v1 v2 : Value) (h0 : v0.cells = #[v0]) (h1 : v1.cells = #[v1]) (h2 : v2.cells = #[v2]) : Instr.fill (fun i => some (i * 1, 1)) c [(0, v0), (1, v1), (2, v2)] = some #[v0, v1, v2] := by
  obtain ⟨l⟩ := c
  match l, hc with
  | [x, y, z], _ =>
    rw [fill_cons _ _ 0 0 1 v0 _ rfl (by rw [h0]; rfl) (by simp), h0]
    rw [fill_cons _ _ 1 1 1 v1 _ rfl (by rw [h1]; rfl) (by simp [splice']), h1]
    rw [fill_cons _ _ 2 2 1 v2 _ rfl (by rw [h2]; rfl) (by simp [splice']), h2]
    rw [fill_nil]
    simp [splice']
section
variable {P : Program} {o : Oper} {ρ : Operand → Value} {w : World}
theorem run_row3 (t e : TypeId) (p0 p1 p2 : Operand) (ho : o.op = .buildSlice t 3 #[(0, p0), (1, p1), (2, p2)]) (ht : P.underlying t = some (.slice e)) (z0 : Value) (bytes : Nat) (hinfo : (P.info? e).map (fun i => (i.zero, i.size, i.bytes)) = some (some z0, 1, bytes))
    (v0 v1 v2 : Value) (h0 : ρ p0 = v0) (h1 : ρ p1 = v1) (h2 : ρ p2 = v2) (c0 : v0.cells = #[v0]) (c1 : v1.cells = #[v1]) (c2 : v2.cells = #[v2]) (hz : z0.cells = #[z0]) :
    (execOp ρ o).run P w = .ok (.value (.slice (some ⟨w.heap.size, 0, none⟩) 3 3)) (w.alloc (.cells #[v0, v1, v2] e)) := by
  obtain ⟨i, hi, hi2⟩ := Option.map_eq_some_iff.1 hinfo
  injection hi2 with hz0 hi3
  injection hi3 with hz1 hz2
  unfold execOp
  have hns : ¬ (2 ^ 24 < 3 * 1) := by omega
  have hne : ¬ (3 * 1 = 0) := by omega
  simp only [ho, Instr.buildSlice, Sem.run_bind, run_underlying ht w, Result.andThen_ok, sizeOf, typeInfo, run_program, hi, hz1, Sem.run_pure, gt_iff_lt, hns, if_false, hne, zeroValue, hz0, List.map_toArray, List.map_cons, List.map_nil, h0, h1, h2]
  rw [fill_three _ (by simp [hz]) v0 v1 v2 c0 c1 c2]
  simp [newRow, Result.andThen]
end
theorem icounts : (Try.prog.info? 25).map (fun i => (i.zero, i.size, i.bytes)) = some (some (.slice none 0 0), 1, 24) := by kernel_rfl
theorem scounts : (Try.prog.info? 25).map (·.size) = some 1 := by kernel_rfl
end Go.Pb
