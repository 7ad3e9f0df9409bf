/- Small general laws: results that lie in memory; worlds. Nothing here names the program. -/
import Derived.Test.YteablbficakfcaaHeld
set_option linter.unusedVariables false
set_option linter.unusedSimpArgs false
set_option linter.unusedSectionVars false
namespace Go.Pb
open Go.RowKit

section
variable {P : Program}
theorem results_agg {fn : Func} {p : Tmp} {ty : TypeId} (h : fn.results = #[.cell p ty]) (tmps : Array Value) (w : World) (g : Nat) {α : Type} [Enc α] (z : α) (d : TypeDesc)
    (hp : tmps.getD p undef = .pointer (some ⟨g, 0, none⟩)) (hg : w.rangeAt g 0 (Enc.enc z)) (hu : P.underlying ty = some d) (hd : d.isRow = true) (hi : (P.info? ty).map (·.size) = some (Enc.sz α)) :
    (results fn tmps).run P w = .ok (agg z) w := by
  have hp' : tmps[p]?.getD undef = .pointer (some ⟨g, 0, none⟩) := by simpa using hp
  simp [results, h, hp', asAddr, run_loadVar_mid w g 0 ty (Enc.enc z) d hg hu hd (by rw [Enc.len]; exact hi)]
  rfl
theorem results_agg_tmp {fn : Func} {p u : Tmp} {ty : TypeId} (h : fn.results = #[.cell p ty, .tmp u]) (tmps : Array Value) (w : World) (g : Nat) {α : Type} [Enc α] (z : α) (d : TypeDesc) (v : Value)
    (hp : tmps.getD p undef = .pointer (some ⟨g, 0, none⟩)) (hv : tmps.getD u undef = v) (hg : w.rangeAt g 0 (Enc.enc z)) (hu : P.underlying ty = some d) (hd : d.isRow = true) (hi : (P.info? ty).map (·.size) = some (Enc.sz α)) :
    (results fn tmps).run P w = .ok (.tuple #[agg z, v]) w := by
  have hp' : (asAddr (tmps.getD p undef)).run P w = .ok ⟨g, 0, none⟩ w := by rw [hp]; simp [asAddr]
  rw [results_cell_tmp h, hp']
  simp only [Result.andThen_ok, run_loadVar_mid w g 0 ty (Enc.enc z) d hg hu hd (by rw [Enc.len]; exact hi), hv]
  rfl
end
theorem grown_weak {w w' : World} (h : Below w.heap.size w w') (b : Nat) : w.grownBy w' (some b) := grown_of_fresh h _
end Go.Pb
