/- Proved here: the statement RefsCount ('peatbanklaw24.RefsCount'), for every input, as given: it returns true, and what came in reads as it did. No condition. -/
import Derived.Test.YteablbficakfcaaRefsCountP
set_option linter.unusedVariables false
namespace Go.Proofs.Yteablbficakfcaa.refsCount
open Go.ChangeShapes Go.WideShapes Go.ChangeAt Go.RowKit Go.Pb
set_option maxHeartbeats 4000000 in
theorem closed : joinedFacts Try.prog 3 Try.f3 Rows.refsCountSpec Rows.refsCountRow = true := by
  unfold joinedFacts
  repeat' (with_reducible refine Bool.and_eq_true_iff.2 ⟨?_, ?_⟩)
  all_goals (as_aux_lemma => kernel_rfl)
theorem instOk : Try.f3.isInstance Try.prog Rows.refsCountRow.origin Rows.refsCountRow.targs := of_decide_eq_true (by kernel_rfl)
theorem wrapOk : Try.f3.isWrapper Try.prog Rows.refsCountRow.wrapper Rows.refsCountRow.mainSum := by
  unfold Func.isWrapper; first | (rw [if_pos (by decide +kernel)]; kernel_rfl) | (rw [if_neg (by decide +kernel)]; exact ⟨rfl, rfl⟩)
theorem namedOk : Try.prog.funcNamed Rows.refsCountRow.func = some 3 := by kernel_rfl
theorem over : Rows.refsCountRow.holds Try.pinned (OpenSpec.ofChange Rows.refsCountSpec) :=
  OpenClaim.holds_of_wide 3 Try.f3 rfl rfl rfl rfl rfl rfl rfl ⟨rfl, rfl, rfl, rfl, rfl⟩ rfl rfl rfl rfl rfl namedOk Try.func3 closed instOk wrapOk
    (fun os started H enc _ => lifted os started H enc)
theorem proved : Rows.RefsCountSaid := over
#print axioms proved
end Go.Proofs.Yteablbficakfcaa.refsCount
