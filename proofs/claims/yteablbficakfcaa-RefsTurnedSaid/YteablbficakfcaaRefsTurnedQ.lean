/- Proved here: the statement RefsTurned ('peatbanklaw24.RefsTurned'), for every input, as given: it returns true, and what came in reads as it did. No condition. -/
import Derived.Test.YteablbficakfcaaRefsTurnedP
set_option linter.unusedVariables false
namespace Go.Proofs.Yteablbficakfcaa.refsTurned
open Go.ChangeShapes Go.WideShapes Go.ChangeAt Go.RowKit Go.Pb
set_option maxHeartbeats 4000000 in
theorem closed : joinedFacts Try.prog 7 Try.f7 Rows.refsTurnedSpec Rows.refsTurnedRow = true := by
  unfold joinedFacts
  repeat' (with_reducible refine Bool.and_eq_true_iff.2 ⟨?_, ?_⟩)
  all_goals (as_aux_lemma => kernel_rfl)
theorem instOk : Try.f7.isInstance Try.prog Rows.refsTurnedRow.origin Rows.refsTurnedRow.targs := of_decide_eq_true (by kernel_rfl)
theorem wrapOk : Try.f7.isWrapper Try.prog Rows.refsTurnedRow.wrapper Rows.refsTurnedRow.mainSum := by
  unfold Func.isWrapper; first | (rw [if_pos (by decide +kernel)]; kernel_rfl) | (rw [if_neg (by decide +kernel)]; exact ⟨rfl, rfl⟩)
theorem namedOk : Try.prog.funcNamed Rows.refsTurnedRow.func = some 7 := by kernel_rfl
theorem over : Rows.refsTurnedRow.holds Try.pinned (OpenSpec.ofChange Rows.refsTurnedSpec) :=
  OpenClaim.holds_of_wide 7 Try.f7 rfl rfl rfl rfl rfl rfl rfl ⟨rfl, rfl, rfl, rfl, rfl⟩ rfl rfl rfl rfl rfl namedOk Try.func7 closed instOk wrapOk
    (fun os started H enc _ => lifted os started H enc)
theorem proved : Rows.RefsTurnedSaid := over
#print axioms proved
end Go.Proofs.Yteablbficakfcaa.refsTurned
