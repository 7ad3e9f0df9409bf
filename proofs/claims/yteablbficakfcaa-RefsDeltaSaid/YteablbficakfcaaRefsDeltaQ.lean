/- Proved here: the statement RefsDelta ('peatbanklaw24.RefsDelta'), for every input, as given: it returns true, and what came in reads as it did. No condition. -/
import Derived.Test.YteablbficakfcaaRefsDeltaP
set_option linter.unusedVariables false
namespace Go.Proofs.Yteablbficakfcaa.refsDelta
open Go.ChangeShapes Go.WideShapes Go.ChangeAt Go.RowKit Go.Pb
set_option maxHeartbeats 4000000 in
theorem closed : joinedFacts Try.prog 4 Try.f4 Rows.refsDeltaSpec Rows.refsDeltaRow = true := by
  unfold joinedFacts
  repeat' (with_reducible refine Bool.and_eq_true_iff.2 ⟨?_, ?_⟩)
  all_goals (as_aux_lemma => kernel_rfl)
theorem instOk : Try.f4.isInstance Try.prog Rows.refsDeltaRow.origin Rows.refsDeltaRow.targs := of_decide_eq_true (by kernel_rfl)
theorem wrapOk : Try.f4.isWrapper Try.prog Rows.refsDeltaRow.wrapper Rows.refsDeltaRow.mainSum := by
  unfold Func.isWrapper; first | (rw [if_pos (by decide +kernel)]; kernel_rfl) | (rw [if_neg (by decide +kernel)]; exact ⟨rfl, rfl⟩)
theorem namedOk : Try.prog.funcNamed Rows.refsDeltaRow.func = some 4 := by kernel_rfl
theorem over : Rows.refsDeltaRow.holds Try.pinned (OpenSpec.ofChange Rows.refsDeltaSpec) :=
  OpenClaim.holds_of_wide 4 Try.f4 rfl rfl rfl rfl rfl rfl rfl ⟨rfl, rfl, rfl, rfl, rfl⟩ rfl rfl rfl rfl rfl namedOk Try.func4 closed instOk wrapOk
    (fun os started H enc _ => lifted os started H enc)
theorem proved : Rows.RefsDeltaSaid := over
#print axioms proved
end Go.Proofs.Yteablbficakfcaa.refsDelta
