/- Proved here: the statement RefsSums ('peatbanklaw24.RefsSums'), for every input, as given: it returns true, and what came in reads as it did. No condition. -/
import Derived.Test.YteablbficakfcaaRefsSumsP
set_option linter.unusedVariables false
namespace Go.Proofs.Yteablbficakfcaa.refsSums
open Go.ChangeShapes Go.WideShapes Go.ChangeAt Go.RowKit Go.Pb
set_option maxHeartbeats 4000000 in
theorem closed : joinedFacts Try.prog 6 Try.f6 Rows.refsSumsSpec Rows.refsSumsRow = true := by
  unfold joinedFacts
  repeat' (with_reducible refine Bool.and_eq_true_iff.2 ⟨?_, ?_⟩)
  all_goals (as_aux_lemma => kernel_rfl)
theorem instOk : Try.f6.isInstance Try.prog Rows.refsSumsRow.origin Rows.refsSumsRow.targs := of_decide_eq_true (by kernel_rfl)
theorem wrapOk : Try.f6.isWrapper Try.prog Rows.refsSumsRow.wrapper Rows.refsSumsRow.mainSum := by
  unfold Func.isWrapper; first | (rw [if_pos (by decide +kernel)]; kernel_rfl) | (rw [if_neg (by decide +kernel)]; exact ⟨rfl, rfl⟩)
theorem namedOk : Try.prog.funcNamed Rows.refsSumsRow.func = some 6 := by kernel_rfl
theorem over : Rows.refsSumsRow.holds Try.pinned (OpenSpec.ofChange Rows.refsSumsSpec) :=
  OpenClaim.holds_of_wide 6 Try.f6 rfl rfl rfl rfl rfl rfl rfl ⟨rfl, rfl, rfl, rfl, rfl⟩ rfl rfl rfl rfl rfl namedOk Try.func6 closed instOk wrapOk
    (fun os started H enc _ => lifted os started H enc)
theorem proved : Rows.RefsSumsSaid := over
#print axioms proved
end Go.Proofs.Yteablbficakfcaa.refsSums
