/- Proved here: the statement RefsNumbers ('peatbanklaw24.RefsNumbers'), a closed one, as given: it returns true. No condition. -/
import Derived.Test.YteablbficakfcaaRefsNumbersP
set_option linter.unusedVariables false
namespace Go.Proofs.Yteablbficakfcaa.refsNumbers
open Go.ChangeShapes Go.WideShapes Go.ChangeAt Go.RowKit Go.Pb
set_option maxHeartbeats 4000000 in
theorem closed : joinedFacts Try.prog 5 Try.f5 Rows.refsNumbersSpec Rows.refsNumbersRow = true := by
  unfold joinedFacts
  repeat' (with_reducible refine Bool.and_eq_true_iff.2 ⟨?_, ?_⟩)
  all_goals (as_aux_lemma => kernel_rfl)
theorem instOk : Try.f5.isInstance Try.prog Rows.refsNumbersRow.origin Rows.refsNumbersRow.targs := of_decide_eq_true (by kernel_rfl)
theorem wrapOk : Try.f5.isWrapper Try.prog Rows.refsNumbersRow.wrapper Rows.refsNumbersRow.mainSum := by
  unfold Func.isWrapper; first | (rw [if_pos (by decide +kernel)]; kernel_rfl) | (rw [if_neg (by decide +kernel)]; exact ⟨rfl, rfl⟩)
theorem namedOk : Try.prog.funcNamed Rows.refsNumbersRow.func = some 5 := by kernel_rfl
theorem over : Rows.refsNumbersRow.holds Try.pinned (OpenSpec.ofChange Rows.refsNumbersSpec) :=
  OpenClaim.holds_of_wide 5 Try.f5 rfl rfl rfl rfl rfl rfl rfl ⟨rfl, rfl, rfl, rfl, rfl⟩ rfl rfl rfl rfl rfl namedOk Try.func5 closed instOk wrapOk
    (fun os started H enc _ => lifted os started H enc)
theorem proved : Rows.RefsNumbersSaid := over
#print axioms proved
end Go.Proofs.Yteablbficakfcaa.refsNumbers
