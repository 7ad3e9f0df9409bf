/- Proved here: the statement IndexDoes ('peatbanklaw22.IndexDoes'), for every input, as given: it returns true, and what came in reads as it did. No condition. -/
import Derived.Test.YteablbficakfcaaIndexDoesP
set_option linter.unusedVariables false
namespace Go.Proofs.Yteablbficakfcaa.indexDoes
open Go.ChangeShapes Go.WideShapes Go.ChangeAt Go.RowKit Go.Pb
set_option maxHeartbeats 4000000 in
theorem closed : joinedFacts Try.prog 9 Try.f9 Rows.indexDoesSpec Rows.indexDoesRow = true := by
  unfold joinedFacts
  repeat' (with_reducible refine Bool.and_eq_true_iff.2 ⟨?_, ?_⟩)
  all_goals (as_aux_lemma => kernel_rfl)
theorem instOk : Try.f9.isInstance Try.prog Rows.indexDoesRow.origin Rows.indexDoesRow.targs := of_decide_eq_true (by kernel_rfl)
theorem wrapOk : Try.f9.isWrapper Try.prog Rows.indexDoesRow.wrapper Rows.indexDoesRow.mainSum := by
  unfold Func.isWrapper; first | (rw [if_pos (by decide +kernel)]; kernel_rfl) | (rw [if_neg (by decide +kernel)]; exact ⟨rfl, rfl⟩)
theorem namedOk : Try.prog.funcNamed Rows.indexDoesRow.func = some 9 := by kernel_rfl
theorem over : Rows.indexDoesRow.holds Try.pinned (OpenSpec.ofChange Rows.indexDoesSpec) :=
  OpenClaim.holds_of_wide 9 Try.f9 rfl rfl rfl rfl rfl rfl rfl ⟨rfl, rfl, rfl, rfl, rfl⟩ rfl rfl rfl rfl rfl namedOk Try.func9 closed instOk wrapOk
    (fun os started H enc _ => lifted os started H enc)
theorem proved : Rows.IndexDoesSaid := over
#print axioms proved
end Go.Proofs.Yteablbficakfcaa.indexDoes
