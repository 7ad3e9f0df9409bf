/- Proved here: the statement IndexOrders ('peatbanklaw22.IndexOrders'), for every input, as given: it returns true, and what came in reads as it did. No condition. -/
import Derived.Test.YteablbficakfcaaIndexOrdersP
set_option linter.unusedVariables false
namespace Go.Proofs.Yteablbficakfcaa.indexOrders
open Go.ChangeShapes Go.WideShapes Go.ChangeAt Go.RowKit Go.Pb
set_option maxHeartbeats 4000000 in
theorem closed : joinedFacts Try.prog 8 Try.f8 Rows.indexOrdersSpec Rows.indexOrdersRow = true := by
  unfold joinedFacts
  repeat' (with_reducible refine Bool.and_eq_true_iff.2 ⟨?_, ?_⟩)
  all_goals (as_aux_lemma => kernel_rfl)
theorem instOk : Try.f8.isInstance Try.prog Rows.indexOrdersRow.origin Rows.indexOrdersRow.targs := of_decide_eq_true (by kernel_rfl)
theorem wrapOk : Try.f8.isWrapper Try.prog Rows.indexOrdersRow.wrapper Rows.indexOrdersRow.mainSum := by
  unfold Func.isWrapper; first | (rw [if_pos (by decide +kernel)]; kernel_rfl) | (rw [if_neg (by decide +kernel)]; exact ⟨rfl, rfl⟩)
theorem namedOk : Try.prog.funcNamed Rows.indexOrdersRow.func = some 8 := by kernel_rfl
theorem over : Rows.indexOrdersRow.holds Try.pinned (OpenSpec.ofChange Rows.indexOrdersSpec) :=
  OpenClaim.holds_of_wide 8 Try.f8 rfl rfl rfl rfl rfl rfl rfl ⟨rfl, rfl, rfl, rfl, rfl⟩ rfl rfl rfl rfl rfl namedOk Try.func8 closed instOk wrapOk
    (fun os started H enc _ => lifted os started H enc)
theorem proved : Rows.IndexOrdersSaid := over
#print axioms proved
end Go.Proofs.Yteablbficakfcaa.indexOrders
