/- Proved here: the statement IndexBack ('peatbanklaw22.IndexBack'), for every input, as given: it returns true, and what came in reads as it did. No condition. -/
import Derived.Test.YteablbficakfcaaIndexBackP
set_option linter.unusedVariables false
namespace Go.Proofs.Yteablbficakfcaa.indexBack
open Go.ChangeShapes Go.WideShapes Go.ChangeAt Go.RowKit Go.Pb
set_option maxHeartbeats 4000000 in
theorem closed : joinedFacts Try.prog 10 Try.f10 Rows.indexBackSpec Rows.indexBackRow = true := by
  unfold joinedFacts
  repeat' (with_reducible refine Bool.and_eq_true_iff.2 ⟨?_, ?_⟩)
  all_goals (as_aux_lemma => kernel_rfl)
theorem instOk : Try.f10.isInstance Try.prog Rows.indexBackRow.origin Rows.indexBackRow.targs := of_decide_eq_true (by kernel_rfl)
theorem wrapOk : Try.f10.isWrapper Try.prog Rows.indexBackRow.wrapper Rows.indexBackRow.mainSum := by
  unfold Func.isWrapper; first | (rw [if_pos (by decide +kernel)]; kernel_rfl) | (rw [if_neg (by decide +kernel)]; exact ⟨rfl, rfl⟩)
theorem namedOk : Try.prog.funcNamed Rows.indexBackRow.func = some 10 := by kernel_rfl
theorem over : Rows.indexBackRow.holds Try.pinned (OpenSpec.ofChange Rows.indexBackSpec) :=
  OpenClaim.holds_of_wide 10 Try.f10 rfl rfl rfl rfl rfl rfl rfl ⟨rfl, rfl, rfl, rfl, rfl⟩ rfl rfl rfl rfl rfl namedOk Try.func10 closed instOk wrapOk
    (fun os started H enc _ => lifted os started H enc)
theorem proved : Rows.IndexBackSaid := over
#print axioms proved
end Go.Proofs.Yteablbficakfcaa.indexBack
