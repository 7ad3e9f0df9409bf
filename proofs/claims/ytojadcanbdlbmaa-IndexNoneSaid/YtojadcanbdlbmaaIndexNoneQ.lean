/- Proved here: the statement IndexNone ('peatbanklaw22.IndexNone'), for every input, as given: it returns true, and what came in reads as it did. No condition. -/
import Derived.Test.YtojadcanbdlbmaaIndexNoneP
set_option linter.unusedVariables false
namespace Go.Proofs.Ytojadcanbdlbmaa.indexNone
open Go.ChangeShapes Go.WideShapes Go.ChangeAt Go.RowKit Go.Pb
set_option maxHeartbeats 4000000 in
theorem closed : joinedFacts Try.prog 10 Try.f10 Rows.indexNoneSpec Rows.indexNoneRow = true := by
  unfold joinedFacts
  repeat' (with_reducible refine Bool.and_eq_true_iff.2 ⟨?_, ?_⟩)
  all_goals (as_aux_lemma => kernel_rfl)
theorem instOk : Try.f10.isInstance Try.prog Rows.indexNoneRow.origin Rows.indexNoneRow.targs := of_decide_eq_true (by kernel_rfl)
theorem wrapOk : Try.f10.isWrapper Try.prog Rows.indexNoneRow.wrapper Rows.indexNoneRow.mainSum := by
  unfold Func.isWrapper; first | (rw [if_pos (by decide +kernel)]; kernel_rfl) | (rw [if_neg (by decide +kernel)]; exact ⟨rfl, rfl⟩)
theorem namedOk : Try.prog.funcNamed Rows.indexNoneRow.func = some 10 := by kernel_rfl
theorem over : Rows.indexNoneRow.holds Try.pinned (OpenSpec.ofChange Rows.indexNoneSpec) :=
  OpenClaim.holds_of_wide 10 Try.f10 rfl rfl rfl rfl rfl rfl rfl ⟨rfl, rfl, rfl, rfl, rfl⟩ rfl rfl rfl rfl rfl namedOk Try.func10 closed instOk wrapOk
    (fun os started H enc _ => lifted os started H enc)
theorem proved : Rows.IndexNoneSaid := over
#print axioms proved
end Go.Proofs.Ytojadcanbdlbmaa.indexNone
