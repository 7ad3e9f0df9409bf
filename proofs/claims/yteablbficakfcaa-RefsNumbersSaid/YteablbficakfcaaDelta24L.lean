/- The document's Delta, plain. -/
import Derived.Test.YteablbficakfcaaAdd24L
set_option linter.unusedVariables false
set_option linter.unusedSimpArgs false
set_option linter.unusedSectionVars false
namespace Go.Pb
open Go.RowKit

theorem wrap_wrap (n : Int) : wrap64 (wrap64 n) = wrap64 n := by unfold wrap64; omega
theorem bump_neg (m : List (Key × Int)) (k : Key) (n : Int) : bump m k (wrap64 (-n)) = drop_ m k n := by
  unfold bump drop_
  have : wrap64 ((look m k).getD 0 + wrap64 (-n)) = wrap64 ((look m k).getD 0 - n) := by unfold wrap64; omega
  rw [this]
def downRow (L : List Count) (a : List Count) : List Count := a.foldl (fun L c => addC L c.key (wrap64 (-c.refs))) L
def upRow (L : List Count) (a : List Count) : List Count := a.foldl (fun L c => addC L c.key c.refs) L
def deltaRow (a b : List Count) : List Count := (upRow (downRow [] a) b).filter (fun c => !decide (c.refs = 0))
theorem downRow_take (L : List Count) (l : List Count) (k : Nat) (h : k < l.length) : downRow L (l.take (k + 1)) = addC (downRow L (l.take k)) l[k].key (wrap64 (-l[k].refs)) := by
  rw [List.take_succ_eq_append_getElem h]
  unfold downRow
  rw [List.foldl_append]
  rfl
theorem upRow_take (L : List Count) (l : List Count) (k : Nat) (h : k < l.length) : upRow L (l.take (k + 1)) = addC (upRow L (l.take k)) l[k].key l[k].refs := by
  rw [List.take_succ_eq_append_getElem h]
  unfold upRow
  rw [List.foldl_append]
  rfl
theorem downRow_tells (a : List Count) : ∀ (m : List (Key × Int)) (L : List Count), TellsC m L → TellsC (downMap m a) (downRow L a) := by
  induction a with
  | nil => intro m L h; exact h
  | cons c a ih =>
    intro m L h
    have h1 := addC_tells h c.key (wrap64 (-c.refs)) (wrap_wrap _)
    rw [bump_neg] at h1
    exact ih _ _ h1
theorem upRow_tells (a : List Count) (ha : ∀ c ∈ a, inR c.refs) : ∀ (m : List (Key × Int)) (L : List Count), TellsC m L → TellsC (upMap m a) (upRow L a) := by
  induction a with
  | nil => intro m L h; exact h
  | cons c a ih =>
    intro m L h
    exact ih (fun d hd => ha d (by simp [hd])) _ _ (addC_tells h c.key c.refs (wrap_in' (ha c (by simp))))
theorem filter_counts (m : List (Key × Int)) : (m.map countOf).filter (fun c => !decide (c.refs = 0)) = (m.filter nzB).map countOf := by
  rw [List.filter_map]
  rfl
theorem tells_filter {m : List (Key × Int)} {L : List Count} (h : TellsC m L) : TellsC (m.filter nzB) (L.filter (fun c => !decide (c.refs = 0))) := by
  refine ⟨?_, ?_, apart_filter h.apart, h.mkey⟩
  · have := h.perm.filter (fun c => !decide (c.refs = 0))
    rwa [filter_counts] at this
  · exact h.rising.sublist List.filter_sublist
/-- The program's Delta is the document's. -/
theorem delta_same {a b L : List Count} (hb : ∀ c ∈ b, inR c.refs) (hT : TellsC ((deltaMap a b).filter nzB) L) : L = deltaRow a b := by
  have h0 : TellsC ([] : List (Key × Int)) [] := TellsK.nil (fun _ => rfl)
  have h2 := tells_filter (upRow_tells b hb _ _ (downRow_tells a _ _ h0))
  rw [← deltaMap_eq] at h2
  exact h2.one hT.perm hT.rising
end Go.Pb
