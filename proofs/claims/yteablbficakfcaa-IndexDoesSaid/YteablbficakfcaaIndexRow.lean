/- The document's index, plain: a row by keys, and that it says what the list of pairs says. -/
import Derived.Test.YteablbficakfcaaIndexLaw
import Derived.Test.YteablbficakfcaaRef22C
set_option linter.unusedVariables false
set_option linter.unusedSimpArgs false
set_option linter.unusedSectionVars false
namespace Go.Pb
open Go.RowKit


theorem Tells.none : Tells [] [] := TellsK.nil (fun _ => rfl)
def rowAdd (L : List Item) (k : Key) (p : Place) : List Item := L.take (placeOf L k) ++ itemOf (k, p) :: L.drop (placeOf L k)
def rowDel (L : List Item) (k : Key) : List Item := L.take (placeOf L k) ++ L.drop (placeOf L k + 1)
def rowSet (L : List Item) (n : Nat) (p : Place) : List Item := match L[n]? with | some i => L.set n { i with place := p } | none => L
def add22 (L : List Item) (k : Key) (p : Place) : Int × List Item := if ixMay p then (if isAt L k then (7, L) else (0, rowAdd L k p)) else (2, L)
def move22 (L : List Item) (k : Key) (n : Int) : Int × List Item :=
  if isAt L k then (if ixFrom n 0 262144 then (0, rowSet L (placeOf L k) { (get22 L k).1 with at_ := n }) else (2, L)) else (6, L)
def want22 (L : List Item) (k : Key) (n : Int) : Int × List Item :=
  if isAt L k then (if ixBears (get22 L k).1 n then (if wrap64 ((get22 L k).1.refs + n) = 0 then (0, rowDel L k) else (0, rowSet L (placeOf L k) { (get22 L k).1 with refs := wrap64 ((get22 L k).1.refs + n) })) else (2, L)) else (6, L)

section
variable {m : List (Key × Place)} {L : List Item}
theorem isAt_eq (L : List Item) (k : Key) : isAt L k = isAtK (·.key) L k := by
  have hp : placeOf L k = placeK (·.key) L k := rfl
  unfold isAt isAtK
  rw [hp]
  cases L[placeK (·.key) L k]? <;> rfl
theorem Tells.isAt' (h : Tells m L) (k : Key) : isAt L k = (look m k).isSome := (isAt_eq L k).trans (TellsK.isAt h k)
theorem Tells.get (h : Tells m L) (k : Key) : get22 L k = ((look m k).getD Place.zero, (look m k).isSome) := by
  unfold get22
  rw [h.isAt' k]
  cases hl : look m k with
  | none => rfl
  | some q =>
    have := TellsK.at_some h hl
    rw [show L[placeOf L k]? = some (itemOf (k, q)) from this]
    rfl
theorem Tells.set' (h : Tells m L) {k : Key} {q : Place} (hl : look m k = some q) (p : Place) : Tells (put m k p) (rowSet L (placeOf L k) p) := by
  have hat : L[placeOf L k]? = some (itemOf (k, q)) := TellsK.at_some h hl
  unfold rowSet
  rw [hat]
  exact TellsK.set h hl p
theorem tells_add (h : Tells m L) (k : Key) (p : Place) : (ixAdd m k p).1 = (add22 L k p).1 ∧ Tells (ixAdd m k p).2 (add22 L k p).2 := by
  unfold ixAdd add22
  rw [h.isAt' k]
  by_cases h1 : ixMay p = true
  · rw [if_pos h1, if_pos h1]
    by_cases h2 : (look m k).isSome = true
    · rw [if_pos h2, if_pos h2]
      exact ⟨rfl, h⟩
    · rw [if_neg h2, if_neg h2]
      exact ⟨rfl, TellsK.add h (by simpa using h2) p⟩
  · rw [if_neg h1, if_neg h1]
    exact ⟨rfl, h⟩
theorem tells_move (h : Tells m L) (k : Key) (n : Int) : (ixMove m k n).1 = (move22 L k n).1 ∧ Tells (ixMove m k n).2 (move22 L k n).2 := by
  unfold ixMove move22
  rw [h.isAt' k, h.get k]
  cases hl : look m k with
  | none => exact ⟨rfl, h⟩
  | some q =>
    simp only [Option.isSome_some, if_true, Option.getD_some]
    by_cases h1 : ixFrom n 0 262144 = true
    · rw [if_pos h1, if_pos h1]
      exact ⟨rfl, h.set' hl _⟩
    · rw [if_neg h1, if_neg h1]
      exact ⟨rfl, h⟩
theorem tells_want (h : Tells m L) (k : Key) (n : Int) : (ixWant m k n).1 = (want22 L k n).1 ∧ Tells (ixWant m k n).2 (want22 L k n).2 := by
  unfold ixWant ixWant0 want22
  rw [h.isAt' k, h.get k]
  cases hl : look m k with
  | none => exact ⟨rfl, h⟩
  | some q =>
    simp only [Option.isSome_some, if_true, Option.getD_some]
    by_cases h1 : ixBears q n = true
    · rw [if_pos h1, if_pos h1]
      by_cases h2 : wrap64 (q.refs + n) = 0
      · rw [if_pos h2]
        simp only [h2, decide_true, if_true]
        refine ⟨trivial, ?_⟩
        rw [del_put (by rw [hl]; rfl)]
        exact TellsK.del h hl
      · rw [if_neg h2]
        simp only [h2, decide_false, Bool.false_eq_true, if_false]
        exact ⟨trivial, h.set' hl _⟩
    · rw [if_neg h1, if_neg h1]
      exact ⟨rfl, h⟩
end
end Go.Pb
