/- The index, plain: what is done to a list of pairs, and its items in order. -/
import Derived.Test.YteablbficakfcaaItems
import Derived.Test.YteablbficakfcaaIndexE
set_option linter.unusedVariables false
set_option linter.unusedSimpArgs false
set_option linter.unusedSectionVars false
namespace Go.Pb
open Go.RowKit

abbrev Tells := TellsK (·.key : Item → Key) itemOf
abbrev Rising (l : List Item) : Prop := l.Pairwise (fun a b => klt b.key a.key = false)
theorem keys_items (m : List (Key × Place)) : (m.map itemOf).map (·.key) = m.map (·.1) := by
  rw [List.map_map]
  rfl
theorem items_one {m1 m2 : List (Key × Place)} {l1 l2 : List Item} (h1 : l1.Perm (m1.map itemOf)) (h2 : l2.Perm (m2.map itemOf)) (hm : m1.Perm m2) (ha : Apart m1) (r1 : Rising l1) (r2 : Rising l2) : l1 = l2 := by
  refine sorted_unique (·.key) (h1.trans ((hm.map itemOf).trans h2.symm)) r1 r2 ?_
  have := (h1.map (·.key)).nodup_iff.2 (by rw [keys_items]; exact ha)
  exact this

/-- An index that may be: keys apart, places that may be. -/
def IxFine (m : List (Key × Place)) : Prop := Apart m ∧ ∀ k p, look m k = some p → ixMay p = true
theorem IxFine.nil : IxFine [] := ⟨by simp [Apart], fun k p h => by cases h⟩
theorem IxFine.add {m : List (Key × Place)} (h : IxFine m) (k : Key) (p : Place) : IxFine (ixAdd m k p).2 := by
  unfold ixAdd
  by_cases h1 : ixMay p = true
  · rw [if_pos h1]
    by_cases h2 : (look m k).isSome = true
    · rw [if_pos h2]
      exact h
    · rw [if_neg h2]
      refine ⟨put_apart h.1 _ _, fun k' p' hl => ?_⟩
      rw [look_put] at hl
      split at hl
      · injection hl with hl
        subst hl
        exact h1
      · exact h.2 _ _ hl
  · rw [if_neg h1]
    exact h
theorem add_length (m : List (Key × Place)) (k : Key) (p : Place) : (ixAdd m k p).2.length ≤ m.length + 1 := by
  unfold ixAdd
  by_cases h1 : ixMay p = true
  · rw [if_pos h1]
    by_cases h2 : (look m k).isSome = true
    · rw [if_pos h2]
      simp
    · rw [if_neg h2]
      show (put m k p).length ≤ _
      rw [put_length]
      split <;> omega
  · rw [if_neg h1]
    simp
theorem may_refs {p : Place} (h : ixMay p = true) : 0 ≤ p.refs ∧ p.refs ≤ 2147483647 := by
  simp [ixMay, ixFrom] at h
  omega
theorem bears_iff {q : Place} (h : ixMay q = true) (n : Int) : ixBears q n = true ↔ -q.refs ≤ n ∧ n ≤ 2147483647 - q.refs := by
  have := may_refs h
  have e1 : wrap64 (-q.refs) = -q.refs := by unfold wrap64; omega
  have e2 : wrap64 (2147483647 - q.refs) = 2147483647 - q.refs := by unfold wrap64; omega
  simp [ixBears, ixFrom, e1, e2]
theorem bears_sum {q : Place} (h : ixMay q = true) {n : Int} (hb : ixBears q n = true) : wrap64 (q.refs + n) = q.refs + n := by
  have h1 := may_refs h
  have h2 := (bears_iff h n).1 hb
  unfold wrap64
  omega
theorem want_none {m : List (Key × Place)} {k : Key} (h : look m k = none) (n : Int) : ixWant m k n = (6, m) := by simp [ixWant, ixWant0, h]
theorem move_none {m : List (Key × Place)} {k : Key} (h : look m k = none) (n : Int) : ixMove m k n = (6, m) := by simp [ixMove, h]
theorem want_bad {m : List (Key × Place)} {k : Key} {q : Place} (h : look m k = some q) {n : Int} (hb : ixBears q n = false) : ixWant m k n = (2, m) := by simp [ixWant, ixWant0, h, hb]
theorem want_put {m : List (Key × Place)} {k : Key} {q : Place} (h : look m k = some q) (hm : ixMay q = true) {n : Int} (hb : ixBears q n = true) (h0 : q.refs + n ≠ 0) : ixWant m k n = (0, put m k { q with refs := q.refs + n }) := by
  simp [ixWant, ixWant0, h, hb, bears_sum hm hb, h0]
theorem want_gone {m : List (Key × Place)} {k : Key} {q : Place} (h : look m k = some q) (hm : ixMay q = true) {n : Int} (hb : ixBears q n = true) (h0 : q.refs + n = 0) : ixWant m k n = (0, del m k) := by
  have hd : del (put m k { q with refs := q.refs + n }) k = del m k := del_put (by rw [h]; rfl)
  rw [h0] at hd
  have hz : wrap64 0 = 0 := by unfold wrap64; omega
  simp [ixWant, ixWant0, h, hb, bears_sum hm hb, h0, hd, hz]
theorem add_fine {m : List (Key × Place)} {k : Key} {p : Place} (h : look m k = none) (hm : ixMay p = true) : ixAdd m k p = (0, put m k p) := by simp [ixAdd, h, hm]
end Go.Pb
