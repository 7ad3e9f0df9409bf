/- The library's sort: what its last world holds, in this family's words. Nothing here names the program. -/
import Derived.Test.YteablbficakfcaaHeld
import Derived.Shelf.GgSortFunc.InsertionK
set_option linter.unusedVariables false
set_option linter.unusedSimpArgs false
set_option linter.unusedSectionVars false
namespace Go.Pb
open Go.RowKit Go.Sort Go.Shelf Go.Proofs

section
variable {α : Type} [Enc α] [Inhabited α]
theorem flatK_eq (l : List α) : (flatK (α := α) Enc.enc (Enc.sz α) l.toArray).toList = flat l := by
  apply List.ext_getElem?
  intro t
  have hs : (flatK (α := α) Enc.enc (Enc.sz α) l.toArray).size = l.length * Enc.sz α := by simp
  by_cases ht : t < l.length * Enc.sz α
  · have hq : t / Enc.sz α < l.length := Nat.div_lt_of_lt_mul (by rw [Nat.mul_comm]; exact ht)
    have hmod : t % Enc.sz α < Enc.sz α := Nat.mod_lt _ Enc.pos
    have h1 := flat_get l (t / Enc.sz α) hq (t % Enc.sz α) hmod
    rw [Nat.div_add_mod' t] at h1
    rw [h1]
    have h2 := get_flatK (α := α) Enc.enc (Enc.sz α) l.toArray t (by simpa using ht)
    have h3 : (flatK (α := α) Enc.enc (Enc.sz α) l.toArray)[t]? = some ((flatK (α := α) Enc.enc (Enc.sz α) l.toArray)[t]!) := by
      rw [getElem!_pos _ t (by rw [hs]; exact ht), Array.getElem?_eq_getElem (by rw [hs]; exact ht)]
    rw [Array.getElem?_toList, h3, h2]
    have h4 : l.toArray[t / Enc.sz α]! = l[t / Enc.sz α] := by
      rw [getElem!_pos _ _ (by simpa using hq)]
      simp
    rw [h4]
    have hl : t % Enc.sz α < (Enc.enc l[t / Enc.sz α]).length := by rw [Enc.len]; exact hmod
    rw [getElem!_pos (Enc.enc l[t / Enc.sz α]) (t % Enc.sz α) hl, List.getElem?_eq_getElem hl]
  · rw [List.getElem?_eq_none (by rw [Array.length_toList, hs]; omega), List.getElem?_eq_none (by rw [flat_length]; omega)]
theorem holdsK_of {w : World} {g off : Nat} {l : List α} (hr : w.rangeAt g off (flat l)) (hf : ∀ i, w.frozen? ⟨g, i, none⟩ = false) : HoldsK (α := α) Enc.enc (Enc.sz α) w g off l.toArray := by
  intro j hj
  refine ⟨hr j _ ?_, hf _⟩
  rw [← flatK_eq, Array.getElem?_toList, Array.getElem?_eq_getElem hj, getElem!_pos (flatK (α := α) Enc.enc (Enc.sz α) l.toArray) j hj]
  rfl
theorem mapBlock_at {w : World} {g : Nat} {c : Array Value} {e : TypeId} {fr : Nat × Nat} (f : Array Value → Array Value) (h : w.heap[g]? = some (.cells c e fr)) : (mapBlock w g f).heap[g]? = some (.cells (f c) e fr) := by
  unfold mapBlock
  simp only [Array.getElem?_modify, if_true, h]
  rfl
theorem mapBlock_far {w : World} {g k : Nat} (f : Array Value → Array Value) (h : k ≠ g) : (mapBlock w g f).heap[k]? = w.heap[k]? := by
  unfold mapBlock
  simp only [Array.getElem?_modify, if_neg (Ne.symm h)]
theorem putCells_whole (d c : Array Value) (n : Nat) (hd : d.size = n) (hc : n ≤ c.size) : (putCells id 0 d c).toList = d.toList ++ c.toList.drop n := by
  apply List.ext_getElem?
  intro k
  simp only [putCells, Array.getElem?_toList, Array.getElem?_mapIdx]
  by_cases hk : k < n
  · have h1 : k < c.size := by omega
    rw [Array.getElem?_eq_getElem h1, List.getElem?_append_left (by simpa [hd] using hk)]
    have hk' : k < d.size := by omega
    simp only [Option.map_some, Nat.zero_le, true_and, Nat.zero_add, hk', if_true, Nat.sub_zero, id]
    rw [getElem!_pos d k hk', Array.getElem?_toList, Array.getElem?_eq_getElem hk']
  · by_cases h2 : k < c.size
    · rw [Array.getElem?_eq_getElem h2, List.getElem?_append_right (by simp [hd]; omega)]
      have hk' : ¬ (k < d.size) := by omega
      simp only [Option.map_some, Nat.zero_le, true_and, Nat.zero_add, hk', if_false, List.getElem?_drop, Array.length_toList]
      rw [hd, show n + (k - n) = k by omega, Array.getElem?_toList, Array.getElem?_eq_getElem h2]
    · rw [Array.getElem?_eq_none (by omega), List.getElem?_eq_none (by simp [hd]; omega)]
      rfl
/-- What the sort leaves: blocks but one are as they were. -/
theorem sortW_keep (w : World) (g off n : Nat) (d : Array α) (os : Array Obj) : Keep (fun k => k = g) w (sortWorldK (α := α) Enc.enc (Enc.sz α) w g off n d os) := by
  unfold sortWorldK putRowK putRow
  refine ⟨rfl, rfl, rfl, by simp [grow, mapBlock, Go.Sort.ahead], fun k hk hx => ?_⟩
  have h1 : (mapBlock (Go.Sort.ahead w n) g (putCells id off (flatK Enc.enc (Enc.sz α) d))).heap[k]? = w.heap[k]? := mapBlock_far _ hx
  rw [← h1]
  simp only [grow]
  rw [Array.getElem?_append, if_pos (by simp [mapBlock, Go.Sort.ahead]; exact hk)]
/-- .. and an owned row holds the list that the sort has made. -/
theorem sortW_owns {w : World} {base : Nat} {e : TypeId} {g cap : Nat} {l l' : List α} (h : Owns w base e (.slice (some ⟨g, 0, none⟩) l.length cap) l) (hl : l'.length = l.length) (n : Nat) (os : Array Obj) :
    Owns (sortWorldK (α := α) Enc.enc (Enc.sz α) w g 0 n l'.toArray os) base e (.slice (some ⟨g, 0, none⟩) l'.length cap) l' := by
  obtain ⟨_, h⟩ := h
  rcases h with ⟨h, _⟩ | ⟨g', cap', cur, h, hb, hg, hn, hm, hs, ht⟩
  · simp at h
  · simp only [Value.slice.injEq, Option.some.injEq, Addr.mk.injEq, and_true, true_and] at h
    obtain ⟨rfl, rfl⟩ := h
    refine ⟨flat_length _, .inr ⟨g, cap, putCells id 0 (flatK Enc.enc (Enc.sz α) l'.toArray) cur, rfl, hb, ?_, by omega, hm, ?_, ?_⟩⟩
    · unfold sortWorldK putRowK putRow
      simp only [grow]
      have hlt : g < (mapBlock (Go.Sort.ahead w n) g (putCells id 0 (flatK Enc.enc (Enc.sz α) l'.toArray))).heap.size := by
        simp [mapBlock, Go.Sort.ahead]
        exact (Array.getElem?_eq_some_iff.1 hg).1
      rw [Array.getElem?_append, if_pos hlt]
      exact mapBlock_at _ hg
    · simp [putCells, hs]
    · have hsz : (flatK (α := α) Enc.enc (Enc.sz α) l'.toArray).size = l'.length * Enc.sz α := by simp
      rw [putCells_whole _ _ _ hsz (by rw [hs, hl]; exact Nat.mul_le_mul_right _ hn), flatK_eq]
      rw [← flat_length l', List.take_append_of_le_length (Nat.le_refl _), List.take_length]
end
end Go.Pb
