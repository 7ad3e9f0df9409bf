/- The document's answer for the index: Get. -/
import Derived.Test.YteablbficakfcaaRef22B
set_option linter.unusedVariables false
set_option linter.unusedSimpArgs false
set_option linter.unusedSectionVars false
namespace Go.Pb
open Go.RowKit Go.Proofs Go.BigFrame

def get22 (L : List Item) (k : Key) : Place × Bool := if isAt L k then (((L[placeOf L k]?).map (·.place)).getD Place.zero, true) else (Place.zero, false)
theorem isAt_lt {L : List Item} {k : Key} (h : isAt L k = true) : placeOf L k < L.length := by
  unfold isAt at h
  rcases Nat.lt_or_ge (placeOf L k) L.length with h1 | h1
  · exact h1
  · rw [List.getElem?_eq_none h1] at h
    cases h
theorem item_placeAt {w : World} {b o : Nat} {i : Item} (h : w.rangeAt b o (Enc.enc i)) : w.rangeAt b (o + 33) (Enc.enc i.place) := by
  have hl : (encKey i.key).length = 32 := encKey_len _
  have := range_sub h 33 4
  have e : ((Enc.enc i).drop 33).take 4 = Enc.enc i.place := by
    show ((encItem i).drop 33).take 4 = encPlace i.place
    simp [encItem, hl, List.drop_append, encPlace]
  rwa [e] at this

theorem get22_ok (g : Nat) (L : List Item) (k : Key) (w : World) (h : ListAt w g L) (hL : L.length ≤ 1000000000) : Calls Try.prog 38 #[.pointer (some ⟨g, 0, none⟩), agg k] w fun e w' =>
    e = .returned (.tuple #[agg (get22 L k).1, .bool (get22 L k).2]) ∧ Below w.heap.size w w' := by
  generalize hW : (w.alloc (.cells (Enc.enc k).toArray 35)).alloc (.cells (Enc.enc Place.zero).toArray 38) = W
  have hb : Below w.heap.size w W := by subst hW; exact fresh_alloc (fresh_alloc (fresh_refl w) _) _
  have hW0 : W.heap.size = w.heap.size + 2 := by subst hW; simp
  have hk : W.rangeAt w.heap.size 0 (Enc.enc k) := by subst hW; exact range_fresh (range_block (heap_alloc_new w _)) (fresh_alloc (fresh_refl _) _)
  have hz : W.heap[w.heap.size + 1]? = some (.cells (Enc.enc Place.zero).toArray 38) := by subst hW; exact heap_alloc2_new _ _ _
  have hI := h.fresh hb
  have hpl := place22_ok g L k W hI hL
  cases hat : isAt L k with
  | false =>
    have he : get22 L k = (Place.zero, false) := by simp [get22, hat]
    rw [he]
    rw [hat] at hpl
    have HAT := Lib.hid hat
    clear hat
    have HPL := Lib.hid hpl
    clear hpl
    have HW := Lib.hid hW
    clear hW
    go_enter Try.func38, Try.ntmps38
    go_wp2_with (first
      | (refine st_val rfl (run_box 35 _ k rfl rfl) ?_)
      | (refine st_val rfl (run_alloc 38 Place.zero zero38 rfl) ?_; rw [HW.out])
      | (refine st_val rfl (load_key rfl rfl k hk) ?_)
      | (go_at_call 51; refine HPL.out.mono ?_; rintro e u ⟨rfl, hu⟩; have hzu : u.heap[w.heap.size + 1]? = some (.cells (Enc.enc Place.zero).toArray 38) := by rw [hu.block _ (by omega)]; exact hz)
      | (refine st_skip rfl (run_store_all 38 _ _ rfl rfl Place.zero rfl _ 38 hzu rfl s38) ?_))
    exact bodyPost_ret (results_agg_tmp (v := .bool false) (g := w.heap.size + 1) Try.results38 _ _ Place.zero _ rfl rfl (range_block (setRow_heap _ _ _ _ _ _ hzu)) Try.underlying38 rfl s38) rfl ⟨rfl, fresh_setRow (fresh_trans hb hu) (by omega) _⟩
  | true =>
    have hlt := isAt_lt hat
    have he : get22 L k = ((L[placeOf L k]'hlt).place, true) := by simp [get22, hat, List.getElem?_eq_getElem hlt]
    rw [he]
    rw [hat] at hpl
    obtain ⟨A, c, hg, hR, hne⟩ := hI
    obtain ⟨b1, o1, rfl, hr1⟩ := hR.at_n hlt 73 rfl
    have hc : W.cell? ⟨g, 0, none⟩ = some (.slice (some ⟨b1, o1, none⟩) L.length c) := range_block hg 0 _ rfl
    have HAT := Lib.hid hat
    clear hat
    have HPL := Lib.hid hpl
    clear hpl
    have HW := Lib.hid hW
    clear hW
    go_enter Try.func38, Try.ntmps38
    go_wp2_with (first
      | (refine st_val rfl (run_box 35 _ k rfl rfl) ?_)
      | (refine st_val rfl (run_alloc 38 Place.zero zero38 rfl) ?_; rw [HW.out])
      | (refine st_val rfl (load_key rfl rfl k hk) ?_)
      | (go_at_call 51; refine HPL.out.mono ?_; rintro e u ⟨rfl, hu⟩; have hzu : u.heap[w.heap.size + 1]? = some (.cells (Enc.enc Place.zero).toArray 38) := (by rw [hu.block _ (by omega)]; exact hz); have hcu := (hu.cell (p := ⟨g, 0, none⟩) (World.block_lt_of_cell? W _ hc)).trans hc; have hpu := item_placeAt (range_fresh hr1 hu))
      | (refine st_val rfl (elem_item rfl rfl rfl hlt) ?_)
      | (refine st_val rfl (run_faddr 42 _ 2 rfl rfl _ Try.underlying42 33 _ rfl rfl 3 s38) ?_)
      | (refine st_val rfl (load_place rfl rfl (L[placeOf L k]'hlt).place hpu) ?_)
      | (refine st_skip rfl (run_store_all 38 _ _ rfl rfl (L[placeOf L k]'hlt).place rfl _ 38 hzu rfl s38) ?_))
    exact bodyPost_ret (results_agg_tmp (v := .bool true) (g := w.heap.size + 1) Try.results38 _ _ (L[placeOf L k]'hlt).place _ rfl rfl (range_block (setRow_heap _ _ _ _ _ _ hzu)) Try.underlying38 rfl s38) rfl ⟨rfl, fresh_setRow (fresh_trans hb hu) (by omega) _⟩
end Go.Pb
