/- The index of extents: New, Get, Add, Len. -/
import Derived.Test.YteablbficakfcaaIndexA
import Derived.Test.YteablbficakfcaaGen
set_option linter.unusedVariables false
set_option linter.unusedSimpArgs false
set_option linter.unusedSectionVars false
namespace Go.Pb
open Go.RowKit Go.Proofs Go.BigFrame

theorem zval38 (w : World) : (zeroValue 38).run Try.prog w = .ok (agg Place.zero) w := by
  obtain ⟨i, hi, hz⟩ := Option.map_eq_some_iff.1 zero38
  simp [zeroValue, typeInfo, hi, hz]
theorem look_elim {K V : Type} [DecidableEq K] [Enc V] (m : List (K × V)) (k : K) (z : V) : (look m k).elim (agg z) (fun p => agg p) = agg ((look m k).getD z) := by cases look m k <;> rfl

abbrev keyV : Key → Value := fun k => agg k
abbrev placeV : Place → Value := fun p => agg p
/-- Block b holds the places of an index, and x is that index. -/
def IxIs (w : World) (x : Value) (b : Nat) (m : List (Key × Place)) : Prop := IxAt w x b ∧ MapIs w b keyV placeV m
theorem IxIs.fresh {w w' : World} {x : Value} {b : Nat} {m : List (Key × Place)} (h : IxIs w x b m) (hb : Below w.heap.size w w') : IxIs w' x b m := ⟨h.1.fresh hb, h.2.fresh hb⟩

theorem get_none_ok (x : Value) (k : Key) (w : World) (h : NoIx w x) : Calls Try.prog 37 #[x, agg k] w fun e w' => e = .returned (.tuple #[agg Place.zero, .bool false]) ∧ Below w.heap.size w w' := by
  have hb : Below w.heap.size w ((w.alloc (.cells (Enc.enc k).toArray 35)).alloc (.cells (Enc.enc Place.zero).toArray 38)) := fresh_alloc (fresh_alloc (fresh_refl w) _) _
  go_enter Try.func37, Try.ntmps37
  go_wp2_with (first
    | (refine st_val rfl (run_box 35 _ k rfl rfl) ?_)
    | (refine st_val rfl (run_alloc 38 Place.zero zero38 rfl) ?_)
    | (go_at_call 45; refine (there_none_ok _ _ (h.fresh hb)).mono ?_; rintro e w' ⟨rfl, rfl⟩)
    | (refine st_skip rfl (run_store_new 38 _ _ rfl rfl (by simp) Place.zero Place.zero rfl 38 s38) ?_))
  refine bodyPost_ret (results_agg_tmp (v := .bool false) (g := w.heap.size + 1) Try.results37 _ _ Place.zero _ rfl rfl (range_block (heap_alloc2_new _ _ _)) Try.underlying38 rfl s38) rfl ⟨rfl, hb⟩

theorem get_ok (x : Value) (k : Key) (b : Nat) (m : List (Key × Place)) (w : World) (h : IxIs w x b m) : Calls Try.prog 37 #[x, agg k] w fun e w' => e = .returned (.tuple #[agg ((look m k).getD Place.zero), .bool (look m k).isSome]) ∧ Below w.heap.size w w' := by
  have hb : Below w.heap.size w ((w.alloc (.cells (Enc.enc k).toArray 35)).alloc (.cells (Enc.enc Place.zero).toArray 38)) := fresh_alloc (fresh_alloc (fresh_refl w) _) _
  generalize hW : (w.alloc (.cells (Enc.enc k).toArray 35)).alloc (.cells (Enc.enc Place.zero).toArray 38) = W at hb
  have hW0 : W.heap.size = w.heap.size + 2 := by subst hW; simp
  have hk : W.heap[w.heap.size]? = some (.cells (Enc.enc k).toArray 35) := by subst hW; rw [heap_alloc_old _ _ (by simp)]; exact heap_alloc_new _ _
  have hz : W.heap[w.heap.size + 1]? = some (.cells (Enc.enc Place.zero).toArray 38) := by subst hW; exact heap_alloc2_new _ _ _
  obtain ⟨g, rfl, hne, hc⟩ := (h.fresh hb).1
  have hM := (h.fresh hb).2
  go_enter Try.func37, Try.ntmps37
  go_wp2_with (first
    | (refine st_val rfl (run_box 35 _ k rfl rfl) ?_)
    | (refine st_val rfl (run_alloc 38 Place.zero zero38 rfl) ?_; rw [hW])
    | (go_at_call 45; refine (there_ok _ b _ (h.fresh hb).1).mono ?_; rintro e w' ⟨rfl, rfl⟩))
  have hS0 : Below W.heap.size W W.drew := fresh_drew (fresh_refl W)
  have hC : ∀ w', Below W.heap.size W w' → w'.cell? ⟨g, 0, none⟩ = some (.map (some b)) := fun w' hw => (hw.cell (p := ⟨g, 0, none⟩) (World.block_lt_of_cell? W _ hc)).trans hc
  have hK : ∀ w', Below W.heap.size W w' → w'.rangeAt w.heap.size 0 (Enc.enc k) := fun w' hw => range_fresh (range_block hk) hw
  refine held_lit (fun w' => Below (W).heap.size W w') 12 rfl (by kernel_rfl) ?_
  refine hl_take (v := ?_) 0 rfl (by kernel_rfl) (by rfl) ?_ hS0 (fun _ _ _ h => h) ?_
  rotate_left
  · (intro w' hw'; go_simp; try with_reducible rfl)
  simp only [Act.put, List.setIfInBounds_toArray, List.set_cons_succ, List.set_cons_zero]
  refine hl_take (v := ?_) 1 rfl (by kernel_rfl) (by rfl) ?_ hS0 (fun _ _ _ h => h) ?_
  rotate_left
  · (intro w' hw'; go_simp; try with_reducible rfl)
  simp only [Act.put, List.setIfInBounds_toArray, List.set_cons_succ, List.set_cons_zero]
  refine hl_take (v := ?_) 2 rfl (by kernel_rfl) (by rfl) ?_ hS0 (fun _ _ _ h => h) ?_
  rotate_left
  · (intro w' hw'; go_simp; try with_reducible rfl)
  simp only [Act.put, List.setIfInBounds_toArray, List.set_cons_succ, List.set_cons_zero]
  refine hl_take 3 rfl (by kernel_rfl) (by rfl) (fun w' hw' => run_load1 101 _ rfl rfl (hC w' hw') _ Try.underlying101 rfl) hS0 (fun _ _ _ h => h) ?_
  simp only [Act.put, List.setIfInBounds_toArray, List.set_cons_succ, List.set_cons_zero]
  refine hl_take 4 rfl (by kernel_rfl) (by rfl) (fun w' hw' => load_key rfl rfl k (hK w' hw')) hS0 (fun _ _ _ h => h) ?_
  simp only [Act.put, List.setIfInBounds_toArray, List.set_cons_succ, List.set_cons_zero]
  refine hl_take 5 rfl (by kernel_rfl) (by rfl) (fun w' hw' => op_look2 keyCode 101 _ _ rfl Try.underlying101 (agg Place.zero) zval38 rfl k rfl ((hM).fresh hw')) hS0 (fun _ _ _ h => h) ?_
  simp only [Act.put, List.setIfInBounds_toArray, List.set_cons_succ, List.set_cons_zero]
  simp only [look_elim]
  refine hl_take (v := ?_) 6 rfl (by kernel_rfl) (by rfl) ?_ hS0 (fun _ _ _ h => h) ?_
  rotate_left
  · (intro w' hw'; go_simp; try with_reducible rfl)
  simp only [Act.put, List.setIfInBounds_toArray, List.set_cons_succ, List.set_cons_zero]
  refine hl_take (v := ?_) 7 rfl (by kernel_rfl) (by rfl) ?_ hS0 (fun _ _ _ h => h) ?_
  rotate_left
  · (intro w' hw'; go_simp; try with_reducible rfl)
  simp only [Act.put, List.setIfInBounds_toArray, List.set_cons_succ, List.set_cons_zero]
  refine hl_take (v := ?_) 8 rfl (by kernel_rfl) (by rfl) ?_ hS0 (fun _ _ _ h => h) ?_
  rotate_left
  · (intro w' hw'; go_simp; try with_reducible rfl)
  simp only [Act.put, List.setIfInBounds_toArray, List.set_cons_succ, List.set_cons_zero]
  refine hl_one 9 (by kernel_rfl) (hs_val rfl (by rfl) (run_alloc 38 Place.zero zero38 rfl) (fresh_alloc hS0 _) ?_)
  simp only [Act.put, List.setIfInBounds_toArray, List.set_cons_succ, List.set_cons_zero]
  refine hl_one 10 (by kernel_rfl) (hs_skip rfl (by rfl) (run_store_new 38 _ _ rfl rfl rfl _ Place.zero rfl 38 s38) (fresh_alloc hS0 _) ?_)
  simp only [Act.put, List.setIfInBounds_toArray, List.set_cons_succ, List.set_cons_zero]
  refine hl_take (v := ?_) 11 rfl (by kernel_rfl) (by rfl) ?_ (fresh_alloc hS0 _) (fun _ _ _ h => h) ?_
  rotate_left
  · (intro w' hw'; go_simp; try with_reducible rfl)
  simp only [Act.put, List.setIfInBounds_toArray, List.set_cons_succ, List.set_cons_zero]
  refine hl_done (by kernel_rfl) ?_
  have hz2 : (W.drew.alloc (.cells (Enc.enc ((look m k).getD Place.zero)).toArray 38)).heap[w.heap.size + 1]? = some (.cells (Enc.enc Place.zero).toArray 38) := by
    rw [heap_alloc_old _ _ (show w.heap.size + 1 < W.drew.heap.size by rw [World.drew]; simp only []; omega)]
    exact hz
  have hb2 : Below w.heap.size w ((W.drew.alloc (.cells (Enc.enc ((look m k).getD Place.zero)).toArray 38)).setRow (w.heap.size + 1) (Enc.enc ((look m k).getD Place.zero)).toArray) :=
    fresh_setRow (fresh_alloc (fresh_drew hb) _) (by omega) _
  go_wp2_with (first
    | (refine st_val rfl (load_place rfl rfl ((look m k).getD Place.zero) (range_block (heap_alloc_new _ _))) ?_)
    | (refine st_skip rfl (run_store_all 38 _ _ rfl rfl ((look m k).getD Place.zero) rfl _ 38 hz2 rfl s38) ?_))
  refine bodyPost_ret (results_agg_tmp (v := .bool (look m k).isSome) (g := w.heap.size + 1) Try.results37 _ _ ((look m k).getD Place.zero) _ rfl rfl (range_block (setRow_heap _ _ _ _ _ _ hz2)) Try.underlying38 rfl s38) rfl ⟨rfl, hb2⟩

theorem new_ok (w : World) : Calls Try.prog 26 #[] w fun e w' => ∃ x b, e = .returned x ∧ IxIs w' x b [] ∧ w.heap.size ≤ b ∧ Below w.heap.size w w' ∧ (∃ g, x = .pointer (some ⟨g, 0, none⟩) ∧ w.heap.size ≤ g) := by
  go_enter Try.func26, Try.ntmps26
  go_wp2_with (refine st_val rfl (op_makeMap 101 rfl) ?_)
  go_ret
  refine ⟨_, w.heap.size, rfl, ⟨⟨w.heap.size + 1, by simp, by omega, ?_⟩, ?_⟩, Nat.le_refl _, ?_, ⟨w.heap.size + 1, by simp, by omega⟩⟩
  · have := range_block (heap_alloc2_new w (.map #[] 0) (.cells #[Value.map (some w.heap.size)] 103)) 0 _ rfl
    simp
  · exact (MapIs.made w keyV placeV).alloc _
  · exact fresh_alloc (fresh_alloc (fresh_refl w) _) _
theorem len_none_ok (x : Value) (w : World) (h : NoIx w x) : Calls Try.prog 30 #[x] w fun e w' => e = .returned (.int .i64 0) ∧ w = w' := by
  go_enter Try.func30, Try.ntmps30
  go_wp2_with (go_at_call 45; refine (there_none_ok _ _ h).mono ?_; rintro e w' ⟨rfl, rfl⟩)
  go_ret
  exact ⟨rfl, rfl⟩
theorem len_ok (x : Value) (b : Nat) (m : List (Key × Place)) (w : World) (h : IxIs w x b m) : Calls Try.prog 30 #[x] w fun e w' => e = .returned (.int .i64 (m.length : Int)) ∧ w = w' := by
  have h1 := h.1
  obtain ⟨⟨g, rfl, hne, hc⟩, hM⟩ := h
  go_enter Try.func30, Try.ntmps30
  go_wp2_with (first
    | (go_at_call 45; refine (there_ok _ b _ h1).mono ?_; rintro e w' ⟨rfl, rfl⟩)
    | (refine st_val rfl (op_len 101 _ rfl Try.underlying101 rfl hM) ?_))
  go_ret
  exact ⟨rfl, rfl⟩

/-- Add, where there is no index. -/
theorem add_none_ok (x : Value) (k : Key) (p : Place) (w : World) (h : NoIx w x) : Calls Try.prog 28 #[x, agg k, agg p] w fun e w' => e = .returned (.int .i64 1) ∧ Below w.heap.size w w' := by
  have hb : Below w.heap.size w ((w.alloc (.cells (Enc.enc k).toArray 35)).alloc (.cells (Enc.enc p).toArray 38)) := fresh_alloc (fresh_alloc (fresh_refl w) _) _
  go_enter Try.func28, Try.ntmps28
  go_wp2_with (first
    | (refine st_val rfl (run_box 35 _ k rfl rfl) ?_)
    | (refine st_val rfl (run_box 38 _ p rfl rfl) ?_)
    | (go_at_call 45; refine (there_none_ok _ _ (h.fresh hb)).mono ?_; rintro e w' ⟨rfl, rfl⟩))
  go_ret
  exact ⟨rfl, hb⟩
end Go.Pb
