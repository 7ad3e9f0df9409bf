/- The index of extents: Add. -/
import Derived.Test.YteablbficakfcaaIndexB
set_option linter.unusedVariables false
set_option linter.unusedSimpArgs false
set_option linter.unusedSectionVars false
namespace Go.Pb
open Go.RowKit Go.Proofs Go.BigFrame

def ixAdd (m : List (Key × Place)) (k : Key) (p : Place) : Int × List (Key × Place) :=
  if ixMay p then (if (look m k).isSome then (7, m) else (0, put m k p)) else (2, m)


theorem add_ok (x : Value) (k : Key) (p : Place) (b : Nat) (m : List (Key × Place)) (w : World) (h : IxIs w x b m) : Calls Try.prog 28 #[x, agg k, agg p] w fun e w' =>
    e = .returned (.int .i64 (ixAdd m k p).1) ∧ w.grownBy w' (some b) ∧ IxIs w' x b (ixAdd m k p).2 := by
  have hb : Below w.heap.size w ((w.alloc (.cells (Enc.enc k).toArray 35)).alloc (.cells (Enc.enc p).toArray 38)) := fresh_alloc (fresh_alloc (fresh_refl w) _) _
  have hblt : b < w.heap.size := h.2.lt
  generalize hW : (w.alloc (.cells (Enc.enc k).toArray 35)).alloc (.cells (Enc.enc p).toArray 38) = W at hb
  have hW0 : W.heap.size = w.heap.size + 2 := by subst hW; simp
  have hk : W.heap[w.heap.size]? = some (.cells (Enc.enc k).toArray 35) := by subst hW; rw [heap_alloc_old _ _ (by simp)]; exact heap_alloc_new _ _
  have hp : W.heap[w.heap.size + 1]? = some (.cells (Enc.enc p).toArray 38) := by subst hW; exact heap_alloc2_new _ _ _
  obtain ⟨g, rfl, hne, hc⟩ := (h.fresh hb).1
  have hM := (h.fresh hb).2
  generalize hW2 : W.alloc (.cells (Enc.enc p).toArray 38) = W2
  have hb2 : Below W.heap.size W W2 := by subst hW2; exact fresh_alloc (fresh_refl W) _
  by_cases hmay : ixMay p = true
  · have hM2 := hM.fresh hb2
    have hS0 : Below W2.heap.size W2 W2.drew := fresh_drew (fresh_refl W2)
    have hC : ∀ w', Below W2.heap.size W2 w' → w'.cell? ⟨g, 0, none⟩ = some (.map (some b)) := fun w' hw => by
      have hc2 := (hb2.cell (p := ⟨g, 0, none⟩) (World.block_lt_of_cell? W _ hc)).trans hc
      exact (hw.cell (p := ⟨g, 0, none⟩) (World.block_lt_of_cell? W2 _ hc2)).trans hc2
    have hK : ∀ w', Below W2.heap.size W2 w' → w'.rangeAt w.heap.size 0 (Enc.enc k) := fun w' hw => range_fresh (range_fresh (range_block hk) hb2) hw
    generalize hW3 : W2.drew.alloc (.cells (Enc.enc ((look m k).getD Place.zero)).toArray 38) = W3
    have hb3 : Below W2.heap.size W2 W3 := by subst hW3; exact fresh_alloc hS0 _
    by_cases hlk : (look m k).isSome = true
    · have hend : ixAdd m k p = (7, m) := by simp [ixAdd, hmay, hlk]
      rw [hend]
      have Hlk := Lib.hid hlk
      clear hlk
      have Hmay := Lib.hid hmay
      clear hmay
      go_enter Try.func28, Try.ntmps28
      go_wp2_with (first
        | (refine st_val rfl (run_box 35 _ k rfl rfl) ?_)
        | (refine st_val rfl (run_box 38 _ p rfl rfl) ?_; rw [hW])
        | (go_at_call 45; refine (there_ok _ b _ (h.fresh hb).1).mono ?_; rintro e w' ⟨rfl, rfl⟩)
        | (refine st_val rfl (load_place rfl rfl p (range_block hp)) ?_)
        | (go_at_call 46; refine (may_ok p _).mono ?_; rintro e w' ⟨rfl, rfl⟩; simp only [Hmay.out, hW2]))
      refine held_lit (fun w' => Below (W2).heap.size W2 w') 12 rfl (by kernel_rfl) ?_
      refine hl_take (v := ?_) 0 rfl (by kernel_rfl) (by rfl) ?_ hS0 (fun _ _ _ h => h) ?_
      rotate_left
      · (intro w' hw'; go_simp; try with_reducible rfl)
      simp only [Act.put, List.setIfInBounds_toArray, List.set_cons_succ, List.set_cons_zero]
      refine hl_take (v := ?_) 1 rfl (by kernel_rfl) (by rfl) ?_ hS0 (fun _ _ _ h => h) ?_
      rotate_left
      · (intro w' hw'; go_simp; try with_reducible rfl)
      simp only [Act.put, List.setIfInBounds_toArray, List.set_cons_succ, List.set_cons_zero]
      refine hl_take (v := ?_) 2 rfl (by kernel_rfl) (by rfl) ?_ hS0 (fun _ _ _ h => h) ?_
      rotate_left
      · (intro w' hw'; go_simp; try with_reducible rfl)
      simp only [Act.put, List.setIfInBounds_toArray, List.set_cons_succ, List.set_cons_zero]
      refine hl_take 3 rfl (by kernel_rfl) (by rfl) (fun w' hw' => run_load1 101 _ rfl rfl (hC w' hw') _ Try.underlying101 rfl) hS0 (fun _ _ _ h => h) ?_
      simp only [Act.put, List.setIfInBounds_toArray, List.set_cons_succ, List.set_cons_zero]
      refine hl_take 4 rfl (by kernel_rfl) (by rfl) (fun w' hw' => load_key rfl rfl k (hK w' hw')) hS0 (fun _ _ _ h => h) ?_
      simp only [Act.put, List.setIfInBounds_toArray, List.set_cons_succ, List.set_cons_zero]
      refine hl_take 5 rfl (by kernel_rfl) (by rfl) (fun w' hw' => op_look2 keyCode 101 _ _ rfl Try.underlying101 (agg Place.zero) zval38 rfl k rfl ((hM2).fresh hw')) hS0 (fun _ _ _ h => h) ?_
      simp only [Act.put, List.setIfInBounds_toArray, List.set_cons_succ, List.set_cons_zero]
      simp only [look_elim]
      refine hl_take (v := ?_) 6 rfl (by kernel_rfl) (by rfl) ?_ hS0 (fun _ _ _ h => h) ?_
      rotate_left
      · (intro w' hw'; go_simp; try with_reducible rfl)
      simp only [Act.put, List.setIfInBounds_toArray, List.set_cons_succ, List.set_cons_zero]
      refine hl_take (v := ?_) 7 rfl (by kernel_rfl) (by rfl) ?_ hS0 (fun _ _ _ h => h) ?_
      rotate_left
      · (intro w' hw'; go_simp; try with_reducible rfl)
      simp only [Act.put, List.setIfInBounds_toArray, List.set_cons_succ, List.set_cons_zero]
      refine hl_take (v := ?_) 8 rfl (by kernel_rfl) (by rfl) ?_ hS0 (fun _ _ _ h => h) ?_
      rotate_left
      · (intro w' hw'; go_simp; try with_reducible rfl)
      simp only [Act.put, List.setIfInBounds_toArray, List.set_cons_succ, List.set_cons_zero]
      refine hl_one 9 (by kernel_rfl) (hs_val rfl (by rfl) (run_alloc 38 Place.zero zero38 rfl) (fresh_alloc hS0 _) ?_)
      simp only [Act.put, List.setIfInBounds_toArray, List.set_cons_succ, List.set_cons_zero]
      refine hl_one 10 (by kernel_rfl) (hs_skip rfl (by rfl) (run_store_new 38 _ _ rfl rfl rfl _ Place.zero rfl 38 s38) (fresh_alloc hS0 _) ?_)
      simp only [Act.put, List.setIfInBounds_toArray, List.set_cons_succ, List.set_cons_zero]
      refine hl_take (v := ?_) 11 rfl (by kernel_rfl) (by rfl) ?_ (fresh_alloc hS0 _) (fun _ _ _ h => h) ?_
      rotate_left
      · (intro w' hw'; go_simp; try with_reducible rfl)
      simp only [Act.put, List.setIfInBounds_toArray, List.set_cons_succ, List.set_cons_zero]
      refine hl_done (by kernel_rfl) ?_
      rw [hW3]
      simp only [Hlk.out]
      go_wp2
      go_ret
      exact ⟨rfl, (grown_weak (hb.trans (hb2.mono (by omega))) b).trans (grown_weak hb3 b), ((h.fresh hb).fresh hb2).fresh hb3⟩
    · have hend : ixAdd m k p = (0, put m k p) := by simp [ixAdd, hmay, hlk]
      rw [hend]
      have hlk' : (look m k).isSome = false := by simpa using hlk
      obtain ⟨W4, hrun, hM4, hg4, hs4⟩ := run_put keyCode 101 Try.underlying101 (w := W3.drew) (hM2.fresh (fresh_drew hb3)) k p
      have hS3 : W3.grownBy W3.drew (some b) := grown_weak (fresh_drew (fresh_refl W3)) b
      have hS4 : W3.grownBy W4 (some b) := hS3.trans hg4
      have hC3 : W3.cell? ⟨g, 0, none⟩ = some (.map (some b)) := hC W3 hb3
      have hC4 : ∀ w', W3.grownBy w' (some b) → w'.cell? ⟨g, 0, none⟩ = some (.map (some b)) := fun w' hw => hw.cell hC3 (by simpa using hne)
      have hK4 : ∀ w', W3.grownBy w' (some b) → w'.rangeAt w.heap.size 0 (Enc.enc k) := fun w' hw => range_grown (hK W3 hb3) hw (by simp; omega)
      have hP4 : ∀ w', W3.grownBy w' (some b) → w'.rangeAt (w.heap.size + 1) 0 (Enc.enc p) := fun w' hw => range_grown (range_fresh (range_fresh (range_block hp) hb2) hb3) hw (by simp; omega)
      have Hlk := Lib.hid hlk'
      clear hlk'
      have Hmay := Lib.hid hmay
      clear hmay
      clear hlk
      go_enter Try.func28, Try.ntmps28
      go_wp2_with (first
        | (refine st_val rfl (run_box 35 _ k rfl rfl) ?_)
        | (refine st_val rfl (run_box 38 _ p rfl rfl) ?_; rw [hW])
        | (go_at_call 45; refine (there_ok _ b _ (h.fresh hb).1).mono ?_; rintro e w' ⟨rfl, rfl⟩)
        | (refine st_val rfl (load_place rfl rfl p (range_block hp)) ?_)
        | (go_at_call 46; refine (may_ok p _).mono ?_; rintro e w' ⟨rfl, rfl⟩; simp only [Hmay.out, hW2]))
      refine held_lit (fun w' => Below (W2).heap.size W2 w') 12 rfl (by kernel_rfl) ?_
      refine hl_take (v := ?_) 0 rfl (by kernel_rfl) (by rfl) ?_ hS0 (fun _ _ _ h => h) ?_
      rotate_left
      · (intro w' hw'; go_simp; try with_reducible rfl)
      simp only [Act.put, List.setIfInBounds_toArray, List.set_cons_succ, List.set_cons_zero]
      refine hl_take (v := ?_) 1 rfl (by kernel_rfl) (by rfl) ?_ hS0 (fun _ _ _ h => h) ?_
      rotate_left
      · (intro w' hw'; go_simp; try with_reducible rfl)
      simp only [Act.put, List.setIfInBounds_toArray, List.set_cons_succ, List.set_cons_zero]
      refine hl_take (v := ?_) 2 rfl (by kernel_rfl) (by rfl) ?_ hS0 (fun _ _ _ h => h) ?_
      rotate_left
      · (intro w' hw'; go_simp; try with_reducible rfl)
      simp only [Act.put, List.setIfInBounds_toArray, List.set_cons_succ, List.set_cons_zero]
      refine hl_take 3 rfl (by kernel_rfl) (by rfl) (fun w' hw' => run_load1 101 _ rfl rfl (hC w' hw') _ Try.underlying101 rfl) hS0 (fun _ _ _ h => h) ?_
      simp only [Act.put, List.setIfInBounds_toArray, List.set_cons_succ, List.set_cons_zero]
      refine hl_take 4 rfl (by kernel_rfl) (by rfl) (fun w' hw' => load_key rfl rfl k (hK w' hw')) hS0 (fun _ _ _ h => h) ?_
      simp only [Act.put, List.setIfInBounds_toArray, List.set_cons_succ, List.set_cons_zero]
      refine hl_take 5 rfl (by kernel_rfl) (by rfl) (fun w' hw' => op_look2 keyCode 101 _ _ rfl Try.underlying101 (agg Place.zero) zval38 rfl k rfl ((hM2).fresh hw')) hS0 (fun _ _ _ h => h) ?_
      simp only [Act.put, List.setIfInBounds_toArray, List.set_cons_succ, List.set_cons_zero]
      simp only [look_elim]
      refine hl_take (v := ?_) 6 rfl (by kernel_rfl) (by rfl) ?_ hS0 (fun _ _ _ h => h) ?_
      rotate_left
      · (intro w' hw'; go_simp; try with_reducible rfl)
      simp only [Act.put, List.setIfInBounds_toArray, List.set_cons_succ, List.set_cons_zero]
      refine hl_take (v := ?_) 7 rfl (by kernel_rfl) (by rfl) ?_ hS0 (fun _ _ _ h => h) ?_
      rotate_left
      · (intro w' hw'; go_simp; try with_reducible rfl)
      simp only [Act.put, List.setIfInBounds_toArray, List.set_cons_succ, List.set_cons_zero]
      refine hl_take (v := ?_) 8 rfl (by kernel_rfl) (by rfl) ?_ hS0 (fun _ _ _ h => h) ?_
      rotate_left
      · (intro w' hw'; go_simp; try with_reducible rfl)
      simp only [Act.put, List.setIfInBounds_toArray, List.set_cons_succ, List.set_cons_zero]
      refine hl_one 9 (by kernel_rfl) (hs_val rfl (by rfl) (run_alloc 38 Place.zero zero38 rfl) (fresh_alloc hS0 _) ?_)
      simp only [Act.put, List.setIfInBounds_toArray, List.set_cons_succ, List.set_cons_zero]
      refine hl_one 10 (by kernel_rfl) (hs_skip rfl (by rfl) (run_store_new 38 _ _ rfl rfl rfl _ Place.zero rfl 38 s38) (fresh_alloc hS0 _) ?_)
      simp only [Act.put, List.setIfInBounds_toArray, List.set_cons_succ, List.set_cons_zero]
      refine hl_take (v := ?_) 11 rfl (by kernel_rfl) (by rfl) ?_ (fresh_alloc hS0 _) (fun _ _ _ h => h) ?_
      rotate_left
      · (intro w' hw'; go_simp; try with_reducible rfl)
      simp only [Act.put, List.setIfInBounds_toArray, List.set_cons_succ, List.set_cons_zero]
      refine hl_done (by kernel_rfl) ?_
      rw [hW3]
      simp only [Hlk.out]
      go_wp2
      refine held_lit (fun w' => (W3).grownBy w' (some b)) 7 rfl (by kernel_rfl) ?_
      refine hl_take (v := ?_) 0 rfl (by kernel_rfl) (by rfl) ?_ hS3 (fun _ _ _ h => h) ?_
      rotate_left
      · (intro w' hw'; go_simp; try with_reducible rfl)
      simp only [Act.put, List.setIfInBounds_toArray, List.set_cons_succ, List.set_cons_zero]
      refine hl_take (v := ?_) 1 rfl (by kernel_rfl) (by rfl) ?_ hS3 (fun _ _ _ h => h) ?_
      rotate_left
      · (intro w' hw'; go_simp; try with_reducible rfl)
      simp only [Act.put, List.setIfInBounds_toArray, List.set_cons_succ, List.set_cons_zero]
      refine hl_take (v := ?_) 2 rfl (by kernel_rfl) (by rfl) ?_ hS3 (fun _ _ _ h => h) ?_
      rotate_left
      · (intro w' hw'; go_simp; try with_reducible rfl)
      simp only [Act.put, List.setIfInBounds_toArray, List.set_cons_succ, List.set_cons_zero]
      refine hl_take 3 rfl (by kernel_rfl) (by rfl) (fun w' hw' => run_load1 101 _ rfl rfl (hC4 w' hw') _ Try.underlying101 rfl) hS3 (fun _ _ _ h => h) ?_
      simp only [Act.put, List.setIfInBounds_toArray, List.set_cons_succ, List.set_cons_zero]
      refine hl_take 4 rfl (by kernel_rfl) (by rfl) (fun w' hw' => load_key rfl rfl k (hK4 w' hw')) hS3 (fun _ _ _ h => h) ?_
      simp only [Act.put, List.setIfInBounds_toArray, List.set_cons_succ, List.set_cons_zero]
      refine hl_take 5 rfl (by kernel_rfl) (by rfl) (fun w' hw' => load_place rfl rfl p (hP4 w' hw')) hS3 (fun _ _ _ h => h) ?_
      simp only [Act.put, List.setIfInBounds_toArray, List.set_cons_succ, List.set_cons_zero]
      refine hl_one 6 (by kernel_rfl) (hs_skip rfl (by rfl) (op_put' 101 _ _ _ rfl rfl rfl rfl hrun) hS4 ?_)
      simp only [Act.put, List.setIfInBounds_toArray, List.set_cons_succ, List.set_cons_zero]
      refine hl_done (by kernel_rfl) ?_
      go_wp2
      go_ret
      refine ⟨rfl, ((grown_weak (hb.trans (hb2.mono (by omega))) b).trans (grown_weak hb3 b)).trans hS4, ?_, hM4⟩
      exact ((((h.fresh hb).fresh hb2).fresh hb3).1).grown hS4
  · have hend : ixAdd m k p = (2, m) := by simp [ixAdd, hmay]
    rw [hend]
    have hmay' : ixMay p = false := by simpa using hmay
    have Hmay := Lib.hid hmay'
    clear hmay'
    clear hmay
    go_enter Try.func28, Try.ntmps28
    go_wp2_with (first
      | (refine st_val rfl (run_box 35 _ k rfl rfl) ?_)
      | (refine st_val rfl (run_box 38 _ p rfl rfl) ?_; rw [hW])
      | (go_at_call 45; refine (there_ok _ b _ (h.fresh hb).1).mono ?_; rintro e w' ⟨rfl, rfl⟩)
      | (refine st_val rfl (load_place rfl rfl p (range_block hp)) ?_)
      | (go_at_call 46; refine (may_ok p _).mono ?_; rintro e w' ⟨rfl, rfl⟩; simp only [Hmay.out, hW2]))
    go_ret
    exact ⟨rfl, grown_weak (hb.trans (hb2.mono (by omega))) b, (h.fresh hb).fresh hb2⟩
end Go.Pb
