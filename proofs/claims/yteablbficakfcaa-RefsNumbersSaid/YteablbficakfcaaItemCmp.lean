/- The index's comparison of two items, by their keys. -/
import Derived.Test.YteablbficakfcaaBytes
import Derived.Test.YteablbficakfcaaIndexA
import Derived.Sort.Grow
set_option linter.unusedVariables false
set_option linter.unusedSimpArgs false
set_option linter.unusedSectionVars false
namespace Go.Pb
open Go.RowKit Go.Proofs Go.BigFrame

theorem item_keyAt {w : World} {b o : Nat} {i : Item} (h : w.rangeAt b o (Enc.enc i)) : w.rangeAt b (o + 1) (Enc.enc i.key) := by
  have hl : (encKey i.key).length = 32 := encKey_len _
  have := range_sub h 1 32
  have e : ((Enc.enc i).drop 1).take 32 = Enc.enc i.key := by
    show ((encItem i).drop 1).take 32 = encKey i.key
    simp [encItem, hl]
  rwa [e] at this
theorem enter_compare (args : Array Value) (w : World) : (callFunc 49 args).run Try.prog w = .ok (.enter 49 args) w := run_enter Try.func49 (by kernel_rfl) rfl args w
theorem itemCmp_ok (a b : Item) (w : World) : Calls Try.prog 48 #[agg a, agg b] w fun e w' => e = .returned (.int .i64 (kcmp a.key b.key)) ∧ ∃ q os', w' = Go.Sort.grow (w.drewN q) os' := by
  generalize hW : (w.alloc (.cells (Enc.enc a).toArray 42)).alloc (.cells (Enc.enc b).toArray 42) = W
  have h1 : W.rangeAt w.heap.size 1 (Enc.enc a.key) := by
    subst hW
    have := item_keyAt (range_block (heap_alloc_new w (.cells (Enc.enc a).toArray 42)))
    exact range_fresh this (fresh_alloc (fresh_refl _) _)
  have h2 : W.rangeAt (w.heap.size + 1) 1 (Enc.enc b.key) := by
    subst hW
    exact item_keyAt (range_block (heap_alloc2_new w _ (.cells (Enc.enc b).toArray 42)))
  have HW := Lib.hid hW
  clear hW
  go_enter Try.func48, Try.ntmps48
  go_wp2_with (first
    | (refine st_val rfl (run_box 42 _ a rfl rfl) ?_)
    | (refine st_val rfl (run_box 42 _ b rfl rfl) ?_; rw [HW.out]))
  refine wp_region_quiet_lit (by kernel_rfl) (by kernel_rfl) ?_
  first | go_big_quiet_step (fail) | (refine sq_val (v := ?_) (by rfl) ?_ ?_; rotate_left; (focus (rintro w' ⟨x, rfl⟩; go_simp; try with_reducible rfl)); simp only [Act.put, List.setIfInBounds_toArray, List.set_cons_succ, List.set_cons_zero])
  first | go_big_quiet_step (fail) | (refine sq_val (v := ?_) (by rfl) ?_ ?_; rotate_left; (focus (rintro w' ⟨x, rfl⟩; go_simp; try with_reducible rfl)); simp only [Act.put, List.setIfInBounds_toArray, List.set_cons_succ, List.set_cons_zero])
  first | go_big_quiet_step (fail) | (refine sq_val (v := ?_) (by rfl) ?_ ?_; rotate_left; (focus (rintro w' ⟨x, rfl⟩; go_simp; try with_reducible rfl)); simp only [Act.put, List.setIfInBounds_toArray, List.set_cons_succ, List.set_cons_zero])
  first | go_big_quiet_step (fail) | (refine sq_val (v := ?_) (by rfl) ?_ ?_; rotate_left; (focus (rintro w' ⟨x, rfl⟩; go_simp; try with_reducible rfl)); simp only [Act.put, List.setIfInBounds_toArray, List.set_cons_succ, List.set_cons_zero])
  refine sq_call (by rfl) 49 [.tmp 6, .tmp 8] _ rfl [.slice (some ⟨w.heap.size, 1, none⟩) 32 32, .slice (some ⟨w.heap.size + 1, 1, none⟩) 32 32] rfl enter_compare (fun w' hw' => (bytesCompare_ok a.key b.key _ _ _ _ _ _ w' (by obtain ⟨n, rfl⟩ := hw'; exact h1) (by obtain ⟨n, rfl⟩ := hw'; exact h2)).mono (fun _ _ h => ⟨h.1, by rw [← h.2]; exact hw'⟩)) ?_
  simp only [Act.put, List.setIfInBounds_toArray, List.set_cons_succ, List.set_cons_zero]
  first | go_big_quiet_step (fail) | (refine sq_val (v := ?_) (by rfl) ?_ ?_; rotate_left; (focus (rintro w' ⟨x, rfl⟩; go_simp; try with_reducible rfl)); simp only [Act.put, List.setIfInBounds_toArray, List.set_cons_succ, List.set_cons_zero])
  refine wpQuiet_nil ?_
  intro _ hw'
  obtain ⟨nq, hw''⟩ := hw'
  subst hw''
  go_wp2
  go_ret
  refine ⟨rfl, nq, #[.cells (Enc.enc a).toArray 42] ++ #[.cells (Enc.enc b).toArray 42], ?_⟩
  rw [← HW.out, Go.Sort.alloc_eq_grow, Go.Sort.alloc_eq_grow, Go.Sort.grow_grow]
  rfl
end Go.Pb
