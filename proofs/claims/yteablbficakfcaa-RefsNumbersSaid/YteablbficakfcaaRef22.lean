/- The document's answer for the index: May, below. -/
import Derived.Test.YteablbficakfcaaIndexA
import Derived.Test.YteablbficakfcaaBytes
import Derived.Laws.IdiomStrings
import Derived.Sort.Walk0
set_option linter.unusedVariables false
set_option linter.unusedSimpArgs false
set_option linter.unusedSectionVars false
namespace Go.Pb
open Go.RowKit Go.Proofs Go.BigFrame

set_option maxHeartbeats 2000000 in
theorem may22_ok (p : Place) (w : World) : Calls Try.prog 50 #[agg p] w fun e w' => e = .returned (.bool (ixMay p)) ∧ w.alloc (.cells (Enc.enc p).toArray 38) = w' := by
  have hr := range_block (heap_alloc_new w (.cells (Enc.enc p).toArray 38))
  have c0 : (w.alloc (.cells (Enc.enc p).toArray 38)).cell? ⟨w.heap.size, 0, none⟩ = some (.int .i64 p.at_) := hr 0 _ rfl
  have c1 : (w.alloc (.cells (Enc.enc p).toArray 38)).cell? ⟨w.heap.size, 1, none⟩ = some (.int .i64 p.sectors) := hr 1 _ rfl
  have c2 : (w.alloc (.cells (Enc.enc p).toArray 38)).cell? ⟨w.heap.size, 2, none⟩ = some (.int .i64 p.units) := hr 2 _ rfl
  have c3 : (w.alloc (.cells (Enc.enc p).toArray 38)).cell? ⟨w.heap.size, 3, none⟩ = some (.int .i64 p.refs) := hr 3 _ rfl
  clear hr
  go_enter Try.func50, Try.ntmps50
  by_cases h0 : 0 ≤ p.at_
  · by_cases h1 : p.at_ ≤ 262144
    · by_cases h2 : 1 ≤ p.sectors
      · by_cases h3 : p.sectors ≤ 1024
        · by_cases h4 : 1 ≤ p.units
          · by_cases h5 : p.units ≤ 16
            · by_cases h6 : 0 ≤ p.refs
              · by_cases h7 : p.refs ≤ 2147483647
                · go_wp2_with (refine st_val rfl (run_box 38 _ p rfl rfl) ?_)
                  go_ret
                  exact ⟨by simp [ixMay, ixFrom]; omega, rfl⟩
                · go_wp2_with (refine st_val rfl (run_box 38 _ p rfl rfl) ?_)
                  go_ret
                  exact ⟨by simp [ixMay, ixFrom]; omega, rfl⟩
              · go_wp2_with (refine st_val rfl (run_box 38 _ p rfl rfl) ?_)
                go_ret
                exact ⟨by simp [ixMay, ixFrom]; omega, rfl⟩
            · go_wp2_with (refine st_val rfl (run_box 38 _ p rfl rfl) ?_)
              go_ret
              exact ⟨by simp [ixMay, ixFrom]; omega, rfl⟩
          · go_wp2_with (refine st_val rfl (run_box 38 _ p rfl rfl) ?_)
            go_ret
            exact ⟨by simp [ixMay, ixFrom]; omega, rfl⟩
        · go_wp2_with (refine st_val rfl (run_box 38 _ p rfl rfl) ?_)
          go_ret
          exact ⟨by simp [ixMay, ixFrom]; omega, rfl⟩
      · go_wp2_with (refine st_val rfl (run_box 38 _ p rfl rfl) ?_)
        go_ret
        exact ⟨by simp [ixMay, ixFrom]; omega, rfl⟩
    · go_wp2_with (refine st_val rfl (run_box 38 _ p rfl rfl) ?_)
      go_ret
      exact ⟨by simp [ixMay, ixFrom]; omega, rfl⟩
  · go_wp2_with (refine st_val rfl (run_box 38 _ p rfl rfl) ?_)
    go_ret
    exact ⟨by simp [ixMay, ixFrom]; omega, rfl⟩

theorem op_convert {P : Program} {o : Oper} {ρ : Operand → Value} {w : World} (s d : TypeId) (x : Operand) (ho : o.op = .convert s d x) {v u : Value} (hx : ρ x = v) (h : (convert s d v).run P w = .ok u w) : (execOp ρ o).run P w = .ok (.value u) w := by
  unfold execOp
  simp [ho, hx, h, Result.andThen]
theorem run_keyString (w : World) (b o c : Nat) (k : Key) (h : w.rangeAt b o (Enc.enc k)) : (convert 60 9 (.slice (some ⟨b, o, none⟩) 32 c)).run Try.prog w = .ok (.string ⟨k.1.toArray⟩) w := by
  have h1 := run_convert_bytes_back (P := Try.prog) w 60 9 5 ⟨b, o, none⟩ c k.1 Try.underlying60 Try.underlying5 Try.underlying9 (fun j hj => by
    rw [Addr.add_mid]
    refine h j _ ?_
    show (encKey k)[j]? = _
    rw [encKey, List.getElem?_map, List.getElem?_eq_getElem hj]
    rfl)
  rw [k.2] at h1
  exact h1
theorem below_eq (a b : Key) : Op.bytesLess a.1 b.1 = klt a b := by
  rw [bytesLess_eq, Bool.eq_iff_iff, klt_iff]
  simp
theorem below22_ok (a b : Key) (w : World) : Calls Try.prog 85 #[agg a, agg b] w fun e w' => e = .returned (.bool (klt a b)) ∧ Below w.heap.size w w' := by
  generalize hW : (w.alloc (.cells (Enc.enc a).toArray 35)).alloc (.cells (Enc.enc b).toArray 35) = W
  have hb : Below w.heap.size w W := by subst hW; exact fresh_alloc (fresh_alloc (fresh_refl w) _) _
  have h1 : W.rangeAt w.heap.size 0 (Enc.enc a) := by
    subst hW
    exact range_fresh (range_block (heap_alloc_new w (.cells (Enc.enc a).toArray 35))) (fresh_alloc (fresh_refl _) _)
  have h2 : W.rangeAt (w.heap.size + 1) 0 (Enc.enc b) := by
    subst hW
    exact range_block (heap_alloc2_new w _ (.cells (Enc.enc b).toArray 35))
  have HW := Lib.hid hW
  clear hW
  go_enter Try.func85, Try.ntmps85
  go_wp2_with (first
    | (refine st_val rfl (run_box 35 _ a rfl rfl) ?_)
    | (refine st_val rfl (run_box 35 _ b rfl rfl) ?_; rw [HW.out]))
  refine wp_region_quiet_lit (by kernel_rfl) (by kernel_rfl) ?_
  first | go_big_quiet_step (fail) | (refine sq_val (v := ?_) (by rfl) ?_ ?_; rotate_left; (focus (rintro w' ⟨x, rfl⟩; go_simp; try with_reducible rfl)); simp only [Act.put, List.setIfInBounds_toArray, List.set_cons_succ, List.set_cons_zero])
  refine sq_val (by rfl) (fun w' hw' => op_convert (v := .slice (some ⟨w.heap.size, 0, none⟩) 32 32) _ _ _ rfl rfl (run_keyString w' _ _ _ a (by obtain ⟨n, rfl⟩ := hw'; exact h1))) ?_
  simp only [Act.put, List.setIfInBounds_toArray, List.set_cons_succ, List.set_cons_zero]
  first | go_big_quiet_step (fail) | (refine sq_val (v := ?_) (by rfl) ?_ ?_; rotate_left; (focus (rintro w' ⟨x, rfl⟩; go_simp; try with_reducible rfl)); simp only [Act.put, List.setIfInBounds_toArray, List.set_cons_succ, List.set_cons_zero])
  refine sq_val (by rfl) (fun w' hw' => op_convert (v := .slice (some ⟨w.heap.size + 1, 0, none⟩) 32 32) _ _ _ rfl rfl (run_keyString w' _ _ _ b (by obtain ⟨n, rfl⟩ := hw'; exact h2))) ?_
  simp only [Act.put, List.setIfInBounds_toArray, List.set_cons_succ, List.set_cons_zero]
  first | go_big_quiet_step (fail) | (refine sq_val (v := ?_) (by rfl) ?_ ?_; rotate_left; (focus (rintro w' ⟨x, rfl⟩; go_simp; try with_reducible rfl)); simp only [Act.put, List.setIfInBounds_toArray, List.set_cons_succ, List.set_cons_zero])
  first | go_big_quiet_step (fail) | (refine sq_val (v := ?_) (by rfl) ?_ ?_; rotate_left; (focus (rintro w' ⟨x, rfl⟩; go_simp; try with_reducible rfl)); simp only [Act.put, List.setIfInBounds_toArray, List.set_cons_succ, List.set_cons_zero])
  refine wpQuiet_nil ?_
  intro _ hw'
  obtain ⟨nq, hw''⟩ := hw'
  subst hw''
  rw [below_eq]
  go_wp2
  go_ret
  exact ⟨rfl, fresh_drewN hb _⟩
end Go.Pb
