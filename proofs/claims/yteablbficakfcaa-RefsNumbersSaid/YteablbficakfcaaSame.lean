/- The kit's comparisons of lists: two rows are one. -/
import Derived.Test.YteablbficakfcaaTypes
set_option linter.unusedVariables false
set_option linter.unusedSimpArgs false
set_option linter.unusedSectionVars false
namespace Go.Pb
open Go.RowKit Go.Proofs Go.BigFrame

theorem take_succ_eq {α : Type} {a b : List α} {k : Nat} (ha : k < a.length) (hb : k < b.length) (h : a.take k = b.take k) (he : a[k] = b[k]) : a.take (k + 1) = b.take (k + 1) := by
  rw [List.take_succ_eq_append_getElem ha, List.take_succ_eq_append_getElem hb, h, he]
theorem eq_of_take {α : Type} {a b : List α} {k : Nat} (hl : a.length = b.length) (h : a.take k = b.take k) (hk : a.length ≤ k) : a = b := by
  rwa [List.take_of_length_le hk, List.take_of_length_le (by omega)] at h
theorem ne_of_get {α : Type} {a b : List α} {k : Nat} (ha : k < a.length) (hb : k < b.length) (he : a[k] ≠ b[k]) : a ≠ b := fun e => by
  subst e
  exact he rfl
theorem int_bne_f {a b : Nat} (h : a = b) : ((a : Int) != (b : Int)) = false := by simp [h]
theorem int_bne_t {a b : Nat} (h : a ≠ b) : ((a : Int) != (b : Int)) = true := by simp; omega

set_option maxHeartbeats 400000 in
theorem SameCounts_ok (A B : Option Addr) (ca cb : Nat) (a b : List Count) (w : World) (hA : Reads w A a) (hB : Reads w B b) (hla : a.length ≤ 9223372036854775807) (hlb : b.length ≤ 9223372036854775807) :
    Calls Try.prog 14 #[.slice A a.length ca, .slice B b.length cb] w fun e w' => e = .returned (.bool (decide (a = b))) ∧ ∃ n, w' = w.drewN n := by
  by_cases hl : a.length = b.length
  · have hl0 := int_bne_f hl
    have Hl := Lib.hid hl
    clear hl
    go_enter Try.func14, Try.ntmps14
    go_wp2
    go_loopw [5] (fun i wr => ∃ k : Nat, k ≤ a.length ∧ i = .int .i64 k ∧ a.take k = b.take k ∧ ∃ n, wr = w.drewN n) (fun i _ => a.length - (intOf i).toNat)
    case atStart => exact ⟨0, Nat.zero_le _, rfl, rfl, 0, rfl⟩
    case round =>
      obtain ⟨k, hk, rfl, heq, n, rfl⟩ := hrel
      have Heq := Lib.hid heq
      clear heq
      by_cases hlt : k < a.length
      · have hltb : k < b.length := by rw [← Hl.out]; exact hlt
        obtain ⟨b1, o1, HA1, hr1⟩ := hA.at_n hlt 33 rfl
        obtain ⟨b2, o2, HB1, hr2⟩ := hB.at_n hltb 33 rfl
        subst HA1 HB1
        clear hA hB
        by_cases he : a[k]'hlt = b[k]'hltb
        · have He := Lib.hid he
          clear he
          go_wp2
          refine wp_region_quiet_lit (by kernel_rfl) (by kernel_rfl) ?_
          go_big_quiet_step (fail)
          go_big_quiet_step (fail)
          refine sq_val (by rfl) (fun w' hw' => elem_count rfl rfl rfl hlt) ?_
          simp only [Act.put, List.setIfInBounds_toArray, List.set_cons_succ, List.set_cons_zero]
          refine sq_val (by rfl) (fun w' hw' => load_count rfl rfl (a[k]'hlt) (by obtain ⟨m, rfl⟩ := hw'; exact hr1)) ?_
          simp only [Act.put, List.setIfInBounds_toArray, List.set_cons_succ, List.set_cons_zero]
          go_big_quiet_step (fail)
          go_big_quiet_step (fail)
          refine sq_val (by rfl) (fun w' hw' => elem_count rfl rfl rfl hltb) ?_
          simp only [Act.put, List.setIfInBounds_toArray, List.set_cons_succ, List.set_cons_zero]
          refine sq_val (by rfl) (fun w' hw' => load_count rfl rfl (b[k]'hltb) (by obtain ⟨m, rfl⟩ := hw'; exact hr2)) ?_
          simp only [Act.put, List.setIfInBounds_toArray, List.set_cons_succ, List.set_cons_zero]
          refine sq_val (by rfl) (fun w' hw' => neq_count_f rfl rfl rfl He.out) ?_
          simp only [Act.put, List.setIfInBounds_toArray, List.set_cons_succ, List.set_cons_zero]
          refine wpQuiet_nil ?_
          intro _ hw'
          obtain ⟨nq, hw''⟩ := hw'
          subst hw''
          go_wp2
          go_roundw
          case rel => exact ⟨k + 1, by omega, by go_num, take_succ_eq hlt hltb Heq.out He.out, n + nq, by simp⟩
          case measure => simp [intOf]; omega
        · go_wp2
          refine wp_region_quiet_lit (by kernel_rfl) (by kernel_rfl) ?_
          go_big_quiet_step (fail)
          go_big_quiet_step (fail)
          refine sq_val (by rfl) (fun w' hw' => elem_count rfl rfl rfl hlt) ?_
          simp only [Act.put, List.setIfInBounds_toArray, List.set_cons_succ, List.set_cons_zero]
          refine sq_val (by rfl) (fun w' hw' => load_count rfl rfl (a[k]'hlt) (by obtain ⟨m, rfl⟩ := hw'; exact hr1)) ?_
          simp only [Act.put, List.setIfInBounds_toArray, List.set_cons_succ, List.set_cons_zero]
          go_big_quiet_step (fail)
          go_big_quiet_step (fail)
          refine sq_val (by rfl) (fun w' hw' => elem_count rfl rfl rfl hltb) ?_
          simp only [Act.put, List.setIfInBounds_toArray, List.set_cons_succ, List.set_cons_zero]
          refine sq_val (by rfl) (fun w' hw' => load_count rfl rfl (b[k]'hltb) (by obtain ⟨m, rfl⟩ := hw'; exact hr2)) ?_
          simp only [Act.put, List.setIfInBounds_toArray, List.set_cons_succ, List.set_cons_zero]
          refine sq_val (by rfl) (fun w' hw' => neq_count_t rfl rfl rfl he) ?_
          simp only [Act.put, List.setIfInBounds_toArray, List.set_cons_succ, List.set_cons_zero]
          refine wpQuiet_nil ?_
          intro _ hw'
          obtain ⟨nq, hw''⟩ := hw'
          subst hw''
          go_wp2
          go_ret
          exact ⟨by rw [decide_eq_false (ne_of_get hlt hltb he)]; rfl, n + nq, by simp⟩
      · go_wp2
        go_ret
        exact ⟨by rw [decide_eq_true (eq_of_take Hl.out Heq.out (by omega))]; rfl, n, rfl⟩
  · have hl0 := int_bne_t hl
    go_enter Try.func14, Try.ntmps14
    go_wp2
    go_ret
    exact ⟨by rw [decide_eq_false (fun e => hl (by rw [e]))]; rfl, 0, rfl⟩
set_option maxHeartbeats 400000 in
theorem SameItems_ok (A B : Option Addr) (ca cb : Nat) (a b : List Item) (w : World) (hA : Reads w A a) (hB : Reads w B b) (hla : a.length ≤ 9223372036854775807) (hlb : b.length ≤ 9223372036854775807) :
    Calls Try.prog 31 #[.slice A a.length ca, .slice B b.length cb] w fun e w' => e = .returned (.bool (decide (a = b))) ∧ ∃ n, w' = w.drewN n := by
  by_cases hl : a.length = b.length
  · have hl0 := int_bne_f hl
    have Hl := Lib.hid hl
    clear hl
    go_enter Try.func31, Try.ntmps31
    go_wp2
    go_loopw [5] (fun i wr => ∃ k : Nat, k ≤ a.length ∧ i = .int .i64 k ∧ a.take k = b.take k ∧ ∃ n, wr = w.drewN n) (fun i _ => a.length - (intOf i).toNat)
    case atStart => exact ⟨0, Nat.zero_le _, rfl, rfl, 0, rfl⟩
    case round =>
      obtain ⟨k, hk, rfl, heq, n, rfl⟩ := hrel
      have Heq := Lib.hid heq
      clear heq
      by_cases hlt : k < a.length
      · have hltb : k < b.length := by rw [← Hl.out]; exact hlt
        obtain ⟨b1, o1, HA1, hr1⟩ := hA.at_n hlt 73 rfl
        obtain ⟨b2, o2, HB1, hr2⟩ := hB.at_n hltb 73 rfl
        subst HA1 HB1
        clear hA hB
        by_cases he : a[k]'hlt = b[k]'hltb
        · have He := Lib.hid he
          clear he
          go_wp2
          refine wp_region_quiet_lit (by kernel_rfl) (by kernel_rfl) ?_
          go_big_quiet_step (fail)
          go_big_quiet_step (fail)
          refine sq_val (by rfl) (fun w' hw' => elem_item rfl rfl rfl hlt) ?_
          simp only [Act.put, List.setIfInBounds_toArray, List.set_cons_succ, List.set_cons_zero]
          refine sq_val (by rfl) (fun w' hw' => load_item rfl rfl (a[k]'hlt) (by obtain ⟨m, rfl⟩ := hw'; exact hr1)) ?_
          simp only [Act.put, List.setIfInBounds_toArray, List.set_cons_succ, List.set_cons_zero]
          go_big_quiet_step (fail)
          go_big_quiet_step (fail)
          refine sq_val (by rfl) (fun w' hw' => elem_item rfl rfl rfl hltb) ?_
          simp only [Act.put, List.setIfInBounds_toArray, List.set_cons_succ, List.set_cons_zero]
          refine sq_val (by rfl) (fun w' hw' => load_item rfl rfl (b[k]'hltb) (by obtain ⟨m, rfl⟩ := hw'; exact hr2)) ?_
          simp only [Act.put, List.setIfInBounds_toArray, List.set_cons_succ, List.set_cons_zero]
          refine sq_val (by rfl) (fun w' hw' => neq_item_f rfl rfl rfl He.out) ?_
          simp only [Act.put, List.setIfInBounds_toArray, List.set_cons_succ, List.set_cons_zero]
          refine wpQuiet_nil ?_
          intro _ hw'
          obtain ⟨nq, hw''⟩ := hw'
          subst hw''
          go_wp2
          go_roundw
          case rel => exact ⟨k + 1, by omega, by go_num, take_succ_eq hlt hltb Heq.out He.out, n + nq, by simp⟩
          case measure => simp [intOf]; omega
        · go_wp2
          refine wp_region_quiet_lit (by kernel_rfl) (by kernel_rfl) ?_
          go_big_quiet_step (fail)
          go_big_quiet_step (fail)
          refine sq_val (by rfl) (fun w' hw' => elem_item rfl rfl rfl hlt) ?_
          simp only [Act.put, List.setIfInBounds_toArray, List.set_cons_succ, List.set_cons_zero]
          refine sq_val (by rfl) (fun w' hw' => load_item rfl rfl (a[k]'hlt) (by obtain ⟨m, rfl⟩ := hw'; exact hr1)) ?_
          simp only [Act.put, List.setIfInBounds_toArray, List.set_cons_succ, List.set_cons_zero]
          go_big_quiet_step (fail)
          go_big_quiet_step (fail)
          refine sq_val (by rfl) (fun w' hw' => elem_item rfl rfl rfl hltb) ?_
          simp only [Act.put, List.setIfInBounds_toArray, List.set_cons_succ, List.set_cons_zero]
          refine sq_val (by rfl) (fun w' hw' => load_item rfl rfl (b[k]'hltb) (by obtain ⟨m, rfl⟩ := hw'; exact hr2)) ?_
          simp only [Act.put, List.setIfInBounds_toArray, List.set_cons_succ, List.set_cons_zero]
          refine sq_val (by rfl) (fun w' hw' => neq_item_t rfl rfl rfl he) ?_
          simp only [Act.put, List.setIfInBounds_toArray, List.set_cons_succ, List.set_cons_zero]
          refine wpQuiet_nil ?_
          intro _ hw'
          obtain ⟨nq, hw''⟩ := hw'
          subst hw''
          go_wp2
          go_ret
          exact ⟨by rw [decide_eq_false (ne_of_get hlt hltb he)]; rfl, n + nq, by simp⟩
      · go_wp2
        go_ret
        exact ⟨by rw [decide_eq_true (eq_of_take Hl.out Heq.out (by omega))]; rfl, n, rfl⟩
  · have hl0 := int_bne_t hl
    go_enter Try.func31, Try.ntmps31
    go_wp2
    go_ret
    exact ⟨by rw [decide_eq_false (fun e => hl (by rw [e]))]; rfl, 0, rfl⟩
end Go.Pb
