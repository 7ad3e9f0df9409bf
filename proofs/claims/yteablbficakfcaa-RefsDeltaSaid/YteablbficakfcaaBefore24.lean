/- The document's order of keys, compared byte by byte. -/
import Derived.Test.YteablbficakfcaaRises
set_option linter.unusedVariables false
set_option linter.unusedSimpArgs false
set_option linter.unusedSectionVars false
namespace Go.Pb
open Go.RowKit Go.Proofs Go.BigFrame

set_option maxHeartbeats 2000000 in
theorem before24_ok (a b : Key) (w : World) : Calls Try.prog 60 #[agg a, agg b] w fun e w' => e = .returned (.bool (klt a b)) ∧ Below w.heap.size w w' := by
  generalize hW : (w.alloc (.cells (Enc.enc a).toArray 35)).alloc (.cells (Enc.enc b).toArray 35) = W
  have hb0 : Below w.heap.size w W := by subst hW; exact fresh_alloc (fresh_alloc (fresh_refl w) _) _
  have h1 : W.rangeAt w.heap.size 0 (Enc.enc a) := by subst hW; exact range_fresh (range_block (heap_alloc_new w _)) (fresh_alloc (fresh_refl _) _)
  have h2 : W.rangeAt (w.heap.size + 1) 0 (Enc.enc b) := by subst hW; exact range_block (heap_alloc2_new w _ _)
  have la := a.2
  have lb := b.2
  have HW := Lib.hid hW
  clear hW
  have LA := Lib.hid la
  clear la
  have LB := Lib.hid lb
  clear lb
  go_enter Try.func60, Try.ntmps60
  go_wp2_with (first
    | (refine st_val rfl (run_box 35 _ a rfl rfl) ?_)
    | (refine st_val rfl (run_box 35 _ b rfl rfl) ?_; rw [HW.out]))
  go_loopw [5] (fun i wr => ∃ k : Nat, k ≤ 32 ∧ i = .int .i64 k ∧ a.1.take k = b.1.take k ∧ ∃ n, wr = W.drewN n) (fun i _ => 32 - (RowKit.intOf i).toNat)
  case atStart => exact ⟨0, by omega, rfl, rfl, 0, rfl⟩
  case round =>
    obtain ⟨k, hk, rfl, heq, n, rfl⟩ := hrel
    have HEQ := Lib.hid heq
    clear heq
    by_cases hlt : k < 32
    · have hka : k < a.1.length := by rw [LA.out]; exact hlt
      have hkb : k < b.1.length := by rw [LB.out]; exact hlt
      have c1 := key_byte h1 hka
      have c2 := key_byte h2 hkb
      by_cases he : (a.1[k]'hka) = (b.1[k]'hkb)
      · have heb : decide (((a.1[k]'hka).toNat : Int) = ((b.1[k]'hkb).toNat : Int)) = !false := by rw [he]; simp
        have HEB := Lib.hid heb
        clear heb
        have HE := Lib.hid he
        clear he
        go_wp2
        refine wp_region_quiet_lit (by kernel_rfl) (by kernel_rfl) ?_
        first | go_big_quiet_step (fail) | (refine sq_val (v := ?_) (by rfl) ?_ ?_; rotate_left; (focus (rintro w' ⟨x, rfl⟩; go_simp; try with_reducible rfl)); simp only [Act.put, List.setIfInBounds_toArray, List.set_cons_succ, List.set_cons_zero])
        refine sq_val (by rfl) (fun w' hw' => run_elemA 35 5 32 _ _ rfl Try.underlying35 1 su8 rfl k rfl hlt) ?_
        simp only [Act.put, List.setIfInBounds_toArray, List.set_cons_succ, List.set_cons_zero]
        refine sq_val (by rfl) (fun w' hw' => run_load1 5 _ rfl rfl (by obtain ⟨m, rfl⟩ := hw'; rw [Nat.mul_one]; exact c1) _ Try.underlying5 rfl) ?_
        simp only [Act.put, List.setIfInBounds_toArray, List.set_cons_succ, List.set_cons_zero]
        first | go_big_quiet_step (fail) | (refine sq_val (v := ?_) (by rfl) ?_ ?_; rotate_left; (focus (rintro w' ⟨x, rfl⟩; go_simp; try with_reducible rfl)); simp only [Act.put, List.setIfInBounds_toArray, List.set_cons_succ, List.set_cons_zero])
        refine sq_val (by rfl) (fun w' hw' => run_elemA 35 5 32 _ _ rfl Try.underlying35 1 su8 rfl k rfl hlt) ?_
        simp only [Act.put, List.setIfInBounds_toArray, List.set_cons_succ, List.set_cons_zero]
        refine sq_val (by rfl) (fun w' hw' => run_load1 5 _ rfl rfl (by obtain ⟨m, rfl⟩ := hw'; rw [Nat.mul_one]; exact c2) _ Try.underlying5 rfl) ?_
        simp only [Act.put, List.setIfInBounds_toArray, List.set_cons_succ, List.set_cons_zero]
        refine sq_val (by rfl) (fun w' hw' => op_neq_u8 5 _ _ _ _ _ rfl Try.underlying5 rfl rfl false HEB.out) ?_
        simp only [Act.put, List.setIfInBounds_toArray, List.set_cons_succ, List.set_cons_zero]
        refine wpQuiet_nil ?_
        intro _ hw'
        obtain ⟨nq, hw''⟩ := hw'
        subst hw''
        go_wp2
        go_roundw
        case rel => exact ⟨k + 1, by omega, by go_num, take_succ_eq hka hkb HEQ.out HE.out, n + nq, by simp⟩
        case measure => simp [RowKit.intOf]; omega
      · have heb : decide (((a.1[k]'hka).toNat : Int) = ((b.1[k]'hkb).toNat : Int)) = !true := by
          rw [Bool.not_true, decide_eq_false_iff_not]
          intro e
          exact he (UInt8.toNat_inj.1 (by omega))
        have hkl := klt_first hka hkb HEQ.out he
        have hlt8 : decide ((a.1[k]'hka) < (b.1[k]'hkb)) = decide ((a.1[k]'hka).toNat < (b.1[k]'hkb).toNat) := by
          rw [decide_eq_decide, UInt8.lt_iff_toNat_lt]
        have HEB := Lib.hid heb
        clear heb
        have HKL := Lib.hid hkl
        clear hkl
        have HLT8 := Lib.hid hlt8
        clear hlt8
        go_wp2
        refine wp_region_quiet_lit (by kernel_rfl) (by kernel_rfl) ?_
        first | go_big_quiet_step (fail) | (refine sq_val (v := ?_) (by rfl) ?_ ?_; rotate_left; (focus (rintro w' ⟨x, rfl⟩; go_simp; try with_reducible rfl)); simp only [Act.put, List.setIfInBounds_toArray, List.set_cons_succ, List.set_cons_zero])
        refine sq_val (by rfl) (fun w' hw' => run_elemA 35 5 32 _ _ rfl Try.underlying35 1 su8 rfl k rfl hlt) ?_
        simp only [Act.put, List.setIfInBounds_toArray, List.set_cons_succ, List.set_cons_zero]
        refine sq_val (by rfl) (fun w' hw' => run_load1 5 _ rfl rfl (by obtain ⟨m, rfl⟩ := hw'; rw [Nat.mul_one]; exact c1) _ Try.underlying5 rfl) ?_
        simp only [Act.put, List.setIfInBounds_toArray, List.set_cons_succ, List.set_cons_zero]
        first | go_big_quiet_step (fail) | (refine sq_val (v := ?_) (by rfl) ?_ ?_; rotate_left; (focus (rintro w' ⟨x, rfl⟩; go_simp; try with_reducible rfl)); simp only [Act.put, List.setIfInBounds_toArray, List.set_cons_succ, List.set_cons_zero])
        refine sq_val (by rfl) (fun w' hw' => run_elemA 35 5 32 _ _ rfl Try.underlying35 1 su8 rfl k rfl hlt) ?_
        simp only [Act.put, List.setIfInBounds_toArray, List.set_cons_succ, List.set_cons_zero]
        refine sq_val (by rfl) (fun w' hw' => run_load1 5 _ rfl rfl (by obtain ⟨m, rfl⟩ := hw'; rw [Nat.mul_one]; exact c2) _ Try.underlying5 rfl) ?_
        simp only [Act.put, List.setIfInBounds_toArray, List.set_cons_succ, List.set_cons_zero]
        refine sq_val (by rfl) (fun w' hw' => op_neq_u8 5 _ _ _ _ _ rfl Try.underlying5 rfl rfl true HEB.out) ?_
        simp only [Act.put, List.setIfInBounds_toArray, List.set_cons_succ, List.set_cons_zero]
        refine wpQuiet_nil ?_
        intro _ hw'
        obtain ⟨nq, hw''⟩ := hw'
        subst hw''
        go_wp2
        refine wp_region_quiet_lit (by kernel_rfl) (by kernel_rfl) ?_
        first | go_big_quiet_step (fail) | (refine sq_val (v := ?_) (by rfl) ?_ ?_; rotate_left; (focus (rintro w' ⟨x, rfl⟩; go_simp; try with_reducible rfl)); simp only [Act.put, List.setIfInBounds_toArray, List.set_cons_succ, List.set_cons_zero])
        refine sq_val (by rfl) (fun w' hw' => run_elemA 35 5 32 _ _ rfl Try.underlying35 1 su8 rfl k rfl hlt) ?_
        simp only [Act.put, List.setIfInBounds_toArray, List.set_cons_succ, List.set_cons_zero]
        refine sq_val (by rfl) (fun w' hw' => run_load1 5 _ rfl rfl (by obtain ⟨m, rfl⟩ := hw'; rw [Nat.mul_one]; exact c1) _ Try.underlying5 rfl) ?_
        simp only [Act.put, List.setIfInBounds_toArray, List.set_cons_succ, List.set_cons_zero]
        first | go_big_quiet_step (fail) | (refine sq_val (v := ?_) (by rfl) ?_ ?_; rotate_left; (focus (rintro w' ⟨x, rfl⟩; go_simp; try with_reducible rfl)); simp only [Act.put, List.setIfInBounds_toArray, List.set_cons_succ, List.set_cons_zero])
        refine sq_val (by rfl) (fun w' hw' => run_elemA 35 5 32 _ _ rfl Try.underlying35 1 su8 rfl k rfl hlt) ?_
        simp only [Act.put, List.setIfInBounds_toArray, List.set_cons_succ, List.set_cons_zero]
        refine sq_val (by rfl) (fun w' hw' => run_load1 5 _ rfl rfl (by obtain ⟨m, rfl⟩ := hw'; rw [Nat.mul_one]; exact c2) _ Try.underlying5 rfl) ?_
        simp only [Act.put, List.setIfInBounds_toArray, List.set_cons_succ, List.set_cons_zero]
        first | go_big_quiet_step (fail) | (refine sq_val (v := ?_) (by rfl) ?_ ?_; rotate_left; (focus (rintro w' ⟨x, rfl⟩; go_simp; try with_reducible rfl)); simp only [Act.put, List.setIfInBounds_toArray, List.set_cons_succ, List.set_cons_zero])
        first | go_big_quiet_step (fail) | (refine sq_val (v := ?_) (by rfl) ?_ ?_; rotate_left; (focus (rintro w' ⟨x, rfl⟩; go_simp; try with_reducible rfl)); simp only [Act.put, List.setIfInBounds_toArray, List.set_cons_succ, List.set_cons_zero])
        refine wpQuiet_nil ?_
        intro _ hw'
        obtain ⟨nr, hw''⟩ := hw'
        subst hw''
        go_wp2
        go_ret
        exact ⟨by rw [HKL.out, HLT8.out]; rfl, fresh_trans hb0 (fresh_trans (fresh_drewN (fresh_refl W) n) (fresh_trans (fresh_drewN (fresh_refl _) nq) (fresh_drewN (fresh_refl _) nr)))⟩
    · have h32 : k = 32 := by omega
      subst h32
      clear hlt hk
      go_wp2
      go_ret
      refine ⟨?_, fresh_drewN hb0 n⟩
      have hab : a = b := by
        apply Subtype.ext
        have := HEQ.out
        rwa [List.take_of_length_le (by rw [LA.out]; omega), List.take_of_length_le (by rw [LB.out]; omega)] at this
      subst hab
      rw [klt_irrefl]
      rfl
theorem enter_before24 (args : Array Value) (w : World) : (callFunc 60 args).run Try.prog w = .ok (.enter 60 args) w := run_enter Try.func60 (by kernel_rfl) rfl args w
end Go.Pb
