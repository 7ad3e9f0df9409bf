/- RefsSums, the walk. -/
import Derived.Test.YteablbficakfcaaRefsSumsL
import Derived.Test.YteablbficakfcaaRises
import Derived.Test.YteablbficakfcaaLaw24B
import Derived.Test.YteablbficakfcaaOwnMore
import Derived.Test.YteablbficakfcaaArith
set_option linter.unusedVariables false
set_option linter.unusedSimpArgs false
set_option linter.unusedSectionVars false
namespace Go.Pb
open Go.RowKit Go.Proofs Go.BigFrame

theorem enter_rises (args : Array Value) (w : World) : (callFunc 24 args).run Try.prog w = .ok (.enter 24 args) w := run_enter Try.func24 (by kernel_rfl) rfl args w
set_option maxRecDepth 100000 in
set_option maxHeartbeats 400000 in
theorem refsSums_ok (A : Option Addr) (c : Nat) (la : List Item) (B : Option Addr) (cb : Nat) (lb : List Item) (w : World) (hA : Reads w A la) (hB : Reads w B lb) :
    Calls Try.prog 6 #[.slice A la.length c, .slice B lb.length cb] w fun e w' => e = .returned (.bool true) ∧ Below w.heap.size w w' := by
  by_cases h1 : 300 < la.length
  · go_enter Try.func6, Try.ntmps6
    go_wp2_with (go_at_call 11; refine (awake24_ok _).mono ?_; rintro e w1 ⟨rfl, hb1⟩)
    go_ret
    exact ⟨rfl, hb1⟩
  by_cases h2 : 300 < lb.length
  · go_enter Try.func6, Try.ntmps6
    go_wp2_with (go_at_call 11; refine (awake24_ok _).mono ?_; rintro e w1 ⟨rfl, hb1⟩)
    go_ret
    exact ⟨rfl, hb1⟩
  have ha3 : la.length ≤ 300 := by omega
  have hb3 : lb.length ≤ 300 := by omega
  go_enter Try.func6, Try.ntmps6
  go_wp2_with (go_at_call 11; refine (awake24_ok _).mono ?_; rintro e w1 ⟨rfl, hb1⟩)
  refine (count_ok A c la w1 (hA.fresh hb1) (by omega)).mono ?_
  rintro e w2 ⟨vX, X, rfl, hOX, hTX, hb2⟩
  have hbw2 := fresh_trans hb1 hb2
  have hO0 := Owns.row0 (α := Item) w2 w2.heap.size 42 (Nat.le_refl _)
  have hbw3 := fresh_alloc hbw2 (.cells #[] 42)
  have hr3 := fresh_alloc (fresh_refl w2) (.cells #[] 42)
  have hs3 : w2.heap.size ≤ (w2.alloc (.cells #[] 42)).heap.size := by simp
  have hAr3 := hA.fresh hbw3
  have hbg0 : (([] : List Item).length + la.length) * 136 ≤ 140737488355328 := by simp; omega
  have hbg1 : (la.length + lb.length) * 136 ≤ 140737488355328 := by omega
  have hz2 := hbw2.size
  go_wp2_with (first
    | (refine st_val rfl (run_row0 22 42 rfl Try.underlying22 73 s42) ?_;
       generalize w2.alloc (.cells #[] 42) = w3 at hO0 hbw3 hr3 hs3 hAr3 ⊢;
       generalize Value.slice (some ⟨w2.heap.size, 0, none⟩) 0 0 = v0 at hO0 ⊢)
    | (at_builtin; refine st_append w2.heap.size rfl _ _ 22 42 rfl Try.underlying22 Item.zero 136 info42 (by decide) v0 [] la rfl rfl hO0 hAr3 hbg0 hs3 (fun v1 w4 hO1 hg1 hat1 => ?_);
       rw [List.nil_append] at hO1;
       have hbw4 := fresh_own hbw3 hO0 hg1 hz2;
       have hr4 := fresh_own hr3 hO0 hg1 (Nat.le_refl _);
       have hBr4 := hB.fresh hbw4;
       have hs4 := hr4.size)
    | (at_builtin; refine st_append w2.heap.size rfl _ _ 22 42 rfl Try.underlying22 Item.zero 136 info42 (by decide) v1 la lb rfl rfl hO1 hBr4 hbg1 hs4 (fun v2 w5 hO2 hg2 hat2 => ?_);
       have hbw5 := fresh_own hbw4 hO1 hg2 hz2;
       have hr5 := fresh_own hr4 hO1 hg2 (Nat.le_refl _);
       obtain ⟨AB, cab, rfl, hRab, -⟩ := hO2.shape))
  have hcnt := count_ok AB cab (la ++ lb) w5 hRab (by rw [List.length_append]; omega)
  rw [List.length_append] at hcnt
  refine hcnt.mono ?_
  rintro e w6 ⟨vY, Y, rfl, hOY, hTY, hb6⟩
  have hbw6 := fresh_trans hbw5 hb6
  have hOX6 := (hOX.fresh hr5).fresh hb6
  obtain ⟨AX, cX, rfl, hRX6, -⟩ := hOX6.shape
  obtain ⟨AY, cY, rfl, hRY6, -⟩ := hOY.shape
  obtain ⟨hXr, hXl, hXt⟩ := counts_fine ha3 hTX
  have hYl : Y.length ≤ 400000 := by
    have := hTY.len
    have := List.length_filter_le nzB (countMap (la ++ lb))
    have := countMap_len (la ++ lb)
    rw [List.length_append] at this
    omega
  go_wp2_with (fail)
  refine (delta_ok AX AY cX cY X Y w6 hRX6 hRY6 (by omega) hYl).mono ?_
  rintro e w7 ⟨vD, D, rfl, hOD, hTD, hb7⟩
  have hbw7 := fresh_trans hbw6 hb7
  go_wp2_with (fail)
  refine (count_ok B cb lb w7 (hB.fresh hbw7) (by omega)).mono ?_
  rintro e w8 ⟨vZ, Z, rfl, hOZ, hTZ, hb8⟩
  have hbw8 := fresh_trans hbw7 hb8
  have hDZ := sums_delta ha3 hb3 hTX hTY hTD hTZ
  obtain ⟨AZ, cZ, rfl, hRZ, -⟩ := hOZ.shape
  have hZl : Z.length ≤ 1000000 := by
    have := (counts_fine hb3 hTZ).2.1
    omega
  go_wp2_with (fail)
  refine (samec_ok D Z AZ cZ w8 (hOD.fresh hb8) hRZ hZl true (by simpa using hDZ)).mono ?_
  rintro e w9 ⟨rfl, hb9⟩
  have hbw9 := fresh_trans hbw8 hb9
  have h69 := fresh_trans (fresh_trans hb7 hb8) hb9
  have hRX9 := hRX6.fresh h69
  go_wp2_with (fail)
  refine (delta_ok AX AX cX cX X X w9 hRX9 hRX9 (by omega) (by omega)).mono ?_
  rintro e w10 ⟨vD2, D2, rfl, hOD2, hTD2, hb10⟩
  have hD2 := sums_none hTD2
  subst hD2
  obtain ⟨A2, c2, rfl, -, -⟩ := hOD2.shape
  have hbw10 := fresh_trans hbw9 hb10
  have hRX10 := hRX9.fresh hb10
  go_wp2_with (fail)
  refine (delta_ok none AX 0 cX [] X w10 (Reads.nil _ _) hRX10 (by simp) (by omega)).mono ?_
  rintro e w11 ⟨vD3, D3, rfl, hOD3, hTD3, hb11⟩
  have hD3 := sums_same ha3 hTX hTD3
  have hbw11 := fresh_trans hbw10 hb11
  have hRX11 := hRX10.fresh hb11
  go_wp2_with (fail)
  refine (samec_ok D3 X AX cX w11 hOD3 hRX11 (by omega) true (by simpa using hD3)).mono ?_
  rintro e w12 ⟨rfl, hb12⟩
  have hbw12 := fresh_trans hbw11 hb12
  have hRX := hRX11.fresh hb12
  clear hRX6 hRX9 hRX10 hRX11 hOX hOX6 hOY hRY6 hRab hO2 hO1 hO0 hOD hOD2 hOD3 hOZ hRZ hTY hTD hTZ hTD2 hTD3 hb1 hb2 hbw2 hbw3 hr3 hs3 hbw4 hr4 hbw5 hr5 hb6 hbw6 hb7 hbw7 hb8 hbw8 hb9 hbw9 h69 hb10 hbw10 hb11 hbw11 hb12 hDZ hD3 hg1 hg2 hat1 hat2
  have hst := hTX.strict
  have HST := Lib.hid hst
  clear hst
  have HXT := Lib.hid hXt
  clear hXt
  go_wp2
  go_loopw [8, 10] (fun v i wr => ∃ (k : Nat), k ≤ la.length ∧ i = .int .i64 k ∧ v = .int .i64 (slicesOf (la.take k)) ∧ w12 = wr) (fun _ i _ => la.length - (RowKit.intOf i).toNat)
  case atStart => exact ⟨0, by omega, rfl, rfl, rfl⟩
  case round =>
    obtain ⟨k, hk, rfl, rfl, rfl⟩ := hrel
    by_cases hlt : k < la.length
    · obtain ⟨b1, o1, rfl, hr1⟩ := hA.at_n hlt 73 rfl
      have hr2 := range_fresh hr1 hbw12
      have htk := slicesOf_take la k hlt
      have hsb := slicesOf_bound (la.take k)
      have hsl : (la.take k).length ≤ 300 := by rw [List.length_take]; omega
      generalize hi : la[k]'hlt = i at hr2 htk
      have hkc : w12.cell? ⟨b1, o1 + k * 73 + 0, none⟩ = some (.int .u8 (i.kind.toNat : Int)) := hr2 0 _ rfl
      have HI := Lib.hid hi
      clear hi
      by_cases hkd : i.kind = 2
      · rw [if_pos hkd] at htk
        have hkc2 : w12.cell? ⟨b1, o1 + k * 73 + 0, none⟩ = some (.int .u8 2) := by rw [hkc, (u8_two _).2 hkd]
        have hkc3 := hkc2
        rw [Nat.add_zero] at hkc3
        clear hkc
        have HKD := Lib.hid hkd
        clear hkd
        have HTK := Lib.hid htk
        clear htk
        go_wp2_with (first
          | (refine st_val rfl (elem_item rfl rfl rfl hlt) ?_)
          | (refine st_val rfl (run_faddr 42 _ 0 rfl rfl _ Try.underlying42 0 _ rfl rfl 0 s36) ?_)
          | (refine st_val rfl (run_load1 36 _ rfl rfl ?_ _ Try.underlying36 rfl) ?_; (first | with_reducible exact hkc2 | with_reducible exact hkc3)))
        go_roundw
        case rel =>
          refine ⟨k + 1, by omega, by go_num, ?_⟩
          rw [HTK.out]
          exact ⟨rfl, trivial⟩
        case measure => simp [RowKit.intOf]; omega
      · rw [if_neg hkd, Int.add_zero] at htk
        have hkd2 : ¬ (i.kind.toNat : Int) = 2 := fun h => hkd ((u8_two _).1 h)
        have hkd3 : ¬ i.kind.toNat = 2 := fun h => hkd2 (by omega)
        have hkc3 := hkc
        rw [Nat.add_zero] at hkc3
        have HKD := Lib.hid hkd
        clear hkd
        have HTK := Lib.hid htk
        clear htk
        go_wp2_with (first
          | (refine st_val rfl (elem_item rfl rfl rfl hlt) ?_)
          | (refine st_val rfl (run_faddr 42 _ 0 rfl rfl _ Try.underlying42 0 _ rfl rfl 0 s36) ?_)
          | (refine st_val rfl (run_load1 36 _ rfl rfl ?_ _ Try.underlying36 rfl) ?_; (first | with_reducible exact hkc | with_reducible exact hkc3)))
        go_roundw
        case rel =>
          refine ⟨k + 1, by omega, by go_num, ?_⟩
          rw [HTK.out]
          exact ⟨rfl, trivial⟩
        case measure => simp [RowKit.intOf]; omega
    · have hkl : la.take k = la := List.take_of_length_le (by omega)
      rw [hkl]
      clear hkl
      go_wp2
      clear hlt hk
      go_loopw [9, 11] (fun v i wr => ∃ (k : Nat), k ≤ X.length ∧ i = .int .i64 k ∧ v = .int .i64 (tot (X.take k)) ∧ Below w12.heap.size w12 wr) (fun _ i _ => X.length - (RowKit.intOf i).toNat)
      case atStart => exact ⟨0, by omega, rfl, rfl, fresh_refl _⟩
      case round =>
        obtain ⟨k, hk, rfl, rfl, hbr⟩ := hrel
        have hbw := fresh_trans hbw12 hbr
        by_cases hlt : k < X.length
        · have hrf := hXr X[k] (List.getElem_mem hlt)
          have htb := tot_bound (X.take k) (fun c hc => hXr c (List.mem_of_mem_take hc))
          have htl : (X.take k).length ≤ 300 := by rw [List.length_take]; omega
          have htk := tot_take X k hlt
          have hRXr := hRX.fresh hbr
          obtain ⟨b1, o1, rfl, hr1⟩ := hRXr.at_n hlt 33 rfl
          have hrc := count_refsAt hr1
          have hkr := count_keyAt hr1
          generalize hrr : (X[k]'hlt).refs = r at hrf htk hrc
          have hdl : decide (r < 1) = false := by simp; omega
          have HTK := Lib.hid htk
          clear htk
          have HRR := Lib.hid hrr
          clear hrr
          have HDL := Lib.hid hdl
          clear hdl
          go_wp2_with (first
            | (refine st_val rfl (elem_count rfl rfl rfl hlt) ?_)
            | (refine st_val rfl (run_faddr 45 _ 1 rfl rfl _ Try.underlying45 32 _ rfl rfl 0 sint') ?_)
            | (refine st_val rfl (run_load1 3 _ rfl rfl ?_ _ Try.underlying3 rfl) ?_; (with_reducible exact hrc)))
          have hrF : ∀ w', (∃ x : Fr wr, w' = x.1) → w'.cell? ⟨b1, o1 + k * 33 + 32, none⟩ = some (.int .i64 r) := by
            rintro _ ⟨x, rfl⟩
            rw [← HRR.out]
            exact count_refsAt (range_fresh hr1 x.2)
          by_cases hk0 : k = 0
          · have hgt : decide (0 < k) = false := by simp; omega
            have HGT := Lib.hid hgt
            clear hgt
            refine wp_region_fresh_lit (by kernel_rfl) (by kernel_rfl) ?_
            first | go_big_quiet_step (fail) | (refine sq_val (v := ?_) (by rfl) ?_ ?_; rotate_left; (focus (rintro w' ⟨x, rfl⟩; go_simp; try with_reducible rfl)); simp only [Act.put, List.setIfInBounds_toArray, List.set_cons_succ, List.set_cons_zero])
            first | go_big_quiet_step (fail) | (refine sq_val (v := ?_) (by rfl) ?_ ?_; rotate_left; (focus (rintro w' ⟨x, rfl⟩; go_simp; try with_reducible rfl)); simp only [Act.put, List.setIfInBounds_toArray, List.set_cons_succ, List.set_cons_zero])
            refine sq_val (by rfl) (fun w' hw' => elem_count rfl rfl rfl hlt) ?_
            simp only [Act.put, List.setIfInBounds_toArray, List.set_cons_succ, List.set_cons_zero]
            refine sq_val (by rfl) (fun w' hw' => run_faddr 45 _ 1 rfl rfl _ Try.underlying45 32 _ rfl rfl 0 sint') ?_
            simp only [Act.put, List.setIfInBounds_toArray, List.set_cons_succ, List.set_cons_zero]
            refine sq_val (by rfl) (fun w' hw' => run_load1 3 _ rfl rfl (hrF w' hw') _ Try.underlying3 rfl) ?_
            simp only [Act.put, List.setIfInBounds_toArray, List.set_cons_succ, List.set_cons_zero]
            first | go_big_quiet_step (fail) | (refine sq_val (v := ?_) (by rfl) ?_ ?_; rotate_left; (focus (rintro w' ⟨x, rfl⟩; go_simp; try with_reducible rfl)); simp only [Act.put, List.setIfInBounds_toArray, List.set_cons_succ, List.set_cons_zero])
            rw [HDL.out]
            first | go_big_quiet_step (fail) | (refine sq_val (v := ?_) (by rfl) ?_ ?_; rotate_left; (focus (rintro w' ⟨x, rfl⟩; go_simp; try with_reducible rfl)); simp only [Act.put, List.setIfInBounds_toArray, List.set_cons_succ, List.set_cons_zero])
            first | go_big_quiet_step (fail) | (refine sq_val (v := ?_) (by rfl) ?_ ?_; rotate_left; (focus (rintro w' ⟨x, rfl⟩; go_simp; try with_reducible rfl)); simp only [Act.put, List.setIfInBounds_toArray, List.set_cons_succ, List.set_cons_zero])
            first | go_big_quiet_step (fail) | (refine sq_val (v := ?_) (by rfl) ?_ ?_; rotate_left; (focus (rintro w' ⟨x, rfl⟩; go_simp; try with_reducible rfl)); simp only [Act.put, List.setIfInBounds_toArray, List.set_cons_succ, List.set_cons_zero])
            try rw [HGT.out]
            first | go_big_quiet_step (fail) | (refine sq_val (v := ?_) (by rfl) ?_ ?_; rotate_left; (focus (rintro w' ⟨x, rfl⟩; go_simp; try with_reducible rfl)); simp only [Act.put, List.setIfInBounds_toArray, List.set_cons_succ, List.set_cons_zero])
            first | go_big_quiet_step (fail) | (refine sq_val (v := ?_) (by rfl) ?_ ?_; rotate_left; (focus (rintro w' ⟨x, rfl⟩; go_simp; try with_reducible rfl)); simp only [Act.put, List.setIfInBounds_toArray, List.set_cons_succ, List.set_cons_zero])
            first | go_big_quiet_step (fail) | (refine sq_val (v := ?_) (by rfl) ?_ ?_; rotate_left; (focus (rintro w' ⟨x, rfl⟩; go_simp; try with_reducible rfl)); simp only [Act.put, List.setIfInBounds_toArray, List.set_cons_succ, List.set_cons_zero])
            first | go_big_quiet_step (fail) | (refine sq_val (v := ?_) (by rfl) ?_ ?_; rotate_left; (focus (rintro w' ⟨x, rfl⟩; go_simp; try with_reducible rfl)); simp only [Act.put, List.setIfInBounds_toArray, List.set_cons_succ, List.set_cons_zero])
            first | go_big_quiet_step (fail) | (refine sq_val (v := ?_) (by rfl) ?_ ?_; rotate_left; (focus (rintro w' ⟨x, rfl⟩; go_simp; try with_reducible rfl)); simp only [Act.put, List.setIfInBounds_toArray, List.set_cons_succ, List.set_cons_zero])
            first | go_big_quiet_step (fail) | (refine sq_val (v := ?_) (by rfl) ?_ ?_; rotate_left; (focus (rintro w' ⟨x, rfl⟩; go_simp; try with_reducible rfl)); simp only [Act.put, List.setIfInBounds_toArray, List.set_cons_succ, List.set_cons_zero])
            first | go_big_quiet_step (fail) | (refine sq_val (v := ?_) (by rfl) ?_ ?_; rotate_left; (focus (rintro w' ⟨x, rfl⟩; go_simp; try with_reducible rfl)); simp only [Act.put, List.setIfInBounds_toArray, List.set_cons_succ, List.set_cons_zero])
            first | go_big_quiet_step (fail) | (refine sq_val (v := ?_) (by rfl) ?_ ?_; rotate_left; (focus (rintro w' ⟨x, rfl⟩; go_simp; try with_reducible rfl)); simp only [Act.put, List.setIfInBounds_toArray, List.set_cons_succ, List.set_cons_zero])
            first | go_big_quiet_step (fail) | (refine sq_val (v := ?_) (by rfl) ?_ ?_; rotate_left; (focus (rintro w' ⟨x, rfl⟩; go_simp; try with_reducible rfl)); simp only [Act.put, List.setIfInBounds_toArray, List.set_cons_succ, List.set_cons_zero])
            first | go_big_quiet_step (fail) | (refine sq_val (v := ?_) (by rfl) ?_ ?_; rotate_left; (focus (rintro w' ⟨x, rfl⟩; go_simp; try with_reducible rfl)); simp only [Act.put, List.setIfInBounds_toArray, List.set_cons_succ, List.set_cons_zero])
            first | go_big_quiet_step (fail) | (refine sq_val (v := ?_) (by rfl) ?_ ?_; rotate_left; (focus (rintro w' ⟨x, rfl⟩; go_simp; try with_reducible rfl)); simp only [Act.put, List.setIfInBounds_toArray, List.set_cons_succ, List.set_cons_zero])
            first | go_big_quiet_step (fail) | (refine sq_val (v := ?_) (by rfl) ?_ ?_; rotate_left; (focus (rintro w' ⟨x, rfl⟩; go_simp; try with_reducible rfl)); simp only [Act.put, List.setIfInBounds_toArray, List.set_cons_succ, List.set_cons_zero])
            first | go_big_quiet_step (fail) | (refine sq_val (v := ?_) (by rfl) ?_ ?_; rotate_left; (focus (rintro w' ⟨x, rfl⟩; go_simp; try with_reducible rfl)); simp only [Act.put, List.setIfInBounds_toArray, List.set_cons_succ, List.set_cons_zero])
            first | go_big_quiet_step (fail) | (refine sq_val (v := ?_) (by rfl) ?_ ?_; rotate_left; (focus (rintro w' ⟨x, rfl⟩; go_simp; try with_reducible rfl)); simp only [Act.put, List.setIfInBounds_toArray, List.set_cons_succ, List.set_cons_zero])
            first | go_big_quiet_step (fail) | (refine sq_val (v := ?_) (by rfl) ?_ ?_; rotate_left; (focus (rintro w' ⟨x, rfl⟩; go_simp; try with_reducible rfl)); simp only [Act.put, List.setIfInBounds_toArray, List.set_cons_succ, List.set_cons_zero])
            first | go_big_quiet_step (fail) | (refine sq_val (v := ?_) (by rfl) ?_ ?_; rotate_left; (focus (rintro w' ⟨x, rfl⟩; go_simp; try with_reducible rfl)); simp only [Act.put, List.setIfInBounds_toArray, List.set_cons_succ, List.set_cons_zero])
            refine wpQuiet_nil ?_
            rintro _ ⟨x1, rfl⟩
            go_wp2
            go_roundw
            case rel =>
              refine ⟨k + 1, by omega, by go_num, ?_⟩
              rw [HTK.out]
              exact ⟨rfl, fresh_trans hbr x1.2⟩
            case measure => simp [RowKit.intOf]; omega
          · obtain ⟨j, hj⟩ : ∃ j, j + 1 = k := ⟨k - 1, by omega⟩
            have hjl : j < X.length := by omega
            have hgt : decide (0 < k) = true := by simp; omega
            have hsub : IntKind.i64.wrap ((k : Int) - 1) = (j : Int) := by rw [wrap_in (by omega) (by omega)]; omega
            have hkl := HST.out
            rw [List.pairwise_iff_getElem] at hkl
            have hklt := hkl j k hjl hlt (by omega)
            clear hkl
            obtain ⟨b2, o2, hA2, hr2⟩ := hRXr.at_n hjl 33 rfl
            obtain ⟨rfl, rfl⟩ : b1 = b2 ∧ o1 = o2 := by simpa using hA2
            have hkF : ∀ w', (∃ x : Fr wr, w' = x.1) → w'.rangeAt b1 (o1 + k * 33 + 0) (Enc.enc (X[k]'hlt).key) := by
              rintro _ ⟨x, rfl⟩
              exact count_keyAt (range_fresh hr1 x.2)
            have hjF : ∀ w', (∃ x : Fr wr, w' = x.1) → w'.rangeAt b1 (o1 + j * 33 + 0) (Enc.enc (X[j]'hjl).key) := by
              rintro _ ⟨x, rfl⟩
              exact count_keyAt (range_fresh hr2 x.2)
            clear hA2
            have HGT := Lib.hid hgt
            clear hgt
            have HSUB := Lib.hid hsub
            clear hsub
            have HKLT := Lib.hid hklt
            clear hklt
            have HJ := Lib.hid hj
            clear hj
            refine wp_region_fresh_lit (by kernel_rfl) (by kernel_rfl) ?_
            first | go_big_quiet_step (fail) | (refine sq_val (v := ?_) (by rfl) ?_ ?_; rotate_left; (focus (rintro w' ⟨x, rfl⟩; go_simp; try with_reducible rfl)); simp only [Act.put, List.setIfInBounds_toArray, List.set_cons_succ, List.set_cons_zero])
            first | go_big_quiet_step (fail) | (refine sq_val (v := ?_) (by rfl) ?_ ?_; rotate_left; (focus (rintro w' ⟨x, rfl⟩; go_simp; try with_reducible rfl)); simp only [Act.put, List.setIfInBounds_toArray, List.set_cons_succ, List.set_cons_zero])
            refine sq_val (by rfl) (fun w' hw' => elem_count rfl rfl rfl hlt) ?_
            simp only [Act.put, List.setIfInBounds_toArray, List.set_cons_succ, List.set_cons_zero]
            refine sq_val (by rfl) (fun w' hw' => run_faddr 45 _ 1 rfl rfl _ Try.underlying45 32 _ rfl rfl 0 sint') ?_
            simp only [Act.put, List.setIfInBounds_toArray, List.set_cons_succ, List.set_cons_zero]
            refine sq_val (by rfl) (fun w' hw' => run_load1 3 _ rfl rfl (hrF w' hw') _ Try.underlying3 rfl) ?_
            simp only [Act.put, List.setIfInBounds_toArray, List.set_cons_succ, List.set_cons_zero]
            first | go_big_quiet_step (fail) | (refine sq_val (v := ?_) (by rfl) ?_ ?_; rotate_left; (focus (rintro w' ⟨x, rfl⟩; go_simp; try with_reducible rfl)); simp only [Act.put, List.setIfInBounds_toArray, List.set_cons_succ, List.set_cons_zero])
            rw [HDL.out]
            first | go_big_quiet_step (fail) | (refine sq_val (v := ?_) (by rfl) ?_ ?_; rotate_left; (focus (rintro w' ⟨x, rfl⟩; go_simp; try with_reducible rfl)); simp only [Act.put, List.setIfInBounds_toArray, List.set_cons_succ, List.set_cons_zero])
            first | go_big_quiet_step (fail) | (refine sq_val (v := ?_) (by rfl) ?_ ?_; rotate_left; (focus (rintro w' ⟨x, rfl⟩; go_simp; try with_reducible rfl)); simp only [Act.put, List.setIfInBounds_toArray, List.set_cons_succ, List.set_cons_zero])
            first | go_big_quiet_step (fail) | (refine sq_val (v := ?_) (by rfl) ?_ ?_; rotate_left; (focus (rintro w' ⟨x, rfl⟩; go_simp; try with_reducible rfl)); simp only [Act.put, List.setIfInBounds_toArray, List.set_cons_succ, List.set_cons_zero])
            rw [HGT.out]
            first | go_big_quiet_step (fail) | (refine sq_val (v := ?_) (by rfl) ?_ ?_; rotate_left; (focus (rintro w' ⟨x, rfl⟩; go_simp; try with_reducible rfl)); simp only [Act.put, List.setIfInBounds_toArray, List.set_cons_succ, List.set_cons_zero])
            first | go_big_quiet_step (fail) | (refine sq_val (v := ?_) (by rfl) ?_ ?_; rotate_left; (focus (rintro w' ⟨x, rfl⟩; go_simp; try with_reducible rfl)); simp only [Act.put, List.setIfInBounds_toArray, List.set_cons_succ, List.set_cons_zero])
            first | go_big_quiet_step (fail) | (refine sq_val (v := ?_) (by rfl) ?_ ?_; rotate_left; (focus (rintro w' ⟨x, rfl⟩; go_simp; try with_reducible rfl)); simp only [Act.put, List.setIfInBounds_toArray, List.set_cons_succ, List.set_cons_zero])
            refine sq_val (by rfl) (fun w' hw' => op_sub64 _ _ _ _ _ _ (j : Int) rfl rfl rfl HSUB.out) ?_
            simp only [Act.put, List.setIfInBounds_toArray, List.set_cons_succ, List.set_cons_zero]
            refine sq_val (by rfl) (fun w' hw' => elem_count rfl rfl rfl hjl) ?_
            simp only [Act.put, List.setIfInBounds_toArray, List.set_cons_succ, List.set_cons_zero]
            refine sq_val (by rfl) (fun w' hw' => run_faddr 45 _ 0 rfl rfl _ Try.underlying45 0 _ rfl rfl 31 s35) ?_
            simp only [Act.put, List.setIfInBounds_toArray, List.set_cons_succ, List.set_cons_zero]
            refine sq_val (by rfl) (fun w' hw' => load_key rfl rfl (X[j]'hjl).key (hjF w' hw')) ?_
            simp only [Act.put, List.setIfInBounds_toArray, List.set_cons_succ, List.set_cons_zero]
            first | go_big_quiet_step (fail) | (refine sq_val (v := ?_) (by rfl) ?_ ?_; rotate_left; (focus (rintro w' ⟨x, rfl⟩; go_simp; try with_reducible rfl)); simp only [Act.put, List.setIfInBounds_toArray, List.set_cons_succ, List.set_cons_zero])
            first | go_big_quiet_step (fail) | (refine sq_val (v := ?_) (by rfl) ?_ ?_; rotate_left; (focus (rintro w' ⟨x, rfl⟩; go_simp; try with_reducible rfl)); simp only [Act.put, List.setIfInBounds_toArray, List.set_cons_succ, List.set_cons_zero])
            refine sq_val (by rfl) (fun w' hw' => elem_count rfl rfl rfl hlt) ?_
            simp only [Act.put, List.setIfInBounds_toArray, List.set_cons_succ, List.set_cons_zero]
            refine sq_val (by rfl) (fun w' hw' => run_faddr 45 _ 0 rfl rfl _ Try.underlying45 0 _ rfl rfl 31 s35) ?_
            simp only [Act.put, List.setIfInBounds_toArray, List.set_cons_succ, List.set_cons_zero]
            refine sq_val (by rfl) (fun w' hw' => load_key rfl rfl (X[k]'hlt).key (hkF w' hw')) ?_
            simp only [Act.put, List.setIfInBounds_toArray, List.set_cons_succ, List.set_cons_zero]
            refine sq_call (by rfl) 24 [.tmp 94, .tmp 99] _ rfl [agg (X[j]'hjl).key, agg (X[k]'hlt).key] rfl enter_rises (fr_call (fun w' hw' => rises_ok _ _ _)) ?_
            simp only [Act.put, List.setIfInBounds_toArray, List.set_cons_succ, List.set_cons_zero]
            rw [HKLT.out]
            first | go_big_quiet_step (fail) | (refine sq_val (v := ?_) (by rfl) ?_ ?_; rotate_left; (focus (rintro w' ⟨x, rfl⟩; go_simp; try with_reducible rfl)); simp only [Act.put, List.setIfInBounds_toArray, List.set_cons_succ, List.set_cons_zero])
            first | go_big_quiet_step (fail) | (refine sq_val (v := ?_) (by rfl) ?_ ?_; rotate_left; (focus (rintro w' ⟨x, rfl⟩; go_simp; try with_reducible rfl)); simp only [Act.put, List.setIfInBounds_toArray, List.set_cons_succ, List.set_cons_zero])
            first | go_big_quiet_step (fail) | (refine sq_val (v := ?_) (by rfl) ?_ ?_; rotate_left; (focus (rintro w' ⟨x, rfl⟩; go_simp; try with_reducible rfl)); simp only [Act.put, List.setIfInBounds_toArray, List.set_cons_succ, List.set_cons_zero])
            refine wpQuiet_nil ?_
            rintro _ ⟨x1, rfl⟩
            go_wp2
            go_roundw
            case rel =>
              refine ⟨k + 1, by omega, by go_num, ?_⟩
              rw [HTK.out]
              exact ⟨rfl, fresh_trans hbr x1.2⟩
            case measure => simp [RowKit.intOf]; omega
        · have hkl : X.take k = X := List.take_of_length_le (by omega)
          rw [hkl, HXT.out]
          go_wp2
          go_ret
          exact ⟨by simp, hbw⟩
end Go.Pb
