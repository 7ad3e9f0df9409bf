/- RefsTurned, the walk. -/
import Derived.Test.YteablbficakfcaaRefsTurnL
import Derived.Test.YteablbficakfcaaRow3
import Derived.Test.YteablbficakfcaaLaw24B
import Derived.Test.YteablbficakfcaaOwnMore
import Derived.Test.YteablbficakfcaaArith
set_option linter.unusedVariables false
set_option linter.unusedSimpArgs false
set_option linter.unusedSectionVars false
namespace Go.Pb
open Go.RowKit Go.Proofs Go.BigFrame

def tri {α : Type} (x y z : α) : Nat → α
  | 0 => x
  | 1 => y
  | _ => z
theorem op_neg64 {P : Program} {o : Oper} {ρ : Operand → Value} {w : World} (t : TypeId) (x : Operand) (u : Unit) (a r : Int) (ho : o.op = .unOp .neg t x) (ht : P.underlying t = some (.int .i64)) (hx : ρ x = .int .i64 a) (h : IntKind.i64.wrap (-a) = r) : (execOp ρ o).run P w = .ok (.value (.int .i64 r)) w := by
  unfold execOp
  simp [ho, hx, go_sem, ht, h]
theorem op_neq_i64 {P : Program} {o : Oper} {ρ : Operand → Value} {w : World} (t ty : TypeId) (x y : Operand) (c : Int) (ho : o.op = .binOp .neq t x y ty) (ht : P.underlying t = some (.int .i64)) (hx : ρ x = .int .i64 c) (hy : ρ y = .int .i64 c) : (execOp ρ o).run P w = .ok (.value (.bool false)) w := by
  unfold execOp
  simp [ho, hx, hy, go_sem, ht]
theorem neq_key_same {o : Oper} {ρ : Operand → Value} {w : World} {x y : Operand} {ty : TypeId} {p : Key} (ho : o.op = .binOp .neq 35 x y ty) (hx : ρ x = agg p) (hy : ρ y = agg p) : (execOp ρ o).run Try.prog w = .ok (.value (.bool false)) w := by
  have := neq_key (w := w) ho hx hy
  simpa using this
theorem slice_cells (A : Option Addr) (n c : Nat) : (Value.slice A n c).cells = #[Value.slice A n c] := rfl
set_option maxRecDepth 100000 in
set_option maxHeartbeats 800000 in
theorem refsTurned_ok (A : Option Addr) (c : Nat) (la : List Count) (B : Option Addr) (cb : Nat) (lb : List Count) (C : Option Addr) (cc : Nat) (lc : List Count) (w : World) (hA : Reads w A la) (hB : Reads w B lb) (hC : Reads w C lc) :
    Calls Try.prog 7 #[.slice A la.length c, .slice B lb.length cb, .slice C lc.length cc] w fun e w' => e = .returned (.bool true) ∧ Below w.heap.size w w' := by
  by_cases h1 : 300 < la.length
  · go_enter Try.func7, Try.ntmps7
    go_wp2_with (go_at_call 11; refine (awake24_ok _).mono ?_; rintro e w1 ⟨rfl, hb1⟩)
    go_ret
    exact ⟨rfl, hb1⟩
  by_cases h2 : 300 < lb.length
  · go_enter Try.func7, Try.ntmps7
    go_wp2_with (go_at_call 11; refine (awake24_ok _).mono ?_; rintro e w1 ⟨rfl, hb1⟩)
    go_ret
    exact ⟨rfl, hb1⟩
  by_cases h3 : 300 < lc.length
  · go_enter Try.func7, Try.ntmps7
    go_wp2_with (go_at_call 11; refine (awake24_ok _).mono ?_; rintro e w1 ⟨rfl, hb1⟩)
    go_ret
    exact ⟨rfl, hb1⟩
  have ha3 : la.length ≤ 300 := by omega
  have hb3 : lb.length ≤ 300 := by omega
  have hc3 : lc.length ≤ 300 := by omega
  go_enter Try.func7, Try.ntmps7
  go_wp2_with (first
    | (go_at_call 11; refine (awake24_ok _).mono ?_; rintro e w1 ⟨rfl, hb1⟩)
    | (refine st_val rfl (run_row3 30 25 _ _ _ rfl Try.underlying30 _ _ icounts (.slice A la.length c) (.slice B lb.length cb) (.slice C lc.length cc) rfl rfl rfl rfl rfl rfl rfl) ?_))
  have hbw2 := fresh_alloc hb1 (.cells #[.slice A la.length c, .slice B lb.length cb, .slice C lc.length cc] 25)
  have hrow : ∀ k, k < 3 → (w1.alloc (.cells #[.slice A la.length c, .slice B lb.length cb, .slice C lc.length cc] 25)).cell? ⟨w1.heap.size, k, none⟩ = some (.slice (tri A B C k) (tri la lb lc k).length (tri c cb cc k)) := by
    intro k hk
    have hr := range_block (heap_alloc_new w1 (.cells #[.slice A la.length c, .slice B lb.length cb, .slice C lc.length cc] 25))
    match k, hk with
    | 0, _ => exact hr 0 _ rfl
    | 1, _ => exact hr 1 _ rfl
    | 2, _ => exact hr 2 _ rfl
  generalize w1.alloc (.cells #[.slice A la.length c, .slice B lb.length cb, .slice C lc.length cc] 25) = w2 at hbw2 hrow ⊢
  generalize w1.heap.size = g at hrow ⊢
  have hreads : ∀ k, k < 3 → Reads w2 (tri A B C k) (tri la lb lc k) := by
    intro k hk
    match k, hk with
    | 0, _ => exact hA.fresh hbw2
    | 1, _ => exact hB.fresh hbw2
    | 2, _ => exact hC.fresh hbw2
  have hlens : ∀ k, k < 3 → (tri la lb lc k).length ≤ 300 := by
    intro k hk
    match k, hk with
    | 0, _ => exact ha3
    | 1, _ => exact hb3
    | 2, _ => exact hc3
  have HROW := Lib.hid hrow
  clear hrow
  have HREADS := Lib.hid hreads
  clear hreads
  have HLENS := Lib.hid hlens
  clear hlens
  go_wp2
  go_loopw [8, 9] (fun i _ wr => ∃ (k : Nat), k ≤ 3 ∧ i = .int .i64 k ∧ (∀ j, j < k → Small (tri la lb lc j)) ∧ w2 = wr) (fun i _ _ => 3 - (RowKit.intOf i).toNat)
  case atStart => exact ⟨0, by omega, rfl, fun j hj => absurd hj (by omega), rfl⟩
  case round =>
    obtain ⟨k, hk, rfl, hsm, rfl⟩ := hrel
    by_cases hlt : k < 3
    · have hrk := HROW.out k hlt
      have hRk := HREADS.out k hlt
      have hlk := HLENS.out k hlt
      generalize hrw : tri la lb lc k = row at hrk hRk hlk
      generalize tri A B C k = AR at hrk hRk
      generalize tri c cb cc k = cr at hrk
      have HRW := Lib.hid hrw
      clear hrw
      go_wp2
      go_loopw [9] (fun i wr => ∃ (k2 : Nat), k2 ≤ row.length ∧ i = .int .i64 k2 ∧ Small (row.take k2) ∧ w2 = wr) (fun i _ => row.length - (RowKit.intOf i).toNat)
      case atStart => exact ⟨0, by omega, rfl, fun c hc => by simp at hc, rfl⟩
      case round =>
        obtain ⟨k2, hk2, rfl, hsr, rfl⟩ := hrel
        by_cases hlt2 : k2 < row.length
        · obtain ⟨b1, o1, rfl, hr1⟩ := hRk.at_n hlt2 33 rfl
          have hrc := count_refsAt hr1
          have hst : ∀ P : Prop, -1073741824 ≤ (row[k2]'hlt2).refs → (row[k2]'hlt2).refs ≤ 1073741824 → Small (row.take (k2 + 1)) := by
            intro P p1 p2 c hc
            rw [List.take_succ_eq_append_getElem hlt2, List.mem_append] at hc
            rcases hc with hc | hc
            · exact hsr c hc
            · simp at hc
              subst hc
              exact ⟨p1, p2⟩
          generalize (row[k2]'hlt2).refs = r at hrc hst
          have HST := Lib.hid hst
          clear hst
          by_cases hr9 : 1073741824 < r
          · have HSR := Lib.hid hsr
            clear hsr
            go_wp2_with (first
              | (refine st_val rfl (run_elem (ki := .i64) 30 25 _ _ rfl Try.underlying30 1 scounts rfl k rfl hlt) ?_)
              | (refine st_val rfl (run_load1 25 _ rfl rfl ?_ _ Try.underlying25 rfl) ?_; (with_reducible exact hrk))
              | (refine st_val rfl (elem_count rfl rfl rfl hlt2) ?_)
              | (refine st_val rfl (run_faddr 45 _ 1 rfl rfl _ Try.underlying45 32 _ rfl rfl 0 sint') ?_)
              | (refine st_val rfl (run_load1 3 _ rfl rfl ?_ _ Try.underlying3 rfl) ?_; (with_reducible exact hrc)))
            go_ret
            exact ⟨rfl, hbw2⟩
          · by_cases hr8 : r < -1073741824
            · have HSR := Lib.hid hsr
              clear hsr
              go_wp2_with (first
                | (refine st_val rfl (run_elem (ki := .i64) 30 25 _ _ rfl Try.underlying30 1 scounts rfl k rfl hlt) ?_)
                | (refine st_val rfl (run_load1 25 _ rfl rfl ?_ _ Try.underlying25 rfl) ?_; (with_reducible exact hrk))
                | (refine st_val rfl (elem_count rfl rfl rfl hlt2) ?_)
                | (refine st_val rfl (run_faddr 45 _ 1 rfl rfl _ Try.underlying45 32 _ rfl rfl 0 sint') ?_)
                | (refine st_val rfl (run_load1 3 _ rfl rfl ?_ _ Try.underlying3 rfl) ?_; (with_reducible exact hrc)))
              go_ret
              exact ⟨rfl, hbw2⟩
            · have hst2 := HST.out True (by omega) (by omega)
              clear HST hsr
              have HST2 := Lib.hid hst2
              clear hst2
              go_wp2_with (first
                | (refine st_val rfl (run_elem (ki := .i64) 30 25 _ _ rfl Try.underlying30 1 scounts rfl k rfl hlt) ?_)
                | (refine st_val rfl (run_load1 25 _ rfl rfl ?_ _ Try.underlying25 rfl) ?_; (with_reducible exact hrk))
                | (refine st_val rfl (elem_count rfl rfl rfl hlt2) ?_)
                | (refine st_val rfl (run_faddr 45 _ 1 rfl rfl _ Try.underlying45 32 _ rfl rfl 0 sint') ?_)
                | (refine st_val rfl (run_load1 3 _ rfl rfl ?_ _ Try.underlying3 rfl) ?_; (with_reducible exact hrc)))
              go_roundw
              case rel =>
                refine ⟨k2 + 1, by omega, by go_num, ?_⟩
                exact HST2.out
              case measure => simp [RowKit.intOf]; omega
        · have hkl : row.take k2 = row := List.take_of_length_le (by omega)
          rw [hkl] at hsr
          have HSR := Lib.hid hsr
          clear hsr
          have HSM := Lib.hid hsm
          clear hsm
          go_wp2_with (first
            | (refine st_val rfl (run_elem (ki := .i64) 30 25 _ _ rfl Try.underlying30 1 scounts rfl k rfl hlt) ?_)
            | (refine st_val rfl (run_load1 25 _ rfl rfl ?_ _ Try.underlying25 rfl) ?_; (with_reducible exact hrk)))
          go_roundw
          case rel =>
            refine ⟨k + 1, by omega, by go_num, fun j hj => ?_, trivial⟩
            by_cases hjk : j = k
            · rw [hjk, HRW.out]
              exact HSR.out
            · exact HSM.out j (by omega)
          case measure => simp [RowKit.intOf]; omega
    · have hsa : Small la := hsm 0 (by omega)
      have hsb : Small lb := hsm 1 (by omega)
      clear hsm HROW HREADS HLENS
      have hRA := hA.fresh hbw2
      have hRB := hB.fresh hbw2
      have hRC := hC.fresh hbw2
      go_wp2_with (fail)
      refine (delta_ok A B c cb la lb w2 hRA hRB (by omega) (by omega)).mono ?_
      rintro e w3 ⟨vD, D, rfl, hOD, hTD, hb3⟩
      have hbw3 := fresh_trans hbw2 hb3
      go_wp2_with (fail)
      refine (delta_ok B A cb c lb la w3 (hRB.fresh hb3) (hRA.fresh hb3) (by omega) (by omega)).mono ?_
      rintro e w4 ⟨vE, E, rfl, hOE, hTE, hb4⟩
      have hbw4 := fresh_trans hbw3 hb4
      have hED := turned_rows hsa hsb ha3 (by omega) hTD hTE
      have hDin := delta_in hsa hsb ha3 (by omega) hTD
      have hDl := delta_len hTD
      have hEl : E.length = D.length := by rw [hED, List.length_map]
      have hOD4 := hOD.fresh hb4
      obtain ⟨AD, cD, rfl, hRD, -⟩ := hOD4.shape
      obtain ⟨AE, cE, rfl, hRE, -⟩ := hOE.shape
      rw [hEl]
      have hEk : ∀ k (h : k < E.length) (h' : k < D.length), E[k].key = D[k].key ∧ E[k].refs = -D[k].refs := by
        intro k h h'
        subst hED
        simp [negC]
      have HEK := Lib.hid hEk
      clear hEk
      have HDIN := Lib.hid hDin
      clear hDin
      have HED := Lib.hid hED
      clear hED
      clear hOD hOE hb4 hbw3 hb3 hRA hRB hRC hOD4
      go_wp2
      go_loopw [12] (fun i wr => ∃ (k : Nat), k ≤ D.length ∧ i = .int .i64 k ∧ ∃ n, wr = w4.drewN n) (fun i _ => D.length - (RowKit.intOf i).toNat)
      case atStart => exact ⟨0, by omega, rfl, 0, rfl⟩
      case round =>
        obtain ⟨q, hq, rfl, n, rfl⟩ := hrel
        by_cases hltd : q < D.length
        · have hlte : q < E.length := by omega
          obtain ⟨hk1, hk2⟩ := HEK.out q hlte hltd
          have hdin := HDIN.out (D[q]'hltd) (List.getElem_mem hltd)
          obtain ⟨b1, o1, rfl, hr1⟩ := hRD.at_n hltd 33 rfl
          obtain ⟨b2, o2, rfl, hr2⟩ := hRE.at_n hlte 33 rfl
          have c1 : w4.rangeAt b1 (o1 + q * 33 + 0) (Enc.enc (D[q]'hltd).key) := count_keyAt hr1
          have c2 := count_refsAt hr1
          have c3 : w4.rangeAt b2 (o2 + q * 33 + 0) (Enc.enc (E[q]'hlte).key) := count_keyAt hr2
          have c4 := count_refsAt hr2
          rw [hk1] at c3
          rw [hk2] at c4
          clear hr1 hr2 hk1 hk2
          generalize (D[q]'hltd).key = ky at c1 c3
          generalize (D[q]'hltd).refs = r at c2 c4 hdin
          have hneg : IntKind.i64.wrap (- -r) = r := by rw [Int.neg_neg]; exact wrap_in (by omega) (by omega)
          have HNEG := Lib.hid hneg
          clear hneg
          go_wp2
          refine wp_region_quiet_lit (by kernel_rfl) (by kernel_rfl) ?_
          first | go_big_quiet_step (fail) | (refine sq_val (v := ?_) (by rfl) ?_ ?_; rotate_left; (focus (rintro w' ⟨x, rfl⟩; go_simp; try with_reducible rfl)); simp only [Act.put, List.setIfInBounds_toArray, List.set_cons_succ, List.set_cons_zero])
          first | go_big_quiet_step (fail) | (refine sq_val (v := ?_) (by rfl) ?_ ?_; rotate_left; (focus (rintro w' ⟨x, rfl⟩; go_simp; try with_reducible rfl)); simp only [Act.put, List.setIfInBounds_toArray, List.set_cons_succ, List.set_cons_zero])
          refine sq_val (by rfl) (fun w' hw' => elem_count rfl rfl rfl hltd) ?_
          simp only [Act.put, List.setIfInBounds_toArray, List.set_cons_succ, List.set_cons_zero]
          refine sq_val (by rfl) (fun w' hw' => run_faddr 45 _ 0 rfl rfl _ Try.underlying45 0 _ rfl rfl 31 s35) ?_
          simp only [Act.put, List.setIfInBounds_toArray, List.set_cons_succ, List.set_cons_zero]
          refine sq_val (by rfl) (fun w' hw' => load_key rfl rfl ky (by obtain ⟨m, rfl⟩ := hw'; exact c1)) ?_
          simp only [Act.put, List.setIfInBounds_toArray, List.set_cons_succ, List.set_cons_zero]
          first | go_big_quiet_step (fail) | (refine sq_val (v := ?_) (by rfl) ?_ ?_; rotate_left; (focus (rintro w' ⟨x, rfl⟩; go_simp; try with_reducible rfl)); simp only [Act.put, List.setIfInBounds_toArray, List.set_cons_succ, List.set_cons_zero])
          first | go_big_quiet_step (fail) | (refine sq_val (v := ?_) (by rfl) ?_ ?_; rotate_left; (focus (rintro w' ⟨x, rfl⟩; go_simp; try with_reducible rfl)); simp only [Act.put, List.setIfInBounds_toArray, List.set_cons_succ, List.set_cons_zero])
          refine sq_val (by rfl) (fun w' hw' => elem_count rfl rfl rfl hltd) ?_
          simp only [Act.put, List.setIfInBounds_toArray, List.set_cons_succ, List.set_cons_zero]
          refine sq_val (by rfl) (fun w' hw' => run_faddr 45 _ 0 rfl rfl _ Try.underlying45 0 _ rfl rfl 31 s35) ?_
          simp only [Act.put, List.setIfInBounds_toArray, List.set_cons_succ, List.set_cons_zero]
          refine sq_val (by rfl) (fun w' hw' => load_key rfl rfl ky (by obtain ⟨m, rfl⟩ := hw'; exact c3)) ?_
          simp only [Act.put, List.setIfInBounds_toArray, List.set_cons_succ, List.set_cons_zero]
          refine sq_val (by rfl) (fun w' hw' => neq_key_same rfl rfl rfl) ?_
          simp only [Act.put, List.setIfInBounds_toArray, List.set_cons_succ, List.set_cons_zero]
          first | go_big_quiet_step (fail) | (refine sq_val (v := ?_) (by rfl) ?_ ?_; rotate_left; (focus (rintro w' ⟨x, rfl⟩; go_simp; try with_reducible rfl)); simp only [Act.put, List.setIfInBounds_toArray, List.set_cons_succ, List.set_cons_zero])
          first | go_big_quiet_step (fail) | (refine sq_val (v := ?_) (by rfl) ?_ ?_; rotate_left; (focus (rintro w' ⟨x, rfl⟩; go_simp; try with_reducible rfl)); simp only [Act.put, List.setIfInBounds_toArray, List.set_cons_succ, List.set_cons_zero])
          first | go_big_quiet_step (fail) | (refine sq_val (v := ?_) (by rfl) ?_ ?_; rotate_left; (focus (rintro w' ⟨x, rfl⟩; go_simp; try with_reducible rfl)); simp only [Act.put, List.setIfInBounds_toArray, List.set_cons_succ, List.set_cons_zero])
          refine sq_val (by rfl) (fun w' hw' => elem_count rfl rfl rfl hltd) ?_
          simp only [Act.put, List.setIfInBounds_toArray, List.set_cons_succ, List.set_cons_zero]
          refine sq_val (by rfl) (fun w' hw' => run_faddr 45 _ 1 rfl rfl _ Try.underlying45 32 _ rfl rfl 0 sint') ?_
          simp only [Act.put, List.setIfInBounds_toArray, List.set_cons_succ, List.set_cons_zero]
          refine sq_val (by rfl) (fun w' hw' => run_load1 3 _ rfl rfl (by obtain ⟨m, rfl⟩ := hw'; exact c2) _ Try.underlying3 rfl) ?_
          simp only [Act.put, List.setIfInBounds_toArray, List.set_cons_succ, List.set_cons_zero]
          first | go_big_quiet_step (fail) | (refine sq_val (v := ?_) (by rfl) ?_ ?_; rotate_left; (focus (rintro w' ⟨x, rfl⟩; go_simp; try with_reducible rfl)); simp only [Act.put, List.setIfInBounds_toArray, List.set_cons_succ, List.set_cons_zero])
          first | go_big_quiet_step (fail) | (refine sq_val (v := ?_) (by rfl) ?_ ?_; rotate_left; (focus (rintro w' ⟨x, rfl⟩; go_simp; try with_reducible rfl)); simp only [Act.put, List.setIfInBounds_toArray, List.set_cons_succ, List.set_cons_zero])
          refine sq_val (by rfl) (fun w' hw' => elem_count rfl rfl rfl hltd) ?_
          simp only [Act.put, List.setIfInBounds_toArray, List.set_cons_succ, List.set_cons_zero]
          refine sq_val (by rfl) (fun w' hw' => run_faddr 45 _ 1 rfl rfl _ Try.underlying45 32 _ rfl rfl 0 sint') ?_
          simp only [Act.put, List.setIfInBounds_toArray, List.set_cons_succ, List.set_cons_zero]
          refine sq_val (by rfl) (fun w' hw' => run_load1 3 _ rfl rfl (by obtain ⟨m, rfl⟩ := hw'; exact c4) _ Try.underlying3 rfl) ?_
          simp only [Act.put, List.setIfInBounds_toArray, List.set_cons_succ, List.set_cons_zero]
          refine sq_val (by rfl) (fun w' hw' => op_neg64 _ _ () (-r) r rfl Try.underlying3 rfl HNEG.out) ?_
          simp only [Act.put, List.setIfInBounds_toArray, List.set_cons_succ, List.set_cons_zero]
          refine sq_val (by rfl) (fun w' hw' => op_neq_i64 3 _ _ _ r rfl Try.underlying3 rfl rfl) ?_
          simp only [Act.put, List.setIfInBounds_toArray, List.set_cons_succ, List.set_cons_zero]
          first | go_big_quiet_step (fail) | (refine sq_val (v := ?_) (by rfl) ?_ ?_; rotate_left; (focus (rintro w' ⟨x, rfl⟩; go_simp; try with_reducible rfl)); simp only [Act.put, List.setIfInBounds_toArray, List.set_cons_succ, List.set_cons_zero])
          refine wpQuiet_nil ?_
          intro _ hw'
          obtain ⟨nq, hw''⟩ := hw'
          subst hw''
          go_wp2
          go_roundw
          case rel => exact ⟨q + 1, by omega, by go_num, n + nq, by simp⟩
          case measure => simp [RowKit.intOf]; omega
        · have hbw5 := fresh_drewN hbw4 n
          clear HDIN HEK hRD hRE
          go_wp2_with (fail)
          generalize w4.drewN n = w5 at hbw5 ⊢
          refine (delta_ok A B c cb la lb w5 (hA.fresh hbw5) (hB.fresh hbw5) (by omega) (by omega)).mono ?_
          rintro e w6 ⟨vP, P', rfl, hOP, hTP, hb6⟩
          have hbw6 := fresh_trans hbw5 hb6
          go_wp2_with (fail)
          refine (delta_ok B C cb cc lb lc w6 (hB.fresh hbw6) (hC.fresh hbw6) (by omega) (by omega)).mono ?_
          rintro e w7 ⟨vB, Bv, rfl, hOB, hTB, hb7⟩
          have hbw7 := fresh_trans hbw6 hb7
          obtain ⟨AB, cB, rfl, hRB7, -⟩ := hOB.shape
          have hOP7 := hOP.fresh hb7
          have hPl := delta_len hTP
          have hBl := delta_len hTB
          have hbig : (P'.length + Bv.length) * 40 ≤ 140737488355328 := by omega
          have hs7 := (fresh_trans hb6 hb7).size
          have hz5 := hbw5.size
          go_wp2_with (first
            | (at_builtin; refine st_append w5.heap.size rfl _ _ 25 45 rfl Try.underlying25 Count.zero 40 info45 (by decide) vP P' Bv rfl rfl hOP7 hRB7 hbig hs7 (fun v8 w8 hO8 hg8 hat8 => ?_);
               have hbw8 := fresh_own hbw7 hOP7 hg8 hz5;
               obtain ⟨A8, c8, rfl, hR8, -⟩ := hO8.shape))
          have hd8 := delta_ok none A8 0 c8 [] (P' ++ Bv) w8 (Reads.nil _ _) hR8 (by simp) (by rw [List.length_append]; omega)
          rw [List.length_append] at hd8
          refine hd8.mono ?_
          rintro e w9 ⟨vR, R, rfl, hOR, hTR, hb9⟩
          have hbw9 := fresh_trans hbw8 hb9
          go_wp2_with (fail)
          refine (delta_ok A C c cc la lc w9 (hA.fresh hbw9) (hC.fresh hbw9) (by omega) (by omega)).mono ?_
          rintro e w10 ⟨vS, S, rfl, hOS, hTS, hb10⟩
          have hbw10 := fresh_trans hbw9 hb10
          have hSl := delta_len hTS
          obtain ⟨AS, cS, rfl, hRS, -⟩ := hOS.shape
          have hRS2 := between_rows hTP hTB hTR hTS
          go_wp2_with (fail)
          refine (samec_ok R S AS cS w10 (hOR.fresh hb10) hRS (by omega) true (by simpa using hRS2)).mono ?_
          rintro e w11 ⟨rfl, hb11⟩
          go_wp2
          go_ret
          exact ⟨rfl, fresh_trans hbw10 hb11⟩
end Go.Pb
