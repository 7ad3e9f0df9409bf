/- The document's order of keys, compared byte by byte. -/
import Derived.Test.YteablbficakfcaaRises
import Derived.Test.YteablbficakfcaaAdd24L
import Derived.Test.YteablbficakfcaaOwnMore
import Derived.Test.YteablbficakfcaaOwnSet
import Derived.Test.YteablbficakfcaaRef22B
import Derived.Test.YteablbficakfcaaArith
set_option linter.unusedVariables false
set_option linter.unusedSimpArgs false
set_option linter.unusedSectionVars false
namespace Go.Pb
open Go.RowKit Go.Proofs Go.BigFrame

set_option maxHeartbeats 2000000 in
theorem before24_ok (a b : Key) (w : World) : Calls Try.prog 60 #[agg a, agg b] w fun e w' => e = .returned (.bool (klt a b)) ∧ Below w.heap.size w w' := by
  generalize hW : (w.alloc (.cells (Enc.enc a).toArray 35)).alloc (.cells (Enc.enc b).toArray 35) = W
  have hb0 : Below w.heap.size w W := by subst hW; exact fresh_alloc (fresh_alloc (fresh_refl w) _) _
  have h1 : W.rangeAt w.heap.size 0 (Enc.enc a) := by subst hW; exact range_fresh (range_block (heap_alloc_new w _)) (fresh_alloc (fresh_refl _) _)
  have h2 : W.rangeAt (w.heap.size + 1) 0 (Enc.enc b) := by subst hW; exact range_block (heap_alloc2_new w _ _)
  have la := a.2
  have lb := b.2
  have HW := Lib.hid hW
  clear hW
  have LA := Lib.hid la
  clear la
  have LB := Lib.hid lb
  clear lb
  go_enter Try.func60, Try.ntmps60
  go_wp2_with (first
    | (refine st_val rfl (run_box 35 _ a rfl rfl) ?_)
    | (refine st_val rfl (run_box 35 _ b rfl rfl) ?_; rw [HW.out]))
  go_loopw [5] (fun i wr => ∃ k : Nat, k ≤ 32 ∧ i = .int .i64 k ∧ a.1.take k = b.1.take k ∧ ∃ n, wr = W.drewN n) (fun i _ => 32 - (RowKit.intOf i).toNat)
  case atStart => exact ⟨0, by omega, rfl, rfl, 0, rfl⟩
  case round =>
    obtain ⟨k, hk, rfl, heq, n, rfl⟩ := hrel
    have HEQ := Lib.hid heq
    clear heq
    by_cases hlt : k < 32
    · have hka : k < a.1.length := by rw [LA.out]; exact hlt
      have hkb : k < b.1.length := by rw [LB.out]; exact hlt
      have c1 := key_byte h1 hka
      have c2 := key_byte h2 hkb
      by_cases he : (a.1[k]'hka) = (b.1[k]'hkb)
      · have heb : decide (((a.1[k]'hka).toNat : Int) = ((b.1[k]'hkb).toNat : Int)) = !false := by rw [he]; simp
        have HEB := Lib.hid heb
        clear heb
        have HE := Lib.hid he
        clear he
        go_wp2
        refine wp_region_quiet_lit (by kernel_rfl) (by kernel_rfl) ?_
        first | go_big_quiet_step (fail) | (refine sq_val (v := ?_) (by rfl) ?_ ?_; rotate_left; (focus (rintro w' ⟨x, rfl⟩; go_simp; try with_reducible rfl)); simp only [Act.put, List.setIfInBounds_toArray, List.set_cons_succ, List.set_cons_zero])
        refine sq_val (by rfl) (fun w' hw' => run_elemA 35 5 32 _ _ rfl Try.underlying35 1 su8 rfl k rfl hlt) ?_
        simp only [Act.put, List.setIfInBounds_toArray, List.set_cons_succ, List.set_cons_zero]
        refine sq_val (by rfl) (fun w' hw' => run_load1 5 _ rfl rfl (by obtain ⟨m, rfl⟩ := hw'; rw [Nat.mul_one]; exact c1) _ Try.underlying5 rfl) ?_
        simp only [Act.put, List.setIfInBounds_toArray, List.set_cons_succ, List.set_cons_zero]
        first | go_big_quiet_step (fail) | (refine sq_val (v := ?_) (by rfl) ?_ ?_; rotate_left; (focus (rintro w' ⟨x, rfl⟩; go_simp; try with_reducible rfl)); simp only [Act.put, List.setIfInBounds_toArray, List.set_cons_succ, List.set_cons_zero])
        refine sq_val (by rfl) (fun w' hw' => run_elemA 35 5 32 _ _ rfl Try.underlying35 1 su8 rfl k rfl hlt) ?_
        simp only [Act.put, List.setIfInBounds_toArray, List.set_cons_succ, List.set_cons_zero]
        refine sq_val (by rfl) (fun w' hw' => run_load1 5 _ rfl rfl (by obtain ⟨m, rfl⟩ := hw'; rw [Nat.mul_one]; exact c2) _ Try.underlying5 rfl) ?_
        simp only [Act.put, List.setIfInBounds_toArray, List.set_cons_succ, List.set_cons_zero]
        refine sq_val (by rfl) (fun w' hw' => op_neq_u8 5 _ _ _ _ _ rfl Try.underlying5 rfl rfl false HEB.out) ?_
        simp only [Act.put, List.setIfInBounds_toArray, List.set_cons_succ, List.set_cons_zero]
        refine wpQuiet_nil ?_
        intro _ hw'
        obtain ⟨nq, hw''⟩ := hw'
        subst hw''
        go_wp2
        go_roundw
        case rel => exact ⟨k + 1, by omega, by go_num, take_succ_eq hka hkb HEQ.out HE.out, n + nq, by simp⟩
        case measure => simp [RowKit.intOf]; omega
      · have heb : decide (((a.1[k]'hka).toNat : Int) = ((b.1[k]'hkb).toNat : Int)) = !true := by
          rw [Bool.not_true, decide_eq_false_iff_not]
          intro e
          exact he (UInt8.toNat_inj.1 (by omega))
        have hkl := klt_first hka hkb HEQ.out he
        have hlt8 : decide ((a.1[k]'hka) < (b.1[k]'hkb)) = decide ((a.1[k]'hka).toNat < (b.1[k]'hkb).toNat) := by
          rw [decide_eq_decide, UInt8.lt_iff_toNat_lt]
        have HEB := Lib.hid heb
        clear heb
        have HKL := Lib.hid hkl
        clear hkl
        have HLT8 := Lib.hid hlt8
        clear hlt8
        go_wp2
        refine wp_region_quiet_lit (by kernel_rfl) (by kernel_rfl) ?_
        first | go_big_quiet_step (fail) | (refine sq_val (v := ?_) (by rfl) ?_ ?_; rotate_left; (focus (rintro w' ⟨x, rfl⟩; go_simp; try with_reducible rfl)); simp only [Act.put, List.setIfInBounds_toArray, List.set_cons_succ, List.set_cons_zero])
        refine sq_val (by rfl) (fun w' hw' => run_elemA 35 5 32 _ _ rfl Try.underlying35 1 su8 rfl k rfl hlt) ?_
        simp only [Act.put, List.setIfInBounds_toArray, List.set_cons_succ, List.set_cons_zero]
        refine sq_val (by rfl) (fun w' hw' => run_load1 5 _ rfl rfl (by obtain ⟨m, rfl⟩ := hw'; rw [Nat.mul_one]; exact c1) _ Try.underlying5 rfl) ?_
        simp only [Act.put, List.setIfInBounds_toArray, List.set_cons_succ, List.set_cons_zero]
        first | go_big_quiet_step (fail) | (refine sq_val (v := ?_) (by rfl) ?_ ?_; rotate_left; (focus (rintro w' ⟨x, rfl⟩; go_simp; try with_reducible rfl)); simp only [Act.put, List.setIfInBounds_toArray, List.set_cons_succ, List.set_cons_zero])
        refine sq_val (by rfl) (fun w' hw' => run_elemA 35 5 32 _ _ rfl Try.underlying35 1 su8 rfl k rfl hlt) ?_
        simp only [Act.put, List.setIfInBounds_toArray, List.set_cons_succ, List.set_cons_zero]
        refine sq_val (by rfl) (fun w' hw' => run_load1 5 _ rfl rfl (by obtain ⟨m, rfl⟩ := hw'; rw [Nat.mul_one]; exact c2) _ Try.underlying5 rfl) ?_
        simp only [Act.put, List.setIfInBounds_toArray, List.set_cons_succ, List.set_cons_zero]
        refine sq_val (by rfl) (fun w' hw' => op_neq_u8 5 _ _ _ _ _ rfl Try.underlying5 rfl rfl true HEB.out) ?_
        simp only [Act.put, List.setIfInBounds_toArray, List.set_cons_succ, List.set_cons_zero]
        refine wpQuiet_nil ?_
        intro _ hw'
        obtain ⟨nq, hw''⟩ := hw'
        subst hw''
        go_wp2
        refine wp_region_quiet_lit (by kernel_rfl) (by kernel_rfl) ?_
        first | go_big_quiet_step (fail) | (refine sq_val (v := ?_) (by rfl) ?_ ?_; rotate_left; (focus (rintro w' ⟨x, rfl⟩; go_simp; try with_reducible rfl)); simp only [Act.put, List.setIfInBounds_toArray, List.set_cons_succ, List.set_cons_zero])
        refine sq_val (by rfl) (fun w' hw' => run_elemA 35 5 32 _ _ rfl Try.underlying35 1 su8 rfl k rfl hlt) ?_
        simp only [Act.put, List.setIfInBounds_toArray, List.set_cons_succ, List.set_cons_zero]
        refine sq_val (by rfl) (fun w' hw' => run_load1 5 _ rfl rfl (by obtain ⟨m, rfl⟩ := hw'; rw [Nat.mul_one]; exact c1) _ Try.underlying5 rfl) ?_
        simp only [Act.put, List.setIfInBounds_toArray, List.set_cons_succ, List.set_cons_zero]
        first | go_big_quiet_step (fail) | (refine sq_val (v := ?_) (by rfl) ?_ ?_; rotate_left; (focus (rintro w' ⟨x, rfl⟩; go_simp; try with_reducible rfl)); simp only [Act.put, List.setIfInBounds_toArray, List.set_cons_succ, List.set_cons_zero])
        refine sq_val (by rfl) (fun w' hw' => run_elemA 35 5 32 _ _ rfl Try.underlying35 1 su8 rfl k rfl hlt) ?_
        simp only [Act.put, List.setIfInBounds_toArray, List.set_cons_succ, List.set_cons_zero]
        refine sq_val (by rfl) (fun w' hw' => run_load1 5 _ rfl rfl (by obtain ⟨m, rfl⟩ := hw'; rw [Nat.mul_one]; exact c2) _ Try.underlying5 rfl) ?_
        simp only [Act.put, List.setIfInBounds_toArray, List.set_cons_succ, List.set_cons_zero]
        first | go_big_quiet_step (fail) | (refine sq_val (v := ?_) (by rfl) ?_ ?_; rotate_left; (focus (rintro w' ⟨x, rfl⟩; go_simp; try with_reducible rfl)); simp only [Act.put, List.setIfInBounds_toArray, List.set_cons_succ, List.set_cons_zero])
        first | go_big_quiet_step (fail) | (refine sq_val (v := ?_) (by rfl) ?_ ?_; rotate_left; (focus (rintro w' ⟨x, rfl⟩; go_simp; try with_reducible rfl)); simp only [Act.put, List.setIfInBounds_toArray, List.set_cons_succ, List.set_cons_zero])
        refine wpQuiet_nil ?_
        intro _ hw'
        obtain ⟨nr, hw''⟩ := hw'
        subst hw''
        go_wp2
        go_ret
        exact ⟨by rw [HKL.out, HLT8.out]; rfl, fresh_trans hb0 (fresh_trans (fresh_drewN (fresh_refl W) n) (fresh_trans (fresh_drewN (fresh_refl _) nq) (fresh_drewN (fresh_refl _) nr)))⟩
    · have h32 : k = 32 := by omega
      subst h32
      clear hlt hk
      go_wp2
      go_ret
      refine ⟨?_, fresh_drewN hb0 n⟩
      have hab : a = b := by
        apply Subtype.ext
        have := HEQ.out
        rwa [List.take_of_length_le (by rw [LA.out]; omega), List.take_of_length_le (by rw [LB.out]; omega)] at this
      subst hab
      rw [klt_irrefl]
      rfl
theorem enter_before24 (args : Array Value) (w : World) : (callFunc 60 args).run Try.prog w = .ok (.enter 60 args) w := run_enter Try.func60 (by kernel_rfl) rfl args w
end Go.Pb
set_option linter.unusedVariables false
set_option linter.unusedSimpArgs false
set_option linter.unusedSectionVars false
namespace Go.Pb
open Go.RowKit Go.Proofs Go.BigFrame

theorem wrap_val (n : Int) : Value.int .i64 (IntKind.i64.wrap n) = .int .i64 (wrap64 n) := by rw [wrap_eq]
set_option maxHeartbeats 800000 in
theorem add24_ok (base : Nat) (v : Value) (L : List Count) (k : Key) (r : Int) (w : World) (H : Owns w base 45 v L) (hbase : base ≤ w.heap.size) (hL : L.length ≤ 1000000) : Calls Try.prog 41 #[v, agg k, .int .i64 r] w fun e w' =>
    ∃ v', e = .returned v' ∧ Owns w' base 45 v' (addC L k r) ∧ w.grownBy w' v.ownBlock := by
  generalize hW : w.alloc (.cells (Enc.enc k).toArray 35) = W
  have hb : Below w.heap.size w W := by subst hW; exact fresh_alloc (fresh_refl w) _
  have hk : W.rangeAt w.heap.size 0 (Enc.enc k) := by subst hW; exact range_block (heap_alloc_new w _)
  have HW0 := H.fresh hb
  obtain ⟨A, c, rfl, hR, hcap⟩ := HW0.shape
  have HW := Lib.hid hW
  clear hW
  go_enter Try.func41, Try.ntmps41
  go_wp2_with (refine st_val rfl (run_box 35 _ k rfl rfl) ?_; rw [HW.out])
  go_loopw [7] (fun i wr => ∃ n : Nat, n ≤ L.length ∧ i = .int .i64 n ∧ (∀ j (h : j < L.length), j < n → klt L[j].key k = true) ∧ Below W.heap.size W wr) (fun i _ => L.length - (RowKit.intOf i).toNat)
  case atStart => exact ⟨0, by omega, rfl, fun j h hj => absurd hj (by omega), fresh_refl W⟩
  case round =>
    obtain ⟨n, hn, rfl, hall, hbr⟩ := hrel
    have HALL := Lib.hid hall
    clear hall
    have hkF : ∀ w', (∃ x : Fr wr, w' = x.1) → w'.rangeAt w.heap.size 0 (Enc.enc k) := by
      rintro _ ⟨x, rfl⟩
      exact range_fresh hk (fresh_trans hbr x.2)
    by_cases hlt : n < L.length
    · have hd : decide ((n : Int) < (L.length : Int)) = true := by simp; omega
      obtain ⟨b1, o1, HA1, hr1⟩ := hR.at_n hlt 33 rfl
      subst HA1
      have hiF : ∀ w', (∃ x : Fr wr, w' = x.1) → w'.rangeAt b1 (o1 + n * 33 + 0) (Enc.enc (L[n]'hlt).key) := by
        rintro _ ⟨x, rfl⟩
        exact count_keyAt (range_fresh hr1 (fresh_trans hbr x.2))
      refine wp_seq ?_
      refine wp_seq ?_
      refine wp_region_fresh_lit (by kernel_rfl) (by kernel_rfl) ?_
      first | go_big_quiet_step (fail) | (refine sq_val (v := ?_) (by rfl) ?_ ?_; rotate_left; (focus (rintro w' ⟨x, rfl⟩; go_simp; try with_reducible rfl)); simp only [Act.put, List.setIfInBounds_toArray, List.set_cons_succ, List.set_cons_zero])
      first | go_big_quiet_step (fail) | (refine sq_val (v := ?_) (by rfl) ?_ ?_; rotate_left; (focus (rintro w' ⟨x, rfl⟩; go_simp; try with_reducible rfl)); simp only [Act.put, List.setIfInBounds_toArray, List.set_cons_succ, List.set_cons_zero])
      first | go_big_quiet_step (fail) | (refine sq_val (v := ?_) (by rfl) ?_ ?_; rotate_left; (focus (rintro w' ⟨x, rfl⟩; go_simp; try with_reducible rfl)); simp only [Act.put, List.setIfInBounds_toArray, List.set_cons_succ, List.set_cons_zero])
      first | go_big_quiet_step (fail) | (refine sq_val (v := ?_) (by rfl) ?_ ?_; rotate_left; (focus (rintro w' ⟨x, rfl⟩; go_simp; try with_reducible rfl)); simp only [Act.put, List.setIfInBounds_toArray, List.set_cons_succ, List.set_cons_zero])
      first | go_big_quiet_step (fail) | (refine sq_val (v := ?_) (by rfl) ?_ ?_; rotate_left; (focus (rintro w' ⟨x, rfl⟩; go_simp; try with_reducible rfl)); simp only [Act.put, List.setIfInBounds_toArray, List.set_cons_succ, List.set_cons_zero])
      first | go_big_quiet_step (fail) | (refine sq_val (v := ?_) (by rfl) ?_ ?_; rotate_left; (focus (rintro w' ⟨x, rfl⟩; go_simp; try with_reducible rfl)); simp only [Act.put, List.setIfInBounds_toArray, List.set_cons_succ, List.set_cons_zero])
      first | go_big_quiet_step (fail) | (refine sq_val (v := ?_) (by rfl) ?_ ?_; rotate_left; (focus (rintro w' ⟨x, rfl⟩; go_simp; try with_reducible rfl)); simp only [Act.put, List.setIfInBounds_toArray, List.set_cons_succ, List.set_cons_zero])
      refine sq_val (by rfl) (fun w' hw' => elem_count rfl rfl rfl hlt) ?_
      simp only [Act.put, List.setIfInBounds_toArray, List.set_cons_succ, List.set_cons_zero]
      refine sq_val (by rfl) (fun w' hw' => run_faddr 45 _ 0 rfl rfl _ Try.underlying45 0 _ rfl rfl 31 s35) ?_
      simp only [Act.put, List.setIfInBounds_toArray, List.set_cons_succ, List.set_cons_zero]
      refine sq_val (by rfl) (fun w' hw' => load_key rfl rfl (L[n]'hlt).key (hiF w' hw')) ?_
      simp only [Act.put, List.setIfInBounds_toArray, List.set_cons_succ, List.set_cons_zero]
      refine sq_val (by rfl) (fun w' hw' => load_key rfl rfl k (hkF w' hw')) ?_
      simp only [Act.put, List.setIfInBounds_toArray, List.set_cons_succ, List.set_cons_zero]
      refine sq_call (by rfl) 60 [.tmp 18, .tmp 19] _ rfl [agg (L[n]'hlt).key, agg k] rfl enter_before24 (fr_call (fun w' hw' => before24_ok _ k _)) ?_
      simp only [Act.put, List.setIfInBounds_toArray, List.set_cons_succ, List.set_cons_zero]
      cases hkl : klt (L[n]'hlt).key k with
      | true =>
        first | go_big_quiet_step (fail) | (refine sq_val (v := ?_) (by rfl) ?_ ?_; rotate_left; (focus (rintro w' ⟨x, rfl⟩; go_simp; try with_reducible rfl)); simp only [Act.put, List.setIfInBounds_toArray, List.set_cons_succ, List.set_cons_zero])
        refine wpQuiet_nil ?_
        rintro _ ⟨x1, rfl⟩
        have hb2 := fresh_trans hbr x1.2
        have HKL := Lib.hid hkl
        clear hkl
        go_wp2
        go_roundw
        case rel =>
          refine ⟨n + 1, by omega, by go_num, fun j h hj => ?_, hb2⟩
          by_cases hjn : j < n
          · exact HALL.out j h hjn
          · obtain rfl : j = n := by omega
            exact HKL.out
        case measure => simp [RowKit.intOf]; omega
      | false =>
        first | go_big_quiet_step (fail) | (refine sq_val (v := ?_) (by rfl) ?_ ?_; rotate_left; (focus (rintro w' ⟨x, rfl⟩; go_simp; try with_reducible rfl)); simp only [Act.put, List.setIfInBounds_toArray, List.set_cons_succ, List.set_cons_zero])
        refine wpQuiet_nil ?_
        rintro _ ⟨x1, rfl⟩
        have hb2 := fresh_trans hbr x1.2
        have hpl : placeK keyC L k = n := takeWhile_at _ L n hn (fun j h hj => HALL.out j h hj) (fun h => hkl)
        have HKL := Lib.hid hkl
        clear hkl
        go_wp2
        have hk2 := hkF x1.1 ⟨x1, rfl⟩
        have hi2 := hiF x1.1 ⟨x1, rfl⟩
        have HPL := Lib.hid hpl
        clear hpl
        by_cases hke : (L[n]'hlt).key = k
        · have his : isAtK keyC L k = true := by unfold isAtK; rw [HPL.out, List.getElem?_eq_getElem hlt]; simpa using hke
          have hout : addC L k r = L.set n ⟨k, wrap64 ((L[n]'hlt).refs + r)⟩ := by
            unfold addC
            rw [dif_pos his, HPL.out, List.getElem?_eq_getElem hlt]
          have HIS := Lib.hid his
          clear his
          have HOUT := Lib.hid hout
          clear hout
          refine wp_region_quiet_lit (by kernel_rfl) (by kernel_rfl) ?_
          first | go_big_quiet_step (fail) | (refine sq_val (v := ?_) (by rfl) ?_ ?_; rotate_left; (focus (rintro w' ⟨x, rfl⟩; go_simp; try with_reducible rfl)); simp only [Act.put, List.setIfInBounds_toArray, List.set_cons_succ, List.set_cons_zero])
          first | go_big_quiet_step (fail) | (refine sq_val (v := ?_) (by rfl) ?_ ?_; rotate_left; (focus (rintro w' ⟨x, rfl⟩; go_simp; try with_reducible rfl)); simp only [Act.put, List.setIfInBounds_toArray, List.set_cons_succ, List.set_cons_zero])
          first | go_big_quiet_step (fail) | (refine sq_val (v := ?_) (by rfl) ?_ ?_; rotate_left; (focus (rintro w' ⟨x, rfl⟩; go_simp; try with_reducible rfl)); simp only [Act.put, List.setIfInBounds_toArray, List.set_cons_succ, List.set_cons_zero])
          first | go_big_quiet_step (fail) | (refine sq_val (v := ?_) (by rfl) ?_ ?_; rotate_left; (focus (rintro w' ⟨x, rfl⟩; go_simp; try with_reducible rfl)); simp only [Act.put, List.setIfInBounds_toArray, List.set_cons_succ, List.set_cons_zero])
          first | go_big_quiet_step (fail) | (refine sq_val (v := ?_) (by rfl) ?_ ?_; rotate_left; (focus (rintro w' ⟨x, rfl⟩; go_simp; try with_reducible rfl)); simp only [Act.put, List.setIfInBounds_toArray, List.set_cons_succ, List.set_cons_zero])
          first | go_big_quiet_step (fail) | (refine sq_val (v := ?_) (by rfl) ?_ ?_; rotate_left; (focus (rintro w' ⟨x, rfl⟩; go_simp; try with_reducible rfl)); simp only [Act.put, List.setIfInBounds_toArray, List.set_cons_succ, List.set_cons_zero])
          first | go_big_quiet_step (fail) | (refine sq_val (v := ?_) (by rfl) ?_ ?_; rotate_left; (focus (rintro w' ⟨x, rfl⟩; go_simp; try with_reducible rfl)); simp only [Act.put, List.setIfInBounds_toArray, List.set_cons_succ, List.set_cons_zero])
          refine sq_val (by rfl) (fun w' hw' => elem_count rfl rfl rfl hlt) ?_
          simp only [Act.put, List.setIfInBounds_toArray, List.set_cons_succ, List.set_cons_zero]
          refine sq_val (by rfl) (fun w' hw' => run_faddr 45 _ 0 rfl rfl _ Try.underlying45 0 _ rfl rfl 31 s35) ?_
          simp only [Act.put, List.setIfInBounds_toArray, List.set_cons_succ, List.set_cons_zero]
          refine sq_val (by rfl) (fun w' hw' => load_key rfl rfl (L[n]'hlt).key (by obtain ⟨m, rfl⟩ := hw'; exact hi2)) ?_
          simp only [Act.put, List.setIfInBounds_toArray, List.set_cons_succ, List.set_cons_zero]
          refine sq_val (by rfl) (fun w' hw' => load_key rfl rfl k (by obtain ⟨m, rfl⟩ := hw'; exact hk2)) ?_
          simp only [Act.put, List.setIfInBounds_toArray, List.set_cons_succ, List.set_cons_zero]
          refine sq_val (by rfl) (fun w' hw' => eql_key_t rfl rfl rfl hke) ?_
          simp only [Act.put, List.setIfInBounds_toArray, List.set_cons_succ, List.set_cons_zero]
          first | go_big_quiet_step (fail) | (refine sq_val (v := ?_) (by rfl) ?_ ?_; rotate_left; (focus (rintro w' ⟨x, rfl⟩; go_simp; try with_reducible rfl)); simp only [Act.put, List.setIfInBounds_toArray, List.set_cons_succ, List.set_cons_zero])
          refine wpQuiet_nil ?_
          intro _ hw'
          obtain ⟨nq, hw''⟩ := hw'
          subst hw''
          have hLne : L ≠ [] := by intro e; subst e; simp at hlt
          have hbu : Below w.heap.size w (x1.1.drewN nq) := fresh_drewN (fresh_trans hb hb2) nq
          have HO : Owns (x1.1.drewN nq) base 45 (.slice (some ⟨b1, o1, none⟩) L.length c) L := (HW0.fresh hb2).drewN nq
          have hrc : (x1.1.drewN nq).cell? ⟨b1, o1 + n * 33 + 32, none⟩ = some (.int .i64 (L[n]'hlt).refs) := count_refsAt (range_fresh hr1 (fresh_drewN hb2 nq))
          clear hk2 hi2 hkF hiF
          generalize x1.1.drewN nq = u at hbu HO hrc ⊢
          obtain ⟨g, cap, hv, hgb, hgu, hcp⟩ := HO.some' hLne
          obtain ⟨⟨rfl, rfl⟩, -⟩ : (b1 = g ∧ o1 = 0) ∧ c = cap := by simpa using hv
          rw [Nat.zero_add] at hrc
          have hfz : u.frozen? ⟨b1, n * 33 + 32, none⟩ = false := by
            rcases HO.2 with ⟨h1, hn0⟩ | ⟨g', cap', cur, he, hb', hg', _⟩
            · exact absurd (List.eq_nil_of_length_eq_zero hn0) hLne
            · obtain ⟨rfl, -⟩ : b1 = g' ∧ c = cap' := by simpa using he
              exact frozen_of_block hg' _
          have hO2 : Owns (u.setCell ⟨b1, n * 33 + 32, none⟩ (.int .i64 (wrap64 ((L[n]'hlt).refs + r)))) base 45 (.slice (some ⟨b1, 0, none⟩) L.length c) (addC L k r) := by
            rw [HOUT.out]
            exact Owns.set HO rfl n hlt ⟨k, wrap64 ((L[n]'hlt).refs + r)⟩ 32 [intV (wrap64 ((L[n]'hlt).refs + r))] (Nat.le_refl 33) (by
              have h1 := set_count_refs (L[n]'hlt) (wrap64 ((L[n]'hlt).refs + r))
              rw [h1, ← hke])
          have hgr : w.grownBy (u.setCell ⟨b1, n * 33 + 32, none⟩ (.int .i64 (wrap64 ((L[n]'hlt).refs + r)))) (some b1) := (grown_weak hbu b1).trans (grown_setCell u ⟨b1, n * 33 + 32, none⟩ _)
          generalize hrr : (L[n]'hlt).refs = q at hrc hO2 hgr
          clear HO hv
          go_wp2_with (first
            | (refine st_val rfl (elem_count rfl rfl rfl hlt) ?_)
            | (refine st_val rfl (run_faddr 45 _ 1 rfl rfl _ Try.underlying45 32 _ rfl rfl 0 sint') ?_)
            | (refine st_val rfl (run_load1 3 _ rfl rfl ?_ _ Try.underlying3 rfl) ?_; (with_reducible exact hrc))
            | (refine st_skip rfl (run_store1 3 _ _ rfl rfl (v := .int .i64 (wrap64 (q + r))) (wrap_val (q + r)) ?_ ?_ rfl rfl sint') ?_; (with_reducible exact hrc); (with_reducible exact hfz)))
          go_ret
          exact ⟨_, rfl, hO2, hgr⟩
        · have his : isAtK keyC L k = false := by unfold isAtK; rw [HPL.out, List.getElem?_eq_getElem hlt]; simpa using hke
          have hout : addC L k r = L.take n ++ countOf (k, r) :: L.drop n := by
            unfold addC
            rw [dif_neg (by rw [his]; simp)]
            unfold rowAddK
            rw [HPL.out]
            rfl
          clear his
          have hbu : Below w.heap.size w x1.1 := fresh_trans hb hb2
          have HO : Owns x1.1 base 45 (.slice (some ⟨b1, o1, none⟩) L.length c) L := HW0.fresh hb2
          have hRu := hR.fresh hb2
          have HOUT0 := Lib.hid hout
          clear hout
          refine wp_region_quiet_lit (by kernel_rfl) (by kernel_rfl) ?_
          first | go_big_quiet_step (fail) | (refine sq_val (v := ?_) (by rfl) ?_ ?_; rotate_left; (focus (rintro w' ⟨x, rfl⟩; go_simp; try with_reducible rfl)); simp only [Act.put, List.setIfInBounds_toArray, List.set_cons_succ, List.set_cons_zero])
          first | go_big_quiet_step (fail) | (refine sq_val (v := ?_) (by rfl) ?_ ?_; rotate_left; (focus (rintro w' ⟨x, rfl⟩; go_simp; try with_reducible rfl)); simp only [Act.put, List.setIfInBounds_toArray, List.set_cons_succ, List.set_cons_zero])
          first | go_big_quiet_step (fail) | (refine sq_val (v := ?_) (by rfl) ?_ ?_; rotate_left; (focus (rintro w' ⟨x, rfl⟩; go_simp; try with_reducible rfl)); simp only [Act.put, List.setIfInBounds_toArray, List.set_cons_succ, List.set_cons_zero])
          first | go_big_quiet_step (fail) | (refine sq_val (v := ?_) (by rfl) ?_ ?_; rotate_left; (focus (rintro w' ⟨x, rfl⟩; go_simp; try with_reducible rfl)); simp only [Act.put, List.setIfInBounds_toArray, List.set_cons_succ, List.set_cons_zero])
          first | go_big_quiet_step (fail) | (refine sq_val (v := ?_) (by rfl) ?_ ?_; rotate_left; (focus (rintro w' ⟨x, rfl⟩; go_simp; try with_reducible rfl)); simp only [Act.put, List.setIfInBounds_toArray, List.set_cons_succ, List.set_cons_zero])
          first | go_big_quiet_step (fail) | (refine sq_val (v := ?_) (by rfl) ?_ ?_; rotate_left; (focus (rintro w' ⟨x, rfl⟩; go_simp; try with_reducible rfl)); simp only [Act.put, List.setIfInBounds_toArray, List.set_cons_succ, List.set_cons_zero])
          first | go_big_quiet_step (fail) | (refine sq_val (v := ?_) (by rfl) ?_ ?_; rotate_left; (focus (rintro w' ⟨x, rfl⟩; go_simp; try with_reducible rfl)); simp only [Act.put, List.setIfInBounds_toArray, List.set_cons_succ, List.set_cons_zero])
          refine sq_val (by rfl) (fun w' hw' => elem_count rfl rfl rfl hlt) ?_
          simp only [Act.put, List.setIfInBounds_toArray, List.set_cons_succ, List.set_cons_zero]
          refine sq_val (by rfl) (fun w' hw' => run_faddr 45 _ 0 rfl rfl _ Try.underlying45 0 _ rfl rfl 31 s35) ?_
          simp only [Act.put, List.setIfInBounds_toArray, List.set_cons_succ, List.set_cons_zero]
          refine sq_val (by rfl) (fun w' hw' => load_key rfl rfl (L[n]'hlt).key (by obtain ⟨m, rfl⟩ := hw'; exact hi2)) ?_
          simp only [Act.put, List.setIfInBounds_toArray, List.set_cons_succ, List.set_cons_zero]
          refine sq_val (by rfl) (fun w' hw' => load_key rfl rfl k (by obtain ⟨m, rfl⟩ := hw'; exact hk2)) ?_
          simp only [Act.put, List.setIfInBounds_toArray, List.set_cons_succ, List.set_cons_zero]
          refine sq_val (by rfl) (fun w' hw' => eql_key_f rfl rfl rfl hke) ?_
          simp only [Act.put, List.setIfInBounds_toArray, List.set_cons_succ, List.set_cons_zero]
          first | go_big_quiet_step (fail) | (refine sq_val (v := ?_) (by rfl) ?_ ?_; rotate_left; (focus (rintro w' ⟨x, rfl⟩; go_simp; try with_reducible rfl)); simp only [Act.put, List.setIfInBounds_toArray, List.set_cons_succ, List.set_cons_zero])
          refine wpQuiet_nil ?_
          intro _ hw'
          obtain ⟨nq, hw''⟩ := hw'
          subst hw''
          have hout := HOUT0.out
          clear HOUT0
          replace hbu := fresh_drewN hbu nq
          replace HO := HO.drewN nq
          replace hRu := hRu.drewN nq
          have hku : (x1.1.drewN nq).rangeAt w.heap.size 0 (Enc.enc k) := hk2
          clear hk2 hi2 hkF hiF hr1 hke
          generalize x1.1.drewN nq = u at hbu HO hRu hku ⊢
          have hspot : ∀ a, (some (⟨b1, o1, none⟩ : Addr)) = some a → a.spot = none := by
            intro a ha
            rcases HO.2 with ⟨h1, hn0⟩ | ⟨g', cap', cur, he, hb', hg', _⟩
            · simp [ha] at h1
            · simp [ha] at he
              rw [he.1]
          have hT1 : (L.take n).length = n := by rw [List.length_take]; omega
          have hD1 : (L.drop n).length = L.length - n := List.length_drop
          have hRT := hRu.take n
          have hRD := hRu.drop n c (by omega) hcap
          obtain ⟨A', hA'⟩ : ∃ A' : Option Addr, A' = if c = n then (some (⟨b1, o1, none⟩ : Addr)) else (some (⟨b1, o1, none⟩ : Addr)).map (·.add (n * 33)) := ⟨_, rfl⟩
          have hRD' : Reads u A' (L.drop n) := by rw [hA']; exact hRD
          obtain ⟨d, hcd⟩ : ∃ d, c = n + d := ⟨c - n, by omega⟩
          have hcT : n ≤ c := by omega
          clear hRD
          generalize L.take n = T1 at hT1 hRT hout
          generalize L.drop n = D1 at hD1 hRD' hout
          have hLl : L.length = n + D1.length := by omega
          subst hT1
          have hus : w.heap.size ≤ u.heap.size := hbu.size
          have key : ∀ v1 w1, Owns w1 u.heap.size 45 v1 ([] ++ T1) → (u.alloc (.cells #[] 45)).grownBy w1 (some u.heap.size) → Below u.heap.size u w1 ∧ Owns w1 u.heap.size 45 v1 T1 ∧ u.heap.size ≤ w1.heap.size ∧ w1.rangeAt w.heap.size 0 (Enc.enc k) := fun v1 w1 hO1 hg1 => by
            rw [List.nil_append] at hO1
            have hbu1 : Below u.heap.size u w1 := fresh_grown (fresh_alloc (fresh_refl u) _) hg1 (fun k hk => by injection hk with hk; omega)
            exact ⟨hbu1, hO1, hbu1.size, range_fresh hku hbu1⟩
          have hRTa := hRT.alloc (.cells #[] 45)
          have hO0 := Owns.row0 (α := Count) u u.heap.size 45 (Nat.le_refl _)
          have hsa : u.heap.size ≤ (u.alloc (.cells #[] 45)).heap.size := by simp
          have hbigT : (([] : List Count).length + T1.length) * 40 ≤ 140737488355328 := by simp; omega
          have hbig1 : (T1.length + 1) * 40 ≤ 140737488355328 := by omega
          have hbigD : ((T1 ++ [countOf (k, r)]).length + D1.length) * 40 ≤ 140737488355328 := by simp; omega
          have HSP := Lib.hid hspot
          clear hspot
          have HLL := Lib.hid hLl
          clear hLl
          have HCD := Lib.hid hcd
          clear hcd
          have HA := Lib.hid hA'
          clear hA'
          have KEY := Lib.hid key
          clear key
          have HOUT := Lib.hid hout
          clear hout
          clear HO hRu hRT
          go_wp2_with (first
            | (refine st_val rfl (run_row0 25 45 rfl Try.underlying25 33 s45) ?_)
            | (refine st_val rfl (op_slice_to 25 45 _ _ rfl Try.underlying25 33 s45 rfl T1.length rfl hcT HSP.out) ?_)
            | (refine st_val rfl (op_slice_rest 25 45 _ _ rfl Try.underlying25 33 s45 rfl T1.length rfl D1.length d HLL.out HCD.out A' HA.out) ?_)
            | (refine st_val rfl (load_key rfl rfl k ?_) ?_; (with_reducible exact hk3))
            | (refine st_val rfl (build_count k r rfl rfl rfl) ?_)
            | (refine st_val rfl (run_row1 25 45 _ rfl Try.underlying25 Count.zero (countOf (k, r)) 40 info45 rfl (by decide)) ?_)
            | (at_builtin; refine st_append u.heap.size rfl _ _ 25 45 rfl Try.underlying25 Count.zero 40 info45 (by decide) _ [] T1 rfl rfl hO0 hRTa hbigT hsa (fun v1 w1 hO1 hg1 hat1 => ?_);
               obtain ⟨hb1, hO1', hs1, hk3⟩ := KEY.out v1 w1 hO1 hg1)
            | (at_builtin; refine st_push u.heap.size rfl _ _ 25 45 rfl Try.underlying25 Count.zero 40 info45 (by decide) v1 T1 (countOf (k, r)) rfl rfl hO1' hbig1 hs1 (fun v2 w2 hO2 hg2 hv2 => ?_);
               have hb2 := fresh_own hb1 hO1' hg2 (Nat.le_refl _);
               have hs2 := hb2.size;
               have hRD2 := hRD'.fresh hb2)
            | (at_builtin; refine st_append u.heap.size rfl _ _ 25 45 rfl Try.underlying25 Count.zero 40 info45 (by decide) v2 (T1 ++ [countOf (k, r)]) D1 rfl rfl hO2 hRD2 hbigD hs2 (fun v3 w3 hO3 hg3 hat3 => ?_);
               have hb3 := fresh_own hb2 hO2 hg3 (Nat.le_refl _)))
          go_ret
          refine ⟨_, rfl, ?_, ?_⟩
          · rw [HOUT.out]
            have hL3 : (T1 ++ [countOf (k, r)]) ++ D1 = T1 ++ countOf (k, r) :: D1 := by simp
            rw [hL3] at hO3
            exact hO3.lower (by omega)
          · exact grown_of_fresh (fresh_trans hbu hb3) _
    · have hd : decide ((n : Int) < (L.length : Int)) = false := by simp; omega
      have hnl : n = L.length := by omega
      have hpl : placeK keyC L k = n := takeWhile_at _ L n hn (fun j h hj => HALL.out j h hj) (fun h => absurd h hlt)
      have his : isAtK keyC L k = false := by unfold isAtK; rw [hpl, List.getElem?_eq_none (by omega)]
      have hout : addC L k r = L.take n ++ countOf (k, r) :: L.drop n := by
        unfold addC
        rw [dif_neg (by rw [his]; simp)]
        unfold rowAddK
        rw [hpl]
        rfl
      clear his
      have hbu : Below w.heap.size w wr := fresh_trans hb hbr
      have HO : Owns wr base 45 (.slice A L.length c) L := HW0.fresh hbr
      have hRu := hR.fresh hbr
      have hku : wr.rangeAt w.heap.size 0 (Enc.enc k) := range_fresh hk hbr
      clear hkF
      have HPL := Lib.hid hpl
      clear hpl
      have HOUT0 := Lib.hid hout
      clear hout
      refine wp_seq ?_
      refine wp_seq ?_
      refine wp_region_fresh_lit (by kernel_rfl) (by kernel_rfl) ?_
      first | go_big_quiet_step (fail) | (refine sq_val (v := ?_) (by rfl) ?_ ?_; rotate_left; (focus (rintro w' ⟨x, rfl⟩; go_simp; try with_reducible rfl)); simp only [Act.put, List.setIfInBounds_toArray, List.set_cons_succ, List.set_cons_zero])
      first | go_big_quiet_step (fail) | (refine sq_val (v := ?_) (by rfl) ?_ ?_; rotate_left; (focus (rintro w' ⟨x, rfl⟩; go_simp; try with_reducible rfl)); simp only [Act.put, List.setIfInBounds_toArray, List.set_cons_succ, List.set_cons_zero])
      first | go_big_quiet_step (fail) | (refine sq_val (v := ?_) (by rfl) ?_ ?_; rotate_left; (focus (rintro w' ⟨x, rfl⟩; go_simp; try with_reducible rfl)); simp only [Act.put, List.setIfInBounds_toArray, List.set_cons_succ, List.set_cons_zero])
      first | go_big_quiet_step (fail) | (refine sq_val (v := ?_) (by rfl) ?_ ?_; rotate_left; (focus (rintro w' ⟨x, rfl⟩; go_simp; try with_reducible rfl)); simp only [Act.put, List.setIfInBounds_toArray, List.set_cons_succ, List.set_cons_zero])
      first | go_big_quiet_step (fail) | (refine sq_val (v := ?_) (by rfl) ?_ ?_; rotate_left; (focus (rintro w' ⟨x, rfl⟩; go_simp; try with_reducible rfl)); simp only [Act.put, List.setIfInBounds_toArray, List.set_cons_succ, List.set_cons_zero])
      first | go_big_quiet_step (fail) | (refine sq_val (v := ?_) (by rfl) ?_ ?_; rotate_left; (focus (rintro w' ⟨x, rfl⟩; go_simp; try with_reducible rfl)); simp only [Act.put, List.setIfInBounds_toArray, List.set_cons_succ, List.set_cons_zero])
      first | go_big_quiet_step (fail) | (refine sq_val (v := ?_) (by rfl) ?_ ?_; rotate_left; (focus (rintro w' ⟨x, rfl⟩; go_simp; try with_reducible rfl)); simp only [Act.put, List.setIfInBounds_toArray, List.set_cons_succ, List.set_cons_zero])
      first | go_big_quiet_step (fail) | (refine sq_val (v := ?_) (by rfl) ?_ ?_; rotate_left; (focus (rintro w' ⟨x, rfl⟩; go_simp; try with_reducible rfl)); simp only [Act.put, List.setIfInBounds_toArray, List.set_cons_succ, List.set_cons_zero])
      first | go_big_quiet_step (fail) | (refine sq_val (v := ?_) (by rfl) ?_ ?_; rotate_left; (focus (rintro w' ⟨x, rfl⟩; go_simp; try with_reducible rfl)); simp only [Act.put, List.setIfInBounds_toArray, List.set_cons_succ, List.set_cons_zero])
      first | go_big_quiet_step (fail) | (refine sq_val (v := ?_) (by rfl) ?_ ?_; rotate_left; (focus (rintro w' ⟨x, rfl⟩; go_simp; try with_reducible rfl)); simp only [Act.put, List.setIfInBounds_toArray, List.set_cons_succ, List.set_cons_zero])
      first | go_big_quiet_step (fail) | (refine sq_val (v := ?_) (by rfl) ?_ ?_; rotate_left; (focus (rintro w' ⟨x, rfl⟩; go_simp; try with_reducible rfl)); simp only [Act.put, List.setIfInBounds_toArray, List.set_cons_succ, List.set_cons_zero])
      first | go_big_quiet_step (fail) | (refine sq_val (v := ?_) (by rfl) ?_ ?_; rotate_left; (focus (rintro w' ⟨x, rfl⟩; go_simp; try with_reducible rfl)); simp only [Act.put, List.setIfInBounds_toArray, List.set_cons_succ, List.set_cons_zero])
      first | go_big_quiet_step (fail) | (refine sq_val (v := ?_) (by rfl) ?_ ?_; rotate_left; (focus (rintro w' ⟨x, rfl⟩; go_simp; try with_reducible rfl)); simp only [Act.put, List.setIfInBounds_toArray, List.set_cons_succ, List.set_cons_zero])
      refine wpQuiet_nil ?_
      rintro _ ⟨x1, rfl⟩
      have hb2 := x1.2
      replace hRu := hRu.fresh hb2
      replace HO := HO.fresh hb2
      replace hku := range_fresh hku hb2
      replace hbu := fresh_trans hbu hb2
      go_wp2
      refine wp_region_quiet_lit (by kernel_rfl) (by kernel_rfl) ?_
      first | go_big_quiet_step (fail) | (refine sq_val (v := ?_) (by rfl) ?_ ?_; rotate_left; (focus (rintro w' ⟨x, rfl⟩; go_simp; try with_reducible rfl)); simp only [Act.put, List.setIfInBounds_toArray, List.set_cons_succ, List.set_cons_zero])
      first | go_big_quiet_step (fail) | (refine sq_val (v := ?_) (by rfl) ?_ ?_; rotate_left; (focus (rintro w' ⟨x, rfl⟩; go_simp; try with_reducible rfl)); simp only [Act.put, List.setIfInBounds_toArray, List.set_cons_succ, List.set_cons_zero])
      first | go_big_quiet_step (fail) | (refine sq_val (v := ?_) (by rfl) ?_ ?_; rotate_left; (focus (rintro w' ⟨x, rfl⟩; go_simp; try with_reducible rfl)); simp only [Act.put, List.setIfInBounds_toArray, List.set_cons_succ, List.set_cons_zero])
      first | go_big_quiet_step (fail) | (refine sq_val (v := ?_) (by rfl) ?_ ?_; rotate_left; (focus (rintro w' ⟨x, rfl⟩; go_simp; try with_reducible rfl)); simp only [Act.put, List.setIfInBounds_toArray, List.set_cons_succ, List.set_cons_zero])
      first | go_big_quiet_step (fail) | (refine sq_val (v := ?_) (by rfl) ?_ ?_; rotate_left; (focus (rintro w' ⟨x, rfl⟩; go_simp; try with_reducible rfl)); simp only [Act.put, List.setIfInBounds_toArray, List.set_cons_succ, List.set_cons_zero])
      first | go_big_quiet_step (fail) | (refine sq_val (v := ?_) (by rfl) ?_ ?_; rotate_left; (focus (rintro w' ⟨x, rfl⟩; go_simp; try with_reducible rfl)); simp only [Act.put, List.setIfInBounds_toArray, List.set_cons_succ, List.set_cons_zero])
      first | go_big_quiet_step (fail) | (refine sq_val (v := ?_) (by rfl) ?_ ?_; rotate_left; (focus (rintro w' ⟨x, rfl⟩; go_simp; try with_reducible rfl)); simp only [Act.put, List.setIfInBounds_toArray, List.set_cons_succ, List.set_cons_zero])
      first | go_big_quiet_step (fail) | (refine sq_val (v := ?_) (by rfl) ?_ ?_; rotate_left; (focus (rintro w' ⟨x, rfl⟩; go_simp; try with_reducible rfl)); simp only [Act.put, List.setIfInBounds_toArray, List.set_cons_succ, List.set_cons_zero])
      first | go_big_quiet_step (fail) | (refine sq_val (v := ?_) (by rfl) ?_ ?_; rotate_left; (focus (rintro w' ⟨x, rfl⟩; go_simp; try with_reducible rfl)); simp only [Act.put, List.setIfInBounds_toArray, List.set_cons_succ, List.set_cons_zero])
      first | go_big_quiet_step (fail) | (refine sq_val (v := ?_) (by rfl) ?_ ?_; rotate_left; (focus (rintro w' ⟨x, rfl⟩; go_simp; try with_reducible rfl)); simp only [Act.put, List.setIfInBounds_toArray, List.set_cons_succ, List.set_cons_zero])
      first | go_big_quiet_step (fail) | (refine sq_val (v := ?_) (by rfl) ?_ ?_; rotate_left; (focus (rintro w' ⟨x, rfl⟩; go_simp; try with_reducible rfl)); simp only [Act.put, List.setIfInBounds_toArray, List.set_cons_succ, List.set_cons_zero])
      first | go_big_quiet_step (fail) | (refine sq_val (v := ?_) (by rfl) ?_ ?_; rotate_left; (focus (rintro w' ⟨x, rfl⟩; go_simp; try with_reducible rfl)); simp only [Act.put, List.setIfInBounds_toArray, List.set_cons_succ, List.set_cons_zero])
      first | go_big_quiet_step (fail) | (refine sq_val (v := ?_) (by rfl) ?_ ?_; rotate_left; (focus (rintro w' ⟨x, rfl⟩; go_simp; try with_reducible rfl)); simp only [Act.put, List.setIfInBounds_toArray, List.set_cons_succ, List.set_cons_zero])
      refine wpQuiet_nil ?_
      intro _ hw'
      obtain ⟨nq, hw''⟩ := hw'
      subst hw''
      have hout := HOUT0.out
      clear HOUT0
      replace hbu := fresh_drewN hbu nq
      replace HO := HO.drewN nq
      replace hRu := hRu.drewN nq
      have hku2 : (x1.1.drewN nq).rangeAt w.heap.size 0 (Enc.enc k) := hku
      clear hku
      generalize x1.1.drewN nq = u at hbu HO hRu hku2 ⊢
      have hku := hku2
      clear hku2 hnl hd hlt
      have hspot : ∀ a, A = some a → a.spot = none := by
        intro a ha
        rcases HO.2 with ⟨h1, hn0⟩ | ⟨g', cap', cur, he, hb', hg', _⟩
        · simp [ha] at h1
        · simp [ha] at he
          rw [he.1]
      have hT1 : (L.take n).length = n := by rw [List.length_take]; omega
      have hD1 : (L.drop n).length = L.length - n := List.length_drop
      have hRT := hRu.take n
      have hRD := hRu.drop n c (by omega) hcap
      obtain ⟨A', hA'⟩ : ∃ A' : Option Addr, A' = if c = n then A else A.map (·.add (n * 33)) := ⟨_, rfl⟩
      have hRD' : Reads u A' (L.drop n) := by rw [hA']; exact hRD
      obtain ⟨d, hcd⟩ : ∃ d, c = n + d := ⟨c - n, by omega⟩
      have hcT : n ≤ c := by omega
      clear hRD
      generalize L.take n = T1 at hT1 hRT hout
      generalize L.drop n = D1 at hD1 hRD' hout
      have hLl : L.length = n + D1.length := by omega
      subst hT1
      have hus : w.heap.size ≤ u.heap.size := hbu.size
      have key : ∀ v1 w1, Owns w1 u.heap.size 45 v1 ([] ++ T1) → (u.alloc (.cells #[] 45)).grownBy w1 (some u.heap.size) → Below u.heap.size u w1 ∧ Owns w1 u.heap.size 45 v1 T1 ∧ u.heap.size ≤ w1.heap.size ∧ w1.rangeAt w.heap.size 0 (Enc.enc k) := fun v1 w1 hO1 hg1 => by
        rw [List.nil_append] at hO1
        have hbu1 : Below u.heap.size u w1 := fresh_grown (fresh_alloc (fresh_refl u) _) hg1 (fun k hk => by injection hk with hk; omega)
        exact ⟨hbu1, hO1, hbu1.size, range_fresh hku hbu1⟩
      have hRTa := hRT.alloc (.cells #[] 45)
      have hO0 := Owns.row0 (α := Count) u u.heap.size 45 (Nat.le_refl _)
      have hsa : u.heap.size ≤ (u.alloc (.cells #[] 45)).heap.size := by simp
      have hbigT : (([] : List Count).length + T1.length) * 40 ≤ 140737488355328 := by simp; omega
      have hbig1 : (T1.length + 1) * 40 ≤ 140737488355328 := by omega
      have hbigD : ((T1 ++ [countOf (k, r)]).length + D1.length) * 40 ≤ 140737488355328 := by simp; omega
      have HSP := Lib.hid hspot
      clear hspot
      have HLL := Lib.hid hLl
      clear hLl
      have HCD := Lib.hid hcd
      clear hcd
      have HA := Lib.hid hA'
      clear hA'
      have KEY := Lib.hid key
      clear key
      have HOUT := Lib.hid hout
      clear hout
      clear HO hRu hRT
      go_wp2_with (first
        | (refine st_val rfl (run_row0 25 45 rfl Try.underlying25 33 s45) ?_)
        | (refine st_val rfl (op_slice_to 25 45 _ _ rfl Try.underlying25 33 s45 rfl T1.length rfl hcT HSP.out) ?_)
        | (refine st_val rfl (op_slice_rest 25 45 _ _ rfl Try.underlying25 33 s45 rfl T1.length rfl D1.length d HLL.out HCD.out A' HA.out) ?_)
        | (refine st_val rfl (load_key rfl rfl k ?_) ?_; (with_reducible exact hk3))
        | (refine st_val rfl (build_count k r rfl rfl rfl) ?_)
        | (refine st_val rfl (run_row1 25 45 _ rfl Try.underlying25 Count.zero (countOf (k, r)) 40 info45 rfl (by decide)) ?_)
        | (at_builtin; refine st_append u.heap.size rfl _ _ 25 45 rfl Try.underlying25 Count.zero 40 info45 (by decide) _ [] T1 rfl rfl hO0 hRTa hbigT hsa (fun v1 w1 hO1 hg1 hat1 => ?_);
           obtain ⟨hb1, hO1', hs1, hk3⟩ := KEY.out v1 w1 hO1 hg1)
        | (at_builtin; refine st_push u.heap.size rfl _ _ 25 45 rfl Try.underlying25 Count.zero 40 info45 (by decide) v1 T1 (countOf (k, r)) rfl rfl hO1' hbig1 hs1 (fun v2 w2 hO2 hg2 hv2 => ?_);
           have hb2 := fresh_own hb1 hO1' hg2 (Nat.le_refl _);
           have hs2 := hb2.size;
           have hRD2 := hRD'.fresh hb2)
        | (at_builtin; refine st_append u.heap.size rfl _ _ 25 45 rfl Try.underlying25 Count.zero 40 info45 (by decide) v2 (T1 ++ [countOf (k, r)]) D1 rfl rfl hO2 hRD2 hbigD hs2 (fun v3 w3 hO3 hg3 hat3 => ?_);
           have hb3 := fresh_own hb2 hO2 hg3 (Nat.le_refl _)))
      go_ret
      refine ⟨_, rfl, ?_, ?_⟩
      · rw [HOUT.out]
        have hL3 : (T1 ++ [countOf (k, r)]) ++ D1 = T1 ++ countOf (k, r) :: D1 := by simp
        rw [hL3] at hO3
        exact hO3.lower (by omega)
      · exact grown_of_fresh (fresh_trans hbu hb3) _
end Go.Pb
