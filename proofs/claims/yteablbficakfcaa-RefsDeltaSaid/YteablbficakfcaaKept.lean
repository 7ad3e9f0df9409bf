/- What was handed in: is all still as it was, and are the marks behind it? -/
import Derived.Test.YteablbficakfcaaLent
import Derived.Test.YteablbficakfcaaSame
set_option linter.unusedVariables false
set_option linter.unusedSimpArgs false
set_option linter.unusedSectionVars false
namespace Go.Pb
open Go.RowKit Go.Proofs Go.BigFrame

set_option maxRecDepth 100000 in
set_option maxHeartbeats 1000000 in
theorem keptCounts_ok (g : Nat) (A : Option Addr) (c base : Nat) (l : List Count) (w : World) (hO : Lent markC w base 45 g l) (hA : Reads w A l) (hlen : l.length ≤ 100000) : Calls Try.prog 21 #[.slice (some ⟨g, 0, none⟩) l.length (l.length + 12), .slice A l.length c] w fun e w' => e = .returned (.bool true) ∧ Below w.heap.size w w' := by
  obtain ⟨m, hm⟩ : ∃ m, m = l.length + 12 := ⟨_, rfl⟩
  have hm2 : Value.int .i64 ((l.length : Int) + 12) = Value.int .i64 (m : Int) := by rw [hm]; exact int_cast_add l.length 12
  have hmle : m ≤ 100012 := by omega
  have hl0 := int_bne_f (rfl : l.length = l.length)
  unfold Lent at hO
  rw [← hm] at hO ⊢
  have hlm : l.length ≤ m := by omega
  have HM := Lib.hid hm
  clear hm
  have HM2 := Lib.hid hm2
  clear hm2
  go_enter Try.func21, Try.ntmps21
  go_wp2_with (refine st_val rfl (op_slice_to 25 45 (.tmp 12) (.tmp 15) rfl Try.underlying25 (Enc.sz Count) sz_count rfl m HM2.out (Nat.le_refl m) (fun a ha => by injection ha with ha; subst ha; rfl)) ?_)
  go_loopw [6] (fun i wr => ∃ (n : Nat), n ≤ m ∧ i = .int .i64 n ∧ Below w.heap.size w wr) (fun i _ => m - (RowKit.intOf i).toNat)
  case atStart => exact ⟨0, by omega, rfl, fresh_refl w⟩
  case round =>
    obtain ⟨n, hn, rfl, hb⟩ := hrel
    by_cases hlt : n < m
    · by_cases hin : n < l.length
      · have hrO := read_count (k := n) hO (lent_get1 hin)
        obtain ⟨b1, o1, rfl, hr1⟩ := hA.at_n hin 33 rfl
        have hcF : ∀ w', (∃ x : Fr wr, w' = x.1) → w'.rangeAt g (n * 33) (Enc.enc (l[n]'hin)) := by
          rintro _ ⟨x, rfl⟩
          exact range_fresh hrO (fresh_trans hb x.2)
        have hlF : ∀ w', (∃ x : Fr wr, w' = x.1) → w'.rangeAt b1 (o1 + n * 33) (Enc.enc (l[n]'hin)) := by
          rintro _ ⟨x, rfl⟩
          exact range_fresh hr1 (fresh_trans hb x.2)
        clear hrO hr1
        have HCF := Lib.hid hcF
        clear hcF
        have HLF := Lib.hid hlF
        clear hlF
        go_wp2
        refine wp_region_fresh_lit (by kernel_rfl) (by kernel_rfl) ?_
        refine sq_val (by rfl) (fun w' _ => op_move _ (.int .i64 (n : Int)) rfl rfl) ?_
        simp only [Act.put, List.setIfInBounds_toArray, List.set_cons_succ, List.set_cons_zero]
        refine sq_val (by rfl) (fun w' _ => op_move _ (.slice (some ⟨b1, o1, none⟩) l.length c) rfl rfl) ?_
        simp only [Act.put, List.setIfInBounds_toArray, List.set_cons_succ, List.set_cons_zero]
        refine sq_val (by rfl) (fun w' _ => op_lenS _ 25 _ _ (l.length) _ rfl Try.underlying25 rfl) ?_
        simp only [Act.put, List.setIfInBounds_toArray, List.set_cons_succ, List.set_cons_zero]
        refine sq_val (by rfl) (fun w' _ => op_lss64 _ _ _ _ _ _ true rfl rfl rfl (decide_eq_true (by omega))) ?_
        simp only [Act.put, List.setIfInBounds_toArray, List.set_cons_succ, List.set_cons_zero]
        refine sq_val (by rfl) (fun w' _ => op_move _ (.bool true) rfl rfl) ?_
        simp only [Act.put, List.setIfInBounds_toArray, List.set_cons_succ, List.set_cons_zero]
        refine sq_val (by rfl) (fun w' _ => op_move _ (.slice (some ⟨g, 0, none⟩) m m) rfl rfl) ?_
        simp only [Act.put, List.setIfInBounds_toArray, List.set_cons_succ, List.set_cons_zero]
        refine sq_val (by rfl) (fun w' _ => op_move _ (.int .i64 (n : Int)) rfl rfl) ?_
        simp only [Act.put, List.setIfInBounds_toArray, List.set_cons_succ, List.set_cons_zero]
        refine sq_val (by rfl) (fun w' hw' => elem0_count rfl rfl rfl hlt) ?_
        simp only [Act.put, List.setIfInBounds_toArray, List.set_cons_succ, List.set_cons_zero]
        refine sq_val (by rfl) (fun w' hw' => load_count rfl rfl (l[n]'hin) (HCF.out w' hw')) ?_
        simp only [Act.put, List.setIfInBounds_toArray, List.set_cons_succ, List.set_cons_zero]
        refine sq_val (by rfl) (fun w' _ => op_move _ (.slice (some ⟨b1, o1, none⟩) l.length c) rfl rfl) ?_
        simp only [Act.put, List.setIfInBounds_toArray, List.set_cons_succ, List.set_cons_zero]
        refine sq_val (by rfl) (fun w' _ => op_move _ (.int .i64 (n : Int)) rfl rfl) ?_
        simp only [Act.put, List.setIfInBounds_toArray, List.set_cons_succ, List.set_cons_zero]
        refine sq_val (by rfl) (fun w' hw' => elem_count rfl rfl rfl hin) ?_
        simp only [Act.put, List.setIfInBounds_toArray, List.set_cons_succ, List.set_cons_zero]
        refine sq_val (by rfl) (fun w' hw' => load_count rfl rfl (l[n]'hin) (HLF.out w' hw')) ?_
        simp only [Act.put, List.setIfInBounds_toArray, List.set_cons_succ, List.set_cons_zero]
        refine sq_val (by rfl) (fun w' hw' => eql_count_t rfl rfl rfl rfl) ?_
        simp only [Act.put, List.setIfInBounds_toArray, List.set_cons_succ, List.set_cons_zero]
        refine sq_val (by rfl) (fun w' _ => op_not _ _ true false rfl rfl rfl) ?_
        simp only [Act.put, List.setIfInBounds_toArray, List.set_cons_succ, List.set_cons_zero]
        refine sq_val (by rfl) (fun w' _ => op_pick_t _ _ _ (.bool false) rfl rfl rfl) ?_
        simp only [Act.put, List.setIfInBounds_toArray, List.set_cons_succ, List.set_cons_zero]
        refine sq_val (by rfl) (fun w' _ => op_move _ (.bool false) rfl rfl) ?_
        simp only [Act.put, List.setIfInBounds_toArray, List.set_cons_succ, List.set_cons_zero]
        refine sq_val (by rfl) (fun w' _ => op_move _ (.int .i64 (n : Int)) rfl rfl) ?_
        simp only [Act.put, List.setIfInBounds_toArray, List.set_cons_succ, List.set_cons_zero]
        refine sq_val (by rfl) (fun w' _ => op_move _ (.slice (some ⟨b1, o1, none⟩) l.length c) rfl rfl) ?_
        simp only [Act.put, List.setIfInBounds_toArray, List.set_cons_succ, List.set_cons_zero]
        refine sq_val (by rfl) (fun w' _ => op_lenS _ 25 _ _ (l.length) _ rfl Try.underlying25 rfl) ?_
        simp only [Act.put, List.setIfInBounds_toArray, List.set_cons_succ, List.set_cons_zero]
        refine sq_val (by rfl) (fun w' _ => op_geq64 _ _ _ _ _ _ false rfl rfl rfl (decide_eq_false (by omega))) ?_
        simp only [Act.put, List.setIfInBounds_toArray, List.set_cons_succ, List.set_cons_zero]
        refine sq_val (by rfl) (fun w' _ => op_move _ (.bool false) rfl rfl) ?_
        simp only [Act.put, List.setIfInBounds_toArray, List.set_cons_succ, List.set_cons_zero]
        go_big_quiet_skip
        go_big_quiet_skip
        go_big_quiet_skip
        go_big_quiet_skip
        go_big_quiet_skip
        go_big_quiet_skip
        go_big_quiet_skip
        go_big_quiet_skip
        go_big_quiet_skip
        go_big_quiet_skip
        go_big_quiet_skip
        refine sq_val (by rfl) (fun w' _ => op_pick_f _ _ _ (.bool false) rfl rfl rfl) ?_
        simp only [Act.put, List.setIfInBounds_toArray, List.set_cons_succ, List.set_cons_zero]
        refine sq_val (by rfl) (fun w' _ => op_pick_f _ _ _ (.bool false) rfl rfl rfl) ?_
        simp only [Act.put, List.setIfInBounds_toArray, List.set_cons_succ, List.set_cons_zero]
        refine wpQuiet_nil ?_
        rintro _ ⟨x1, rfl⟩
        have hb2 := fresh_trans hb x1.2
        clear hb
        go_wp2
        go_roundw
        case rel => exact ⟨n + 1, by omega, by go_num, hb2⟩
        case measure => simp [RowKit.intOf]; omega
      · have hrO := read_count (k := n) hO (lent_get2 hin HM.out hlt)
        obtain ⟨d, hd⟩ : ∃ d : Int, d = (n : Int) - (l.length : Int) := ⟨_, rfl⟩
        have hd0 : 0 ≤ d := by omega
        have hd1 : d ≤ 12 := by have := HM.out; omega
        rw [← hd] at hrO
        have hcF : ∀ w', (∃ x : Fr wr, w' = x.1) → w'.rangeAt g (n * 33) (Enc.enc (markC 1 d)) := by
          rintro _ ⟨x, rfl⟩
          exact range_fresh hrO (fresh_trans hb x.2)
        have hsub : IntKind.i64.wrap ((n : Int) - (l.length : Int)) = d := by rw [← hd]; exact wrap_in (by omega) (by omega)
        have HD := Lib.hid hd
        clear hd
        clear hrO
        have HCF := Lib.hid hcF
        clear hcF
        have HSUB := Lib.hid hsub
        clear hsub
        go_wp2
        refine wp_region_fresh_lit (by kernel_rfl) (by kernel_rfl) ?_
        refine sq_val (by rfl) (fun w' _ => op_move _ (.int .i64 (n : Int)) rfl rfl) ?_
        simp only [Act.put, List.setIfInBounds_toArray, List.set_cons_succ, List.set_cons_zero]
        refine sq_val (by rfl) (fun w' _ => op_move _ (.slice A l.length c) rfl rfl) ?_
        simp only [Act.put, List.setIfInBounds_toArray, List.set_cons_succ, List.set_cons_zero]
        refine sq_val (by rfl) (fun w' _ => op_lenS _ 25 _ _ (l.length) _ rfl Try.underlying25 rfl) ?_
        simp only [Act.put, List.setIfInBounds_toArray, List.set_cons_succ, List.set_cons_zero]
        refine sq_val (by rfl) (fun w' _ => op_lss64 _ _ _ _ _ _ false rfl rfl rfl (decide_eq_false (by omega))) ?_
        simp only [Act.put, List.setIfInBounds_toArray, List.set_cons_succ, List.set_cons_zero]
        refine sq_val (by rfl) (fun w' _ => op_move _ (.bool false) rfl rfl) ?_
        simp only [Act.put, List.setIfInBounds_toArray, List.set_cons_succ, List.set_cons_zero]
        go_big_quiet_skip
        go_big_quiet_skip
        go_big_quiet_skip
        go_big_quiet_skip
        go_big_quiet_skip
        go_big_quiet_skip
        go_big_quiet_skip
        go_big_quiet_skip
        go_big_quiet_skip
        go_big_quiet_skip
        refine sq_val (by rfl) (fun w' _ => op_pick_f _ _ _ (.bool false) rfl rfl rfl) ?_
        simp only [Act.put, List.setIfInBounds_toArray, List.set_cons_succ, List.set_cons_zero]
        refine sq_val (by rfl) (fun w' _ => op_move _ (.bool false) rfl rfl) ?_
        simp only [Act.put, List.setIfInBounds_toArray, List.set_cons_succ, List.set_cons_zero]
        refine sq_val (by rfl) (fun w' _ => op_move _ (.int .i64 (n : Int)) rfl rfl) ?_
        simp only [Act.put, List.setIfInBounds_toArray, List.set_cons_succ, List.set_cons_zero]
        refine sq_val (by rfl) (fun w' _ => op_move _ (.slice A l.length c) rfl rfl) ?_
        simp only [Act.put, List.setIfInBounds_toArray, List.set_cons_succ, List.set_cons_zero]
        refine sq_val (by rfl) (fun w' _ => op_lenS _ 25 _ _ (l.length) _ rfl Try.underlying25 rfl) ?_
        simp only [Act.put, List.setIfInBounds_toArray, List.set_cons_succ, List.set_cons_zero]
        refine sq_val (by rfl) (fun w' _ => op_geq64 _ _ _ _ _ _ true rfl rfl rfl (decide_eq_true (by omega))) ?_
        simp only [Act.put, List.setIfInBounds_toArray, List.set_cons_succ, List.set_cons_zero]
        refine sq_val (by rfl) (fun w' _ => op_move _ (.bool true) rfl rfl) ?_
        simp only [Act.put, List.setIfInBounds_toArray, List.set_cons_succ, List.set_cons_zero]
        refine sq_val (by rfl) (fun w' _ => op_move _ (.slice (some ⟨g, 0, none⟩) m m) rfl rfl) ?_
        simp only [Act.put, List.setIfInBounds_toArray, List.set_cons_succ, List.set_cons_zero]
        refine sq_val (by rfl) (fun w' _ => op_move _ (.int .i64 (n : Int)) rfl rfl) ?_
        simp only [Act.put, List.setIfInBounds_toArray, List.set_cons_succ, List.set_cons_zero]
        refine sq_val (by rfl) (fun w' hw' => elem0_count rfl rfl rfl hlt) ?_
        simp only [Act.put, List.setIfInBounds_toArray, List.set_cons_succ, List.set_cons_zero]
        refine sq_val (by rfl) (fun w' hw' => load_count rfl rfl (markC 1 d) (HCF.out w' hw')) ?_
        simp only [Act.put, List.setIfInBounds_toArray, List.set_cons_succ, List.set_cons_zero]
        refine sq_val (by rfl) (fun w' _ => op_move _ (.int .i64 (n : Int)) rfl rfl) ?_
        simp only [Act.put, List.setIfInBounds_toArray, List.set_cons_succ, List.set_cons_zero]
        refine sq_val (by rfl) (fun w' _ => op_move _ (.slice A l.length c) rfl rfl) ?_
        simp only [Act.put, List.setIfInBounds_toArray, List.set_cons_succ, List.set_cons_zero]
        refine sq_val (by rfl) (fun w' _ => op_lenS _ 25 _ _ (l.length) _ rfl Try.underlying25 rfl) ?_
        simp only [Act.put, List.setIfInBounds_toArray, List.set_cons_succ, List.set_cons_zero]
        refine sq_val (by rfl) (fun w' hw' => op_sub64 _ _ _ _ (n : Int) (l.length : Int) d rfl rfl rfl HSUB.out) ?_
        simp only [Act.put, List.setIfInBounds_toArray, List.set_cons_succ, List.set_cons_zero]
        refine sq_call (by rfl) 44 [.const (.int .i64 1), .tmp 52] _ rfl [.int .i64 1, .int .i64 d] rfl enter_markcount (fr_call (fun w' hw' => markcount_ok 1 d _ (by omega) (by omega) (by omega) (by omega))) ?_
        simp only [Act.put, List.setIfInBounds_toArray, List.set_cons_succ, List.set_cons_zero]
        refine sq_val (by rfl) (fun w' hw' => eql_count_t rfl rfl rfl rfl) ?_
        simp only [Act.put, List.setIfInBounds_toArray, List.set_cons_succ, List.set_cons_zero]
        refine sq_val (by rfl) (fun w' _ => op_not _ _ true false rfl rfl rfl) ?_
        simp only [Act.put, List.setIfInBounds_toArray, List.set_cons_succ, List.set_cons_zero]
        refine sq_val (by rfl) (fun w' _ => op_pick_t _ _ _ (.bool false) rfl rfl rfl) ?_
        simp only [Act.put, List.setIfInBounds_toArray, List.set_cons_succ, List.set_cons_zero]
        refine sq_val (by rfl) (fun w' _ => op_pick_f _ _ _ (.bool false) rfl rfl rfl) ?_
        simp only [Act.put, List.setIfInBounds_toArray, List.set_cons_succ, List.set_cons_zero]
        refine wpQuiet_nil ?_
        rintro _ ⟨x1, rfl⟩
        have hb2 := fresh_trans hb x1.2
        clear hb
        go_wp2
        go_roundw
        case rel => exact ⟨n + 1, by omega, by go_num, hb2⟩
        case measure => simp [RowKit.intOf]; omega
    · go_wp2
      go_ret
      exact ⟨rfl, hb⟩
set_option maxRecDepth 100000 in
set_option maxHeartbeats 1000000 in
theorem keptItems_ok (g : Nat) (A : Option Addr) (c base : Nat) (l : List Item) (w : World) (hO : Lent markIt w base 42 g l) (hA : Reads w A l) (hlen : l.length ≤ 100000) : Calls Try.prog 16 #[.slice (some ⟨g, 0, none⟩) l.length (l.length + 12), .slice A l.length c] w fun e w' => e = .returned (.bool true) ∧ Below w.heap.size w w' := by
  obtain ⟨m, hm⟩ : ∃ m, m = l.length + 12 := ⟨_, rfl⟩
  have hm2 : Value.int .i64 ((l.length : Int) + 12) = Value.int .i64 (m : Int) := by rw [hm]; exact int_cast_add l.length 12
  have hmle : m ≤ 100012 := by omega
  have hl0 := int_bne_f (rfl : l.length = l.length)
  unfold Lent at hO
  rw [← hm] at hO ⊢
  have hlm : l.length ≤ m := by omega
  have HM := Lib.hid hm
  clear hm
  have HM2 := Lib.hid hm2
  clear hm2
  go_enter Try.func16, Try.ntmps16
  go_wp2_with (refine st_val rfl (op_slice_to 22 42 (.tmp 12) (.tmp 15) rfl Try.underlying22 (Enc.sz Item) sz_item rfl m HM2.out (Nat.le_refl m) (fun a ha => by injection ha with ha; subst ha; rfl)) ?_)
  go_loopw [6] (fun i wr => ∃ (n : Nat), n ≤ m ∧ i = .int .i64 n ∧ Below w.heap.size w wr) (fun i _ => m - (RowKit.intOf i).toNat)
  case atStart => exact ⟨0, by omega, rfl, fresh_refl w⟩
  case round =>
    obtain ⟨n, hn, rfl, hb⟩ := hrel
    by_cases hlt : n < m
    · by_cases hin : n < l.length
      · have hrO := read_item (k := n) hO (lent_get1 hin)
        obtain ⟨b1, o1, rfl, hr1⟩ := hA.at_n hin 73 rfl
        have hcF : ∀ w', (∃ x : Fr wr, w' = x.1) → w'.rangeAt g (n * 73) (Enc.enc (l[n]'hin)) := by
          rintro _ ⟨x, rfl⟩
          exact range_fresh hrO (fresh_trans hb x.2)
        have hlF : ∀ w', (∃ x : Fr wr, w' = x.1) → w'.rangeAt b1 (o1 + n * 73) (Enc.enc (l[n]'hin)) := by
          rintro _ ⟨x, rfl⟩
          exact range_fresh hr1 (fresh_trans hb x.2)
        clear hrO hr1
        have HCF := Lib.hid hcF
        clear hcF
        have HLF := Lib.hid hlF
        clear hlF
        go_wp2
        refine wp_region_fresh_lit (by kernel_rfl) (by kernel_rfl) ?_
        refine sq_val (by rfl) (fun w' _ => op_move _ (.int .i64 (n : Int)) rfl rfl) ?_
        simp only [Act.put, List.setIfInBounds_toArray, List.set_cons_succ, List.set_cons_zero]
        refine sq_val (by rfl) (fun w' _ => op_move _ (.slice (some ⟨b1, o1, none⟩) l.length c) rfl rfl) ?_
        simp only [Act.put, List.setIfInBounds_toArray, List.set_cons_succ, List.set_cons_zero]
        refine sq_val (by rfl) (fun w' _ => op_lenS _ 22 _ _ (l.length) _ rfl Try.underlying22 rfl) ?_
        simp only [Act.put, List.setIfInBounds_toArray, List.set_cons_succ, List.set_cons_zero]
        refine sq_val (by rfl) (fun w' _ => op_lss64 _ _ _ _ _ _ true rfl rfl rfl (decide_eq_true (by omega))) ?_
        simp only [Act.put, List.setIfInBounds_toArray, List.set_cons_succ, List.set_cons_zero]
        refine sq_val (by rfl) (fun w' _ => op_move _ (.bool true) rfl rfl) ?_
        simp only [Act.put, List.setIfInBounds_toArray, List.set_cons_succ, List.set_cons_zero]
        refine sq_val (by rfl) (fun w' _ => op_move _ (.slice (some ⟨g, 0, none⟩) m m) rfl rfl) ?_
        simp only [Act.put, List.setIfInBounds_toArray, List.set_cons_succ, List.set_cons_zero]
        refine sq_val (by rfl) (fun w' _ => op_move _ (.int .i64 (n : Int)) rfl rfl) ?_
        simp only [Act.put, List.setIfInBounds_toArray, List.set_cons_succ, List.set_cons_zero]
        refine sq_val (by rfl) (fun w' hw' => elem0_item rfl rfl rfl hlt) ?_
        simp only [Act.put, List.setIfInBounds_toArray, List.set_cons_succ, List.set_cons_zero]
        refine sq_val (by rfl) (fun w' hw' => load_item rfl rfl (l[n]'hin) (HCF.out w' hw')) ?_
        simp only [Act.put, List.setIfInBounds_toArray, List.set_cons_succ, List.set_cons_zero]
        refine sq_val (by rfl) (fun w' _ => op_move _ (.slice (some ⟨b1, o1, none⟩) l.length c) rfl rfl) ?_
        simp only [Act.put, List.setIfInBounds_toArray, List.set_cons_succ, List.set_cons_zero]
        refine sq_val (by rfl) (fun w' _ => op_move _ (.int .i64 (n : Int)) rfl rfl) ?_
        simp only [Act.put, List.setIfInBounds_toArray, List.set_cons_succ, List.set_cons_zero]
        refine sq_val (by rfl) (fun w' hw' => elem_item rfl rfl rfl hin) ?_
        simp only [Act.put, List.setIfInBounds_toArray, List.set_cons_succ, List.set_cons_zero]
        refine sq_val (by rfl) (fun w' hw' => load_item rfl rfl (l[n]'hin) (HLF.out w' hw')) ?_
        simp only [Act.put, List.setIfInBounds_toArray, List.set_cons_succ, List.set_cons_zero]
        refine sq_val (by rfl) (fun w' hw' => eql_item_t rfl rfl rfl rfl) ?_
        simp only [Act.put, List.setIfInBounds_toArray, List.set_cons_succ, List.set_cons_zero]
        refine sq_val (by rfl) (fun w' _ => op_not _ _ true false rfl rfl rfl) ?_
        simp only [Act.put, List.setIfInBounds_toArray, List.set_cons_succ, List.set_cons_zero]
        refine sq_val (by rfl) (fun w' _ => op_pick_t _ _ _ (.bool false) rfl rfl rfl) ?_
        simp only [Act.put, List.setIfInBounds_toArray, List.set_cons_succ, List.set_cons_zero]
        refine sq_val (by rfl) (fun w' _ => op_move _ (.bool false) rfl rfl) ?_
        simp only [Act.put, List.setIfInBounds_toArray, List.set_cons_succ, List.set_cons_zero]
        refine sq_val (by rfl) (fun w' _ => op_move _ (.int .i64 (n : Int)) rfl rfl) ?_
        simp only [Act.put, List.setIfInBounds_toArray, List.set_cons_succ, List.set_cons_zero]
        refine sq_val (by rfl) (fun w' _ => op_move _ (.slice (some ⟨b1, o1, none⟩) l.length c) rfl rfl) ?_
        simp only [Act.put, List.setIfInBounds_toArray, List.set_cons_succ, List.set_cons_zero]
        refine sq_val (by rfl) (fun w' _ => op_lenS _ 22 _ _ (l.length) _ rfl Try.underlying22 rfl) ?_
        simp only [Act.put, List.setIfInBounds_toArray, List.set_cons_succ, List.set_cons_zero]
        refine sq_val (by rfl) (fun w' _ => op_geq64 _ _ _ _ _ _ false rfl rfl rfl (decide_eq_false (by omega))) ?_
        simp only [Act.put, List.setIfInBounds_toArray, List.set_cons_succ, List.set_cons_zero]
        refine sq_val (by rfl) (fun w' _ => op_move _ (.bool false) rfl rfl) ?_
        simp only [Act.put, List.setIfInBounds_toArray, List.set_cons_succ, List.set_cons_zero]
        go_big_quiet_skip
        go_big_quiet_skip
        go_big_quiet_skip
        go_big_quiet_skip
        go_big_quiet_skip
        go_big_quiet_skip
        go_big_quiet_skip
        go_big_quiet_skip
        go_big_quiet_skip
        go_big_quiet_skip
        go_big_quiet_skip
        refine sq_val (by rfl) (fun w' _ => op_pick_f _ _ _ (.bool false) rfl rfl rfl) ?_
        simp only [Act.put, List.setIfInBounds_toArray, List.set_cons_succ, List.set_cons_zero]
        refine sq_val (by rfl) (fun w' _ => op_pick_f _ _ _ (.bool false) rfl rfl rfl) ?_
        simp only [Act.put, List.setIfInBounds_toArray, List.set_cons_succ, List.set_cons_zero]
        refine wpQuiet_nil ?_
        rintro _ ⟨x1, rfl⟩
        have hb2 := fresh_trans hb x1.2
        clear hb
        go_wp2
        go_roundw
        case rel => exact ⟨n + 1, by omega, by go_num, hb2⟩
        case measure => simp [RowKit.intOf]; omega
      · have hrO := read_item (k := n) hO (lent_get2 hin HM.out hlt)
        obtain ⟨d, hd⟩ : ∃ d : Int, d = (n : Int) - (l.length : Int) := ⟨_, rfl⟩
        have hd0 : 0 ≤ d := by omega
        have hd1 : d ≤ 12 := by have := HM.out; omega
        rw [← hd] at hrO
        have hcF : ∀ w', (∃ x : Fr wr, w' = x.1) → w'.rangeAt g (n * 73) (Enc.enc (markIt 1 d)) := by
          rintro _ ⟨x, rfl⟩
          exact range_fresh hrO (fresh_trans hb x.2)
        have hsub : IntKind.i64.wrap ((n : Int) - (l.length : Int)) = d := by rw [← hd]; exact wrap_in (by omega) (by omega)
        have HD := Lib.hid hd
        clear hd
        clear hrO
        have HCF := Lib.hid hcF
        clear hcF
        have HSUB := Lib.hid hsub
        clear hsub
        go_wp2
        refine wp_region_fresh_lit (by kernel_rfl) (by kernel_rfl) ?_
        refine sq_val (by rfl) (fun w' _ => op_move _ (.int .i64 (n : Int)) rfl rfl) ?_
        simp only [Act.put, List.setIfInBounds_toArray, List.set_cons_succ, List.set_cons_zero]
        refine sq_val (by rfl) (fun w' _ => op_move _ (.slice A l.length c) rfl rfl) ?_
        simp only [Act.put, List.setIfInBounds_toArray, List.set_cons_succ, List.set_cons_zero]
        refine sq_val (by rfl) (fun w' _ => op_lenS _ 22 _ _ (l.length) _ rfl Try.underlying22 rfl) ?_
        simp only [Act.put, List.setIfInBounds_toArray, List.set_cons_succ, List.set_cons_zero]
        refine sq_val (by rfl) (fun w' _ => op_lss64 _ _ _ _ _ _ false rfl rfl rfl (decide_eq_false (by omega))) ?_
        simp only [Act.put, List.setIfInBounds_toArray, List.set_cons_succ, List.set_cons_zero]
        refine sq_val (by rfl) (fun w' _ => op_move _ (.bool false) rfl rfl) ?_
        simp only [Act.put, List.setIfInBounds_toArray, List.set_cons_succ, List.set_cons_zero]
        go_big_quiet_skip
        go_big_quiet_skip
        go_big_quiet_skip
        go_big_quiet_skip
        go_big_quiet_skip
        go_big_quiet_skip
        go_big_quiet_skip
        go_big_quiet_skip
        go_big_quiet_skip
        go_big_quiet_skip
        refine sq_val (by rfl) (fun w' _ => op_pick_f _ _ _ (.bool false) rfl rfl rfl) ?_
        simp only [Act.put, List.setIfInBounds_toArray, List.set_cons_succ, List.set_cons_zero]
        refine sq_val (by rfl) (fun w' _ => op_move _ (.bool false) rfl rfl) ?_
        simp only [Act.put, List.setIfInBounds_toArray, List.set_cons_succ, List.set_cons_zero]
        refine sq_val (by rfl) (fun w' _ => op_move _ (.int .i64 (n : Int)) rfl rfl) ?_
        simp only [Act.put, List.setIfInBounds_toArray, List.set_cons_succ, List.set_cons_zero]
        refine sq_val (by rfl) (fun w' _ => op_move _ (.slice A l.length c) rfl rfl) ?_
        simp only [Act.put, List.setIfInBounds_toArray, List.set_cons_succ, List.set_cons_zero]
        refine sq_val (by rfl) (fun w' _ => op_lenS _ 22 _ _ (l.length) _ rfl Try.underlying22 rfl) ?_
        simp only [Act.put, List.setIfInBounds_toArray, List.set_cons_succ, List.set_cons_zero]
        refine sq_val (by rfl) (fun w' _ => op_geq64 _ _ _ _ _ _ true rfl rfl rfl (decide_eq_true (by omega))) ?_
        simp only [Act.put, List.setIfInBounds_toArray, List.set_cons_succ, List.set_cons_zero]
        refine sq_val (by rfl) (fun w' _ => op_move _ (.bool true) rfl rfl) ?_
        simp only [Act.put, List.setIfInBounds_toArray, List.set_cons_succ, List.set_cons_zero]
        refine sq_val (by rfl) (fun w' _ => op_move _ (.slice (some ⟨g, 0, none⟩) m m) rfl rfl) ?_
        simp only [Act.put, List.setIfInBounds_toArray, List.set_cons_succ, List.set_cons_zero]
        refine sq_val (by rfl) (fun w' _ => op_move _ (.int .i64 (n : Int)) rfl rfl) ?_
        simp only [Act.put, List.setIfInBounds_toArray, List.set_cons_succ, List.set_cons_zero]
        refine sq_val (by rfl) (fun w' hw' => elem0_item rfl rfl rfl hlt) ?_
        simp only [Act.put, List.setIfInBounds_toArray, List.set_cons_succ, List.set_cons_zero]
        refine sq_val (by rfl) (fun w' hw' => load_item rfl rfl (markIt 1 d) (HCF.out w' hw')) ?_
        simp only [Act.put, List.setIfInBounds_toArray, List.set_cons_succ, List.set_cons_zero]
        refine sq_val (by rfl) (fun w' _ => op_move _ (.int .i64 (n : Int)) rfl rfl) ?_
        simp only [Act.put, List.setIfInBounds_toArray, List.set_cons_succ, List.set_cons_zero]
        refine sq_val (by rfl) (fun w' _ => op_move _ (.slice A l.length c) rfl rfl) ?_
        simp only [Act.put, List.setIfInBounds_toArray, List.set_cons_succ, List.set_cons_zero]
        refine sq_val (by rfl) (fun w' _ => op_lenS _ 22 _ _ (l.length) _ rfl Try.underlying22 rfl) ?_
        simp only [Act.put, List.setIfInBounds_toArray, List.set_cons_succ, List.set_cons_zero]
        refine sq_val (by rfl) (fun w' hw' => op_sub64 _ _ _ _ (n : Int) (l.length : Int) d rfl rfl rfl HSUB.out) ?_
        simp only [Act.put, List.setIfInBounds_toArray, List.set_cons_succ, List.set_cons_zero]
        refine sq_call (by rfl) 39 [.const (.int .i64 1), .tmp 52] _ rfl [.int .i64 1, .int .i64 d] rfl enter_markitem (fr_call (fun w' hw' => markitem_ok 1 d _ (by omega) (by omega) (by omega) (by omega))) ?_
        simp only [Act.put, List.setIfInBounds_toArray, List.set_cons_succ, List.set_cons_zero]
        refine sq_val (by rfl) (fun w' hw' => eql_item_t rfl rfl rfl rfl) ?_
        simp only [Act.put, List.setIfInBounds_toArray, List.set_cons_succ, List.set_cons_zero]
        refine sq_val (by rfl) (fun w' _ => op_not _ _ true false rfl rfl rfl) ?_
        simp only [Act.put, List.setIfInBounds_toArray, List.set_cons_succ, List.set_cons_zero]
        refine sq_val (by rfl) (fun w' _ => op_pick_t _ _ _ (.bool false) rfl rfl rfl) ?_
        simp only [Act.put, List.setIfInBounds_toArray, List.set_cons_succ, List.set_cons_zero]
        refine sq_val (by rfl) (fun w' _ => op_pick_f _ _ _ (.bool false) rfl rfl rfl) ?_
        simp only [Act.put, List.setIfInBounds_toArray, List.set_cons_succ, List.set_cons_zero]
        refine wpQuiet_nil ?_
        rintro _ ⟨x1, rfl⟩
        have hb2 := fresh_trans hb x1.2
        clear hb
        go_wp2
        go_roundw
        case rel => exact ⟨n + 1, by omega, by go_num, hb2⟩
        case measure => simp [RowKit.intOf]; omega
    · go_wp2
      go_ret
      exact ⟨rfl, hb⟩
end Go.Pb
