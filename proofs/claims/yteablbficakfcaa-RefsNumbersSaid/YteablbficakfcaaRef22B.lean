/- The document's answer for the index: where a key stands in the row. -/
import Derived.Test.YteablbficakfcaaRef22
import Derived.Test.YteablbficakfcaaIndexC
import Derived.Test.YteablbficakfcaaItemCmp
set_option linter.unusedVariables false
set_option linter.unusedSimpArgs false
set_option linter.unusedSectionVars false
namespace Go.Pb
open Go.RowKit Go.Proofs Go.BigFrame

/-- Block g is the document's index of the row L. -/
def ListAt (w : World) (g : Nat) (L : List Item) : Prop := ∃ A c, w.heap[g]? = some (.cells #[.slice A L.length c] 65) ∧ Reads w A L ∧ (∀ a, A = some a → g < a.block ∧ a.spot = none) ∧ L.length ≤ c
theorem ListAt.fresh {w w' : World} {g : Nat} {L : List Item} (h : ListAt w g L) (hb : Below w.heap.size w w') : ListAt w' g L := by
  obtain ⟨A, c, h1, h2, h3⟩ := h
  exact ⟨A, c, by rw [hb.block g (Array.getElem?_eq_some_iff.1 h1).1]; exact h1, h2.fresh hb, h3⟩
theorem ListAt.grown {w w' : World} {g b : Nat} {L : List Item} (h : ListAt w g L) (hg : w.grownBy w' (some b)) (hb : b < g) : ListAt w' g L := by
  obtain ⟨A, c, h1, h2, h3, h4⟩ := h
  exact ⟨A, c, by rw [hg.block g (Array.getElem?_eq_some_iff.1 h1).1 (by simp; omega)]; exact h1, h2.grown hg (fun a ha => by have := (h3 a ha).1; simp; omega), h3, h4⟩
def placeOf (L : List Item) (k : Key) : Nat := (L.takeWhile (fun i => klt i.key k)).length
def isAt (L : List Item) (k : Key) : Bool := match L[placeOf L k]? with | some i => decide (i.key = k) | none => false
theorem takeWhile_at {α : Type} (p : α → Bool) : ∀ (l : List α) (n : Nat), n ≤ l.length → (∀ j (h : j < l.length), j < n → p l[j] = true) → (∀ h : n < l.length, p l[n] = false) → (l.takeWhile p).length = n
  | [], n, hn, _, _ => by simp at hn; subst hn; rfl
  | a :: l, 0, _, _, hf => by
    have := hf (by simp)
    simp only [List.getElem_cons_zero] at this
    rw [List.takeWhile_cons_of_neg (by simp [this])]
    rfl
  | a :: l, n + 1, hn, hp, hf => by
    have h0 := hp 0 (by simp) (by omega)
    simp only [List.getElem_cons_zero] at h0
    rw [List.takeWhile_cons_of_pos h0, List.length_cons, takeWhile_at p l n (by simpa using hn) (fun j h hj => hp (j + 1) (by simpa using h) (by omega)) (fun h => hf (by simpa using h))]
theorem sitems : (Try.prog.info? 22).map (·.size) = some 1 := by kernel_rfl
theorem enter_below (args : Array Value) (w : World) : (callFunc 85 args).run Try.prog w = .ok (.enter 85 args) w := run_enter Try.func85 (by kernel_rfl) rfl args w
theorem place22_ok (g : Nat) (L : List Item) (k : Key) (w : World) (h : ListAt w g L) (hL : L.length ≤ 1000000000) : Calls Try.prog 51 #[.pointer (some ⟨g, 0, none⟩), agg k] w fun e w' =>
    e = .returned (.tuple #[.int .i64 (placeOf L k : Int), .bool (isAt L k)]) ∧ Below w.heap.size w w' := by
  generalize hW : w.alloc (.cells (Enc.enc k).toArray 35) = W
  have hb : Below w.heap.size w W := by subst hW; exact fresh_alloc (fresh_refl w) _
  have hk : W.rangeAt w.heap.size 0 (Enc.enc k) := by subst hW; exact range_block (heap_alloc_new w _)
  obtain ⟨A, c, hg, hR, hne⟩ := h.fresh hb
  have hc : W.cell? ⟨g, 0, none⟩ = some (.slice A L.length c) := range_block hg 0 _ rfl
  have HW := Lib.hid hW
  clear hW
  go_enter Try.func51, Try.ntmps51
  go_wp2_with (refine st_val rfl (run_box 35 _ k rfl rfl) ?_; rw [HW.out])
  go_loopw [6] (fun i wr => ∃ n : Nat, n ≤ L.length ∧ i = .int .i64 n ∧ (∀ j (h : j < L.length), j < n → klt L[j].key k = true) ∧ Below W.heap.size W wr) (fun i _ => L.length - (intOf i).toNat)
  case atStart => exact ⟨0, by omega, rfl, fun j h hj => absurd hj (by omega), fresh_refl W⟩
  case round =>
    obtain ⟨n, hn, rfl, hall, hbr⟩ := hrel
    have HALL := Lib.hid hall
    clear hall
    have hcF : ∀ w', (∃ x : Fr wr, w' = x.1) → w'.cell? ⟨g, 0, none⟩ = some (.slice A L.length c) := by
      rintro _ ⟨x, rfl⟩
      exact ((fresh_trans hbr x.2).cell (p := ⟨g, 0, none⟩) (World.block_lt_of_cell? W _ hc)).trans hc
    have hkF : ∀ w', (∃ x : Fr wr, w' = x.1) → w'.rangeAt w.heap.size 0 (Enc.enc k) := by
      rintro _ ⟨x, rfl⟩
      exact range_fresh hk (fresh_trans hbr x.2)
    by_cases hlt : n < L.length
    · have hd : decide ((n : Int) < (L.length : Int)) = true := by simp; omega
      obtain ⟨b1, o1, HA1, hr1⟩ := hR.at_n hlt 73 rfl
      subst HA1
      have hiF : ∀ w', (∃ x : Fr wr, w' = x.1) → w'.rangeAt b1 (o1 + n * 73 + 1) (Enc.enc (L[n]'hlt).key) := by
        rintro _ ⟨x, rfl⟩
        exact item_keyAt (range_fresh hr1 (fresh_trans hbr x.2))
      refine wp_seq ?_
      refine wp_seq ?_
      refine wp_region_fresh_lit (by kernel_rfl) (by kernel_rfl) ?_
      first | go_big_quiet_step (fail) | (refine sq_val (v := ?_) (by rfl) ?_ ?_; rotate_left; (focus (rintro w' ⟨x, rfl⟩; go_simp; try with_reducible rfl)); simp only [Act.put, List.setIfInBounds_toArray, List.set_cons_succ, List.set_cons_zero])
      first | go_big_quiet_step (fail) | (refine sq_val (v := ?_) (by rfl) ?_ ?_; rotate_left; (focus (rintro w' ⟨x, rfl⟩; go_simp; try with_reducible rfl)); simp only [Act.put, List.setIfInBounds_toArray, List.set_cons_succ, List.set_cons_zero])
      first | go_big_quiet_step (fail) | (refine sq_val (v := ?_) (by rfl) ?_ ?_; rotate_left; (focus (rintro w' ⟨x, rfl⟩; go_simp; try with_reducible rfl)); simp only [Act.put, List.setIfInBounds_toArray, List.set_cons_succ, List.set_cons_zero])
      refine sq_val (by rfl) (fun w' hw' => run_faddr 65 _ 0 rfl rfl _ Try.underlying65 0 _ rfl rfl 0 sitems) ?_
      simp only [Act.put, List.setIfInBounds_toArray, List.set_cons_succ, List.set_cons_zero]
      refine sq_val (by rfl) (fun w' hw' => run_load1 22 _ rfl rfl (hcF w' hw') _ Try.underlying22 rfl) ?_
      simp only [Act.put, List.setIfInBounds_toArray, List.set_cons_succ, List.set_cons_zero]
      first | go_big_quiet_step (fail) | (refine sq_val (v := ?_) (by rfl) ?_ ?_; rotate_left; (focus (rintro w' ⟨x, rfl⟩; go_simp; try with_reducible rfl)); simp only [Act.put, List.setIfInBounds_toArray, List.set_cons_succ, List.set_cons_zero])
      first | go_big_quiet_step (fail) | (refine sq_val (v := ?_) (by rfl) ?_ ?_; rotate_left; (focus (rintro w' ⟨x, rfl⟩; go_simp; try with_reducible rfl)); simp only [Act.put, List.setIfInBounds_toArray, List.set_cons_succ, List.set_cons_zero])
      first | go_big_quiet_step (fail) | (refine sq_val (v := ?_) (by rfl) ?_ ?_; rotate_left; (focus (rintro w' ⟨x, rfl⟩; go_simp; try with_reducible rfl)); simp only [Act.put, List.setIfInBounds_toArray, List.set_cons_succ, List.set_cons_zero])
      first | go_big_quiet_step (fail) | (refine sq_val (v := ?_) (by rfl) ?_ ?_; rotate_left; (focus (rintro w' ⟨x, rfl⟩; go_simp; try with_reducible rfl)); simp only [Act.put, List.setIfInBounds_toArray, List.set_cons_succ, List.set_cons_zero])
      first | go_big_quiet_step (fail) | (refine sq_val (v := ?_) (by rfl) ?_ ?_; rotate_left; (focus (rintro w' ⟨x, rfl⟩; go_simp; try with_reducible rfl)); simp only [Act.put, List.setIfInBounds_toArray, List.set_cons_succ, List.set_cons_zero])
      refine sq_val (by rfl) (fun w' hw' => run_faddr 65 _ 0 rfl rfl _ Try.underlying65 0 _ rfl rfl 0 sitems) ?_
      simp only [Act.put, List.setIfInBounds_toArray, List.set_cons_succ, List.set_cons_zero]
      refine sq_val (by rfl) (fun w' hw' => run_load1 22 _ rfl rfl (hcF w' hw') _ Try.underlying22 rfl) ?_
      simp only [Act.put, List.setIfInBounds_toArray, List.set_cons_succ, List.set_cons_zero]
      first | go_big_quiet_step (fail) | (refine sq_val (v := ?_) (by rfl) ?_ ?_; rotate_left; (focus (rintro w' ⟨x, rfl⟩; go_simp; try with_reducible rfl)); simp only [Act.put, List.setIfInBounds_toArray, List.set_cons_succ, List.set_cons_zero])
      refine sq_val (by rfl) (fun w' hw' => elem_item rfl rfl rfl hlt) ?_
      simp only [Act.put, List.setIfInBounds_toArray, List.set_cons_succ, List.set_cons_zero]
      refine sq_val (by rfl) (fun w' hw' => run_faddr 42 _ 1 rfl rfl _ Try.underlying42 1 _ rfl rfl 31 s35) ?_
      simp only [Act.put, List.setIfInBounds_toArray, List.set_cons_succ, List.set_cons_zero]
      refine sq_val (by rfl) (fun w' hw' => load_key rfl rfl (L[n]'hlt).key (hiF w' hw')) ?_
      simp only [Act.put, List.setIfInBounds_toArray, List.set_cons_succ, List.set_cons_zero]
      refine sq_val (by rfl) (fun w' hw' => load_key rfl rfl k (hkF w' hw')) ?_
      simp only [Act.put, List.setIfInBounds_toArray, List.set_cons_succ, List.set_cons_zero]
      refine sq_call (by rfl) 85 [.tmp 22, .tmp 23] _ rfl [agg (L[n]'hlt).key, agg k] rfl enter_below (fr_call (fun w' hw' => below22_ok _ k _)) ?_
      simp only [Act.put, List.setIfInBounds_toArray, List.set_cons_succ, List.set_cons_zero]
      cases hkl : klt (L[n]'hlt).key k with
      | true =>
        first | go_big_quiet_step (fail) | (refine sq_val (v := ?_) (by rfl) ?_ ?_; rotate_left; (focus (rintro w' ⟨x, rfl⟩; go_simp; try with_reducible rfl)); simp only [Act.put, List.setIfInBounds_toArray, List.set_cons_succ, List.set_cons_zero])
        refine wpQuiet_nil ?_
        rintro _ ⟨x1, rfl⟩
        have hb2 := fresh_trans hbr x1.2
        have HKL := Lib.hid hkl
        clear hkl
        go_wp2
        go_roundw
        case rel =>
          refine ⟨n + 1, by omega, by go_num, fun j h hj => ?_, hb2⟩
          by_cases hjn : j < n
          · exact HALL.out j h hjn
          · obtain rfl : j = n := by omega
            exact HKL.out
        case measure => simp [intOf]; omega
      | false =>
        first | go_big_quiet_step (fail) | (refine sq_val (v := ?_) (by rfl) ?_ ?_; rotate_left; (focus (rintro w' ⟨x, rfl⟩; go_simp; try with_reducible rfl)); simp only [Act.put, List.setIfInBounds_toArray, List.set_cons_succ, List.set_cons_zero])
        refine wpQuiet_nil ?_
        rintro _ ⟨x1, rfl⟩
        have hb2 := fresh_trans hbr x1.2
        have HKL := Lib.hid hkl
        clear hkl
        go_wp2
        have hc2 := ((hb2.cell (p := ⟨g, 0, none⟩) (World.block_lt_of_cell? W _ hc)).trans hc)
        have hi2 := hiF x1.1 ⟨x1, rfl⟩
        have hk2 := hkF x1.1 ⟨x1, rfl⟩
        have hat : placeOf L k = n := takeWhile_at _ L n hn (fun j h hj => HALL.out j h hj) (fun h => HKL.out)
        have HAT := Lib.hid hat
        clear hat
        by_cases hke : (L[n]'hlt).key = k
        · skip
          have his : isAt L k = true := by unfold isAt; rw [HAT.out, List.getElem?_eq_getElem hlt]; simp [hke]
          have HIS := Lib.hid his
          clear his
          refine wp_region_quiet_lit (by kernel_rfl) (by kernel_rfl) ?_
          first | go_big_quiet_step (fail) | (refine sq_val (v := ?_) (by rfl) ?_ ?_; rotate_left; (focus (rintro w' ⟨x, rfl⟩; go_simp; try with_reducible rfl)); simp only [Act.put, List.setIfInBounds_toArray, List.set_cons_succ, List.set_cons_zero])
          first | go_big_quiet_step (fail) | (refine sq_val (v := ?_) (by rfl) ?_ ?_; rotate_left; (focus (rintro w' ⟨x, rfl⟩; go_simp; try with_reducible rfl)); simp only [Act.put, List.setIfInBounds_toArray, List.set_cons_succ, List.set_cons_zero])
          first | go_big_quiet_step (fail) | (refine sq_val (v := ?_) (by rfl) ?_ ?_; rotate_left; (focus (rintro w' ⟨x, rfl⟩; go_simp; try with_reducible rfl)); simp only [Act.put, List.setIfInBounds_toArray, List.set_cons_succ, List.set_cons_zero])
          first | go_big_quiet_step (fail) | (refine sq_val (v := ?_) (by rfl) ?_ ?_; rotate_left; (focus (rintro w' ⟨x, rfl⟩; go_simp; try with_reducible rfl)); simp only [Act.put, List.setIfInBounds_toArray, List.set_cons_succ, List.set_cons_zero])
          refine sq_val (by rfl) (fun w' hw' => run_faddr 65 _ 0 rfl rfl _ Try.underlying65 0 _ rfl rfl 0 sitems) ?_
          simp only [Act.put, List.setIfInBounds_toArray, List.set_cons_succ, List.set_cons_zero]
          refine sq_val (by rfl) (fun w' hw' => run_load1 22 _ rfl rfl (by obtain ⟨m, rfl⟩ := hw'; exact hc2) _ Try.underlying22 rfl) ?_
          simp only [Act.put, List.setIfInBounds_toArray, List.set_cons_succ, List.set_cons_zero]
          first | go_big_quiet_step (fail) | (refine sq_val (v := ?_) (by rfl) ?_ ?_; rotate_left; (focus (rintro w' ⟨x, rfl⟩; go_simp; try with_reducible rfl)); simp only [Act.put, List.setIfInBounds_toArray, List.set_cons_succ, List.set_cons_zero])
          first | go_big_quiet_step (fail) | (refine sq_val (v := ?_) (by rfl) ?_ ?_; rotate_left; (focus (rintro w' ⟨x, rfl⟩; go_simp; try with_reducible rfl)); simp only [Act.put, List.setIfInBounds_toArray, List.set_cons_succ, List.set_cons_zero])
          first | go_big_quiet_step (fail) | (refine sq_val (v := ?_) (by rfl) ?_ ?_; rotate_left; (focus (rintro w' ⟨x, rfl⟩; go_simp; try with_reducible rfl)); simp only [Act.put, List.setIfInBounds_toArray, List.set_cons_succ, List.set_cons_zero])
          first | go_big_quiet_step (fail) | (refine sq_val (v := ?_) (by rfl) ?_ ?_; rotate_left; (focus (rintro w' ⟨x, rfl⟩; go_simp; try with_reducible rfl)); simp only [Act.put, List.setIfInBounds_toArray, List.set_cons_succ, List.set_cons_zero])
          first | go_big_quiet_step (fail) | (refine sq_val (v := ?_) (by rfl) ?_ ?_; rotate_left; (focus (rintro w' ⟨x, rfl⟩; go_simp; try with_reducible rfl)); simp only [Act.put, List.setIfInBounds_toArray, List.set_cons_succ, List.set_cons_zero])
          refine sq_val (by rfl) (fun w' hw' => run_faddr 65 _ 0 rfl rfl _ Try.underlying65 0 _ rfl rfl 0 sitems) ?_
          simp only [Act.put, List.setIfInBounds_toArray, List.set_cons_succ, List.set_cons_zero]
          refine sq_val (by rfl) (fun w' hw' => run_load1 22 _ rfl rfl (by obtain ⟨m, rfl⟩ := hw'; exact hc2) _ Try.underlying22 rfl) ?_
          simp only [Act.put, List.setIfInBounds_toArray, List.set_cons_succ, List.set_cons_zero]
          first | go_big_quiet_step (fail) | (refine sq_val (v := ?_) (by rfl) ?_ ?_; rotate_left; (focus (rintro w' ⟨x, rfl⟩; go_simp; try with_reducible rfl)); simp only [Act.put, List.setIfInBounds_toArray, List.set_cons_succ, List.set_cons_zero])
          refine sq_val (by rfl) (fun w' hw' => elem_item rfl rfl rfl hlt) ?_
          simp only [Act.put, List.setIfInBounds_toArray, List.set_cons_succ, List.set_cons_zero]
          refine sq_val (by rfl) (fun w' hw' => run_faddr 42 _ 1 rfl rfl _ Try.underlying42 1 _ rfl rfl 31 s35) ?_
          simp only [Act.put, List.setIfInBounds_toArray, List.set_cons_succ, List.set_cons_zero]
          refine sq_val (by rfl) (fun w' hw' => load_key rfl rfl (L[n]'hlt).key (by obtain ⟨m, rfl⟩ := hw'; exact hi2)) ?_
          simp only [Act.put, List.setIfInBounds_toArray, List.set_cons_succ, List.set_cons_zero]
          refine sq_val (by rfl) (fun w' hw' => load_key rfl rfl k (by obtain ⟨m, rfl⟩ := hw'; exact hk2)) ?_
          simp only [Act.put, List.setIfInBounds_toArray, List.set_cons_succ, List.set_cons_zero]
          refine sq_val (by rfl) (fun w' hw' => eql_key_t rfl rfl rfl hke) ?_
          simp only [Act.put, List.setIfInBounds_toArray, List.set_cons_succ, List.set_cons_zero]
          first | go_big_quiet_step (fail) | (refine sq_val (v := ?_) (by rfl) ?_ ?_; rotate_left; (focus (rintro w' ⟨x, rfl⟩; go_simp; try with_reducible rfl)); simp only [Act.put, List.setIfInBounds_toArray, List.set_cons_succ, List.set_cons_zero])
          first | go_big_quiet_step (fail) | (refine sq_val (v := ?_) (by rfl) ?_ ?_; rotate_left; (focus (rintro w' ⟨x, rfl⟩; go_simp; try with_reducible rfl)); simp only [Act.put, List.setIfInBounds_toArray, List.set_cons_succ, List.set_cons_zero])
          first | go_big_quiet_step (fail) | (refine sq_val (v := ?_) (by rfl) ?_ ?_; rotate_left; (focus (rintro w' ⟨x, rfl⟩; go_simp; try with_reducible rfl)); simp only [Act.put, List.setIfInBounds_toArray, List.set_cons_succ, List.set_cons_zero])
          refine wpQuiet_nil ?_
          intro _ hw'
          obtain ⟨nq, hw''⟩ := hw'
          subst hw''
          go_wp2
          go_ret2
          exact ⟨by rw [HAT.out, HIS.out]; rfl, fresh_trans hb (fresh_drewN hb2 _)⟩
        · skip
          have his : isAt L k = false := by unfold isAt; rw [HAT.out, List.getElem?_eq_getElem hlt]; simp [hke]
          have HIS := Lib.hid his
          clear his
          refine wp_region_quiet_lit (by kernel_rfl) (by kernel_rfl) ?_
          first | go_big_quiet_step (fail) | (refine sq_val (v := ?_) (by rfl) ?_ ?_; rotate_left; (focus (rintro w' ⟨x, rfl⟩; go_simp; try with_reducible rfl)); simp only [Act.put, List.setIfInBounds_toArray, List.set_cons_succ, List.set_cons_zero])
          first | go_big_quiet_step (fail) | (refine sq_val (v := ?_) (by rfl) ?_ ?_; rotate_left; (focus (rintro w' ⟨x, rfl⟩; go_simp; try with_reducible rfl)); simp only [Act.put, List.setIfInBounds_toArray, List.set_cons_succ, List.set_cons_zero])
          first | go_big_quiet_step (fail) | (refine sq_val (v := ?_) (by rfl) ?_ ?_; rotate_left; (focus (rintro w' ⟨x, rfl⟩; go_simp; try with_reducible rfl)); simp only [Act.put, List.setIfInBounds_toArray, List.set_cons_succ, List.set_cons_zero])
          first | go_big_quiet_step (fail) | (refine sq_val (v := ?_) (by rfl) ?_ ?_; rotate_left; (focus (rintro w' ⟨x, rfl⟩; go_simp; try with_reducible rfl)); simp only [Act.put, List.setIfInBounds_toArray, List.set_cons_succ, List.set_cons_zero])
          refine sq_val (by rfl) (fun w' hw' => run_faddr 65 _ 0 rfl rfl _ Try.underlying65 0 _ rfl rfl 0 sitems) ?_
          simp only [Act.put, List.setIfInBounds_toArray, List.set_cons_succ, List.set_cons_zero]
          refine sq_val (by rfl) (fun w' hw' => run_load1 22 _ rfl rfl (by obtain ⟨m, rfl⟩ := hw'; exact hc2) _ Try.underlying22 rfl) ?_
          simp only [Act.put, List.setIfInBounds_toArray, List.set_cons_succ, List.set_cons_zero]
          first | go_big_quiet_step (fail) | (refine sq_val (v := ?_) (by rfl) ?_ ?_; rotate_left; (focus (rintro w' ⟨x, rfl⟩; go_simp; try with_reducible rfl)); simp only [Act.put, List.setIfInBounds_toArray, List.set_cons_succ, List.set_cons_zero])
          first | go_big_quiet_step (fail) | (refine sq_val (v := ?_) (by rfl) ?_ ?_; rotate_left; (focus (rintro w' ⟨x, rfl⟩; go_simp; try with_reducible rfl)); simp only [Act.put, List.setIfInBounds_toArray, List.set_cons_succ, List.set_cons_zero])
          first | go_big_quiet_step (fail) | (refine sq_val (v := ?_) (by rfl) ?_ ?_; rotate_left; (focus (rintro w' ⟨x, rfl⟩; go_simp; try with_reducible rfl)); simp only [Act.put, List.setIfInBounds_toArray, List.set_cons_succ, List.set_cons_zero])
          first | go_big_quiet_step (fail) | (refine sq_val (v := ?_) (by rfl) ?_ ?_; rotate_left; (focus (rintro w' ⟨x, rfl⟩; go_simp; try with_reducible rfl)); simp only [Act.put, List.setIfInBounds_toArray, List.set_cons_succ, List.set_cons_zero])
          first | go_big_quiet_step (fail) | (refine sq_val (v := ?_) (by rfl) ?_ ?_; rotate_left; (focus (rintro w' ⟨x, rfl⟩; go_simp; try with_reducible rfl)); simp only [Act.put, List.setIfInBounds_toArray, List.set_cons_succ, List.set_cons_zero])
          refine sq_val (by rfl) (fun w' hw' => run_faddr 65 _ 0 rfl rfl _ Try.underlying65 0 _ rfl rfl 0 sitems) ?_
          simp only [Act.put, List.setIfInBounds_toArray, List.set_cons_succ, List.set_cons_zero]
          refine sq_val (by rfl) (fun w' hw' => run_load1 22 _ rfl rfl (by obtain ⟨m, rfl⟩ := hw'; exact hc2) _ Try.underlying22 rfl) ?_
          simp only [Act.put, List.setIfInBounds_toArray, List.set_cons_succ, List.set_cons_zero]
          first | go_big_quiet_step (fail) | (refine sq_val (v := ?_) (by rfl) ?_ ?_; rotate_left; (focus (rintro w' ⟨x, rfl⟩; go_simp; try with_reducible rfl)); simp only [Act.put, List.setIfInBounds_toArray, List.set_cons_succ, List.set_cons_zero])
          refine sq_val (by rfl) (fun w' hw' => elem_item rfl rfl rfl hlt) ?_
          simp only [Act.put, List.setIfInBounds_toArray, List.set_cons_succ, List.set_cons_zero]
          refine sq_val (by rfl) (fun w' hw' => run_faddr 42 _ 1 rfl rfl _ Try.underlying42 1 _ rfl rfl 31 s35) ?_
          simp only [Act.put, List.setIfInBounds_toArray, List.set_cons_succ, List.set_cons_zero]
          refine sq_val (by rfl) (fun w' hw' => load_key rfl rfl (L[n]'hlt).key (by obtain ⟨m, rfl⟩ := hw'; exact hi2)) ?_
          simp only [Act.put, List.setIfInBounds_toArray, List.set_cons_succ, List.set_cons_zero]
          refine sq_val (by rfl) (fun w' hw' => load_key rfl rfl k (by obtain ⟨m, rfl⟩ := hw'; exact hk2)) ?_
          simp only [Act.put, List.setIfInBounds_toArray, List.set_cons_succ, List.set_cons_zero]
          refine sq_val (by rfl) (fun w' hw' => eql_key_f rfl rfl rfl hke) ?_
          simp only [Act.put, List.setIfInBounds_toArray, List.set_cons_succ, List.set_cons_zero]
          first | go_big_quiet_step (fail) | (refine sq_val (v := ?_) (by rfl) ?_ ?_; rotate_left; (focus (rintro w' ⟨x, rfl⟩; go_simp; try with_reducible rfl)); simp only [Act.put, List.setIfInBounds_toArray, List.set_cons_succ, List.set_cons_zero])
          first | go_big_quiet_step (fail) | (refine sq_val (v := ?_) (by rfl) ?_ ?_; rotate_left; (focus (rintro w' ⟨x, rfl⟩; go_simp; try with_reducible rfl)); simp only [Act.put, List.setIfInBounds_toArray, List.set_cons_succ, List.set_cons_zero])
          first | go_big_quiet_step (fail) | (refine sq_val (v := ?_) (by rfl) ?_ ?_; rotate_left; (focus (rintro w' ⟨x, rfl⟩; go_simp; try with_reducible rfl)); simp only [Act.put, List.setIfInBounds_toArray, List.set_cons_succ, List.set_cons_zero])
          refine wpQuiet_nil ?_
          intro _ hw'
          obtain ⟨nq, hw''⟩ := hw'
          subst hw''
          go_wp2
          go_ret2
          exact ⟨by rw [HAT.out, HIS.out]; rfl, fresh_trans hb (fresh_drewN hb2 _)⟩
    · refine wp_seq ?_
      refine wp_seq ?_
      have hd : decide ((n : Int) < (L.length : Int)) = false := by simp; omega
      refine wp_region_fresh_lit (by kernel_rfl) (by kernel_rfl) ?_
      first | go_big_quiet_step (fail) | (refine sq_val (v := ?_) (by rfl) ?_ ?_; rotate_left; (focus (rintro w' ⟨x, rfl⟩; go_simp; try with_reducible rfl)); simp only [Act.put, List.setIfInBounds_toArray, List.set_cons_succ, List.set_cons_zero])
      first | go_big_quiet_step (fail) | (refine sq_val (v := ?_) (by rfl) ?_ ?_; rotate_left; (focus (rintro w' ⟨x, rfl⟩; go_simp; try with_reducible rfl)); simp only [Act.put, List.setIfInBounds_toArray, List.set_cons_succ, List.set_cons_zero])
      first | go_big_quiet_step (fail) | (refine sq_val (v := ?_) (by rfl) ?_ ?_; rotate_left; (focus (rintro w' ⟨x, rfl⟩; go_simp; try with_reducible rfl)); simp only [Act.put, List.setIfInBounds_toArray, List.set_cons_succ, List.set_cons_zero])
      refine sq_val (by rfl) (fun w' hw' => run_faddr 65 _ 0 rfl rfl _ Try.underlying65 0 _ rfl rfl 0 sitems) ?_
      simp only [Act.put, List.setIfInBounds_toArray, List.set_cons_succ, List.set_cons_zero]
      refine sq_val (by rfl) (fun w' hw' => run_load1 22 _ rfl rfl (hcF w' hw') _ Try.underlying22 rfl) ?_
      simp only [Act.put, List.setIfInBounds_toArray, List.set_cons_succ, List.set_cons_zero]
      first | go_big_quiet_step (fail) | (refine sq_val (v := ?_) (by rfl) ?_ ?_; rotate_left; (focus (rintro w' ⟨x, rfl⟩; go_simp; try with_reducible rfl)); simp only [Act.put, List.setIfInBounds_toArray, List.set_cons_succ, List.set_cons_zero])
      first | go_big_quiet_step (fail) | (refine sq_val (v := ?_) (by rfl) ?_ ?_; rotate_left; (focus (rintro w' ⟨x, rfl⟩; go_simp; try with_reducible rfl)); simp only [Act.put, List.setIfInBounds_toArray, List.set_cons_succ, List.set_cons_zero])
      first | go_big_quiet_step (fail) | (refine sq_val (v := ?_) (by rfl) ?_ ?_; rotate_left; (focus (rintro w' ⟨x, rfl⟩; go_simp; try with_reducible rfl)); simp only [Act.put, List.setIfInBounds_toArray, List.set_cons_succ, List.set_cons_zero])
      go_big_quiet_skip
      go_big_quiet_skip
      go_big_quiet_skip
      go_big_quiet_skip
      go_big_quiet_skip
      go_big_quiet_skip
      go_big_quiet_skip
      go_big_quiet_skip
      go_big_quiet_skip
      go_big_quiet_skip
      first | go_big_quiet_step (fail) | (refine sq_val (v := ?_) (by rfl) ?_ ?_; rotate_left; (focus (rintro w' ⟨x, rfl⟩; go_simp; try with_reducible rfl)); simp only [Act.put, List.setIfInBounds_toArray, List.set_cons_succ, List.set_cons_zero])
      refine wpQuiet_nil ?_
      rintro _ ⟨x1, rfl⟩
      go_wp2
      have hb2 := fresh_trans hbr x1.2
      have hc2 := ((hb2.cell (p := ⟨g, 0, none⟩) (World.block_lt_of_cell? W _ hc)).trans hc)
      have hat : placeOf L k = n := takeWhile_at _ L n hn (fun j h hj => HALL.out j h hj) (fun h => absurd h hlt)
      have his : isAt L k = false := by unfold isAt; rw [hat, List.getElem?_eq_none (by omega)]
      have HAT := Lib.hid hat
      clear hat
      have HIS := Lib.hid his
      clear his
      refine wp_region_quiet_lit (by kernel_rfl) (by kernel_rfl) ?_
      first | go_big_quiet_step (fail) | (refine sq_val (v := ?_) (by rfl) ?_ ?_; rotate_left; (focus (rintro w' ⟨x, rfl⟩; go_simp; try with_reducible rfl)); simp only [Act.put, List.setIfInBounds_toArray, List.set_cons_succ, List.set_cons_zero])
      first | go_big_quiet_step (fail) | (refine sq_val (v := ?_) (by rfl) ?_ ?_; rotate_left; (focus (rintro w' ⟨x, rfl⟩; go_simp; try with_reducible rfl)); simp only [Act.put, List.setIfInBounds_toArray, List.set_cons_succ, List.set_cons_zero])
      first | go_big_quiet_step (fail) | (refine sq_val (v := ?_) (by rfl) ?_ ?_; rotate_left; (focus (rintro w' ⟨x, rfl⟩; go_simp; try with_reducible rfl)); simp only [Act.put, List.setIfInBounds_toArray, List.set_cons_succ, List.set_cons_zero])
      first | go_big_quiet_step (fail) | (refine sq_val (v := ?_) (by rfl) ?_ ?_; rotate_left; (focus (rintro w' ⟨x, rfl⟩; go_simp; try with_reducible rfl)); simp only [Act.put, List.setIfInBounds_toArray, List.set_cons_succ, List.set_cons_zero])
      refine sq_val (by rfl) (fun w' hw' => run_faddr 65 _ 0 rfl rfl _ Try.underlying65 0 _ rfl rfl 0 sitems) ?_
      simp only [Act.put, List.setIfInBounds_toArray, List.set_cons_succ, List.set_cons_zero]
      refine sq_val (by rfl) (fun w' hw' => run_load1 22 _ rfl rfl (by obtain ⟨m, rfl⟩ := hw'; exact hc2) _ Try.underlying22 rfl) ?_
      simp only [Act.put, List.setIfInBounds_toArray, List.set_cons_succ, List.set_cons_zero]
      first | go_big_quiet_step (fail) | (refine sq_val (v := ?_) (by rfl) ?_ ?_; rotate_left; (focus (rintro w' ⟨x, rfl⟩; go_simp; try with_reducible rfl)); simp only [Act.put, List.setIfInBounds_toArray, List.set_cons_succ, List.set_cons_zero])
      first | go_big_quiet_step (fail) | (refine sq_val (v := ?_) (by rfl) ?_ ?_; rotate_left; (focus (rintro w' ⟨x, rfl⟩; go_simp; try with_reducible rfl)); simp only [Act.put, List.setIfInBounds_toArray, List.set_cons_succ, List.set_cons_zero])
      first | go_big_quiet_step (fail) | (refine sq_val (v := ?_) (by rfl) ?_ ?_; rotate_left; (focus (rintro w' ⟨x, rfl⟩; go_simp; try with_reducible rfl)); simp only [Act.put, List.setIfInBounds_toArray, List.set_cons_succ, List.set_cons_zero])
      go_big_quiet_skip
      go_big_quiet_skip
      go_big_quiet_skip
      go_big_quiet_skip
      go_big_quiet_skip
      go_big_quiet_skip
      go_big_quiet_skip
      go_big_quiet_skip
      go_big_quiet_skip
      go_big_quiet_skip
      first | go_big_quiet_step (fail) | (refine sq_val (v := ?_) (by rfl) ?_ ?_; rotate_left; (focus (rintro w' ⟨x, rfl⟩; go_simp; try with_reducible rfl)); simp only [Act.put, List.setIfInBounds_toArray, List.set_cons_succ, List.set_cons_zero])
      first | go_big_quiet_step (fail) | (refine sq_val (v := ?_) (by rfl) ?_ ?_; rotate_left; (focus (rintro w' ⟨x, rfl⟩; go_simp; try with_reducible rfl)); simp only [Act.put, List.setIfInBounds_toArray, List.set_cons_succ, List.set_cons_zero])
      first | go_big_quiet_step (fail) | (refine sq_val (v := ?_) (by rfl) ?_ ?_; rotate_left; (focus (rintro w' ⟨x, rfl⟩; go_simp; try with_reducible rfl)); simp only [Act.put, List.setIfInBounds_toArray, List.set_cons_succ, List.set_cons_zero])
      refine wpQuiet_nil ?_
      intro _ hw'
      obtain ⟨nq, hw''⟩ := hw'
      subst hw''
      go_wp2
      go_ret2
      exact ⟨by rw [HAT.out, HIS.out]; rfl, fresh_trans hb (fresh_drewN hb2 _)⟩
end Go.Pb
