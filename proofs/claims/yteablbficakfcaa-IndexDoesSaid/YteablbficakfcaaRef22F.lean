/- The document's answer for the index: Move. -/
import Derived.Test.YteablbficakfcaaRef22D
import Derived.Test.YteablbficakfcaaIndexRow
import Derived.Test.YteablbficakfcaaDeed
set_option linter.unusedVariables false
set_option linter.unusedSimpArgs false
set_option linter.unusedSectionVars false
namespace Go.Pb
open Go.RowKit Go.Proofs Go.BigFrame

theorem rowSet_eq (L : List Item) (n : Nat) (h : n < L.length) (p : Place) : rowSet L n p = L.set n { L[n] with place := p } := by
  unfold rowSet
  rw [List.getElem?_eq_getElem h]
theorem get22_at {L : List Item} {k : Key} (h : isAt L k = true) : (get22 L k).1 = (L[placeOf L k]'(isAt_lt h)).place := by
  simp [get22, h, List.getElem?_eq_getElem (isAt_lt h)]
theorem enter_set22 (args : Array Value) (w : World) : (callFunc 55 args).run Try.prog w = .ok (.enter 55 args) w := run_enter Try.func55 (by kernel_rfl) rfl args w

set_option maxRecDepth 100000 in
set_option maxHeartbeats 2000000 in
theorem move22_ok (g : Nat) (L : List Item) (k : Key) (n : Int) (w : World) (h : ListAt w g L) (hL : L.length ≤ 1000000) : Calls Try.prog 34 #[.pointer (some ⟨g, 0, none⟩), agg k, .int .i64 n] w fun e w' =>
    e = .returned (.int .i64 (move22 L k n).1) ∧ Keep (fun k => k = g) w w' ∧ ListAt w' g (move22 L k n).2 := by
  generalize hW : w.alloc (.cells (Enc.enc k).toArray 35) = W
  have hb : Below w.heap.size w W := by subst hW; exact fresh_alloc (fresh_refl w) _
  have hk : W.rangeAt w.heap.size 0 (Enc.enc k) := by subst hW; exact range_block (heap_alloc_new w _)
  have hI := h.fresh hb
  have hpl := place22_ok g L k W hI (by omega)
  cases hat : isAt L k with
  | false =>
    have hend : move22 L k n = (6, L) := by simp [move22, hat]
    rw [hend]
    rw [hat] at hpl
    have HAT := Lib.hid hat
    clear hat
    have HPL := Lib.hid hpl
    clear hpl
    have HW := Lib.hid hW
    clear hW
    go_enter Try.func34, Try.ntmps34
    go_wp2_with (first
      | (refine st_val rfl (run_box 35 _ k rfl rfl) ?_; rw [HW.out])
      | (refine st_val rfl (load_key rfl rfl k ?_) ?_; (with_reducible exact hk))
      | (go_at_call 51; refine HPL.out.mono ?_; rintro e u ⟨rfl, hu⟩))
    go_ret
    exact ⟨rfl, Keep.below (fresh_trans hb hu), hI.fresh hu⟩
  | true =>
    have hlt := isAt_lt hat
    have hg22 := get22_at hat
    rw [hat] at hpl
    by_cases h0 : 0 ≤ n
    · by_cases h1 : n ≤ 262144
      · obtain ⟨q, hq⟩ : ∃ q, (get22 L k).1 = q := ⟨_, rfl⟩
        have hend : move22 L k n = (0, L.set (placeOf L k) { L[placeOf L k] with place := { q with at_ := n } }) := by
          simp only [move22, hat, if_true, ixFrom, h0, h1, decide_true, Bool.and_self, hq]
          rw [rowSet_eq L _ hlt]
        rw [hend]
        have hqL : (L[placeOf L k]'hlt).place = q := hg22.symm.trans hq
        generalize hq2 : ({ q with at_ := n } : Place) = q2
        clear hg22 hend hq
        generalize placeOf L k = j at hpl hlt hqL ⊢
        obtain ⟨A, c, hg, hR, hne⟩ := hI
        have hI2 : ListAt W g L := ⟨A, c, hg, hR, hne⟩
        obtain ⟨b1, o1, rfl, hr1⟩ := hR.at_n hlt 73 rfl
        have HC : ∀ u, Below W.heap.size W u → u.cell? ⟨g, 0, none⟩ = some (.slice (some ⟨b1, o1, none⟩) L.length c) := fun u hw => range_block (by rw [hw.block g (Array.getElem?_eq_some_iff.1 hg).1]; exact hg) 0 _ rfl
        have HP : ∀ u, Below W.heap.size W u → u.rangeAt b1 (o1 + j * 73 + 33) (Enc.enc (L[j]'hlt).place) := fun u hw => item_placeAt (range_fresh hr1 hw)
        rw [hqL] at HP
        have hset : ∀ u : World, (u.alloc (.cells (Enc.enc q).toArray 38)).setCell ⟨u.heap.size, 0, none⟩ (.int .i64 n) = u.alloc (.cells (Enc.enc q2).toArray 38) := fun u => setCell_new u 0 _ q q2 _ (by rw [← hq2]; rfl)
        have key : ∀ u, Below W.heap.size W u → (u.alloc (.cells (Enc.enc q).toArray 38)).cell? ⟨u.heap.size, 0, none⟩ = some (.int .i64 q.at_) ∧ (u.alloc (.cells (Enc.enc q).toArray 38)).frozen? ⟨u.heap.size, 0, none⟩ = false ∧
            (u.alloc (.cells (Enc.enc q2).toArray 38)).rangeAt u.heap.size 0 (Enc.enc q2) ∧
            Calls Try.prog 55 #[.pointer (some ⟨g, 0, none⟩), .int .i64 (j : Int), agg q2] (u.alloc (.cells (Enc.enc q2).toArray 38)) fun e w' =>
              e = .returned (.tuple #[]) ∧ Keep (fun k => k = g) w w' ∧ ListAt w' g (L.set j { L[j] with place := q2 }) := fun u hu => by
          have hbl := heap_alloc_new u (.cells (Enc.enc q).toArray 38)
          refine ⟨(cells_place hbl).1, frozen_of_block hbl 0, range_block (heap_alloc_new u _), ?_⟩
          have hbu : Below W.heap.size W (u.alloc (.cells (Enc.enc q2).toArray 38)) := fresh_alloc hu _
          refine (set22_ok g L j q2 _ (hI2.fresh hbu) hlt hL).mono ?_
          rintro e w' ⟨rfl, hk', hl'⟩
          exact ⟨rfl, (Keep.below (fresh_trans hb hbu)).trans hk', hl'⟩
        clear hI2 hR hr1 hne hg
        have HAT := Lib.hid hat
        clear hat
        have HPL := Lib.hid hpl
        clear hpl
        have HW := Lib.hid hW
        clear hW
        have HQ := Lib.hid hqL
        clear hqL
        have HQ2 := Lib.hid hq2
        clear hq2
        have HST := Lib.hid hset
        clear hset
        have KEY := Lib.hid key
        clear key
        have HC2 := Lib.hid HC
        clear HC
        have HP2 := Lib.hid HP
        clear HP
        go_enter Try.func34, Try.ntmps34
        go_wp2_with (first
          | (refine st_val rfl (run_box 35 _ k rfl rfl) ?_; rw [HW.out])
          | (refine st_val rfl (load_key rfl rfl k ?_) ?_; (with_reducible exact hk))
          | (go_at_call 51; refine HPL.out.mono ?_; rintro e u ⟨rfl, hu⟩; have hcu := HC2.out u hu; have hpu := HP2.out u hu; obtain ⟨hc0, hf0, hr2, hcall⟩ := KEY.out u hu; have HCALL := Lib.hid hcall; clear hcall)
          | (refine st_val rfl (elem_item rfl rfl rfl hlt) ?_)
          | (refine st_val rfl (run_faddr 42 _ 2 rfl rfl _ Try.underlying42 33 _ rfl rfl 3 s38) ?_)
          | (refine st_val rfl (load_place rfl rfl q ?_) ?_; (with_reducible exact hpu))
          | (refine st_val rfl (run_alloc 38 Place.zero zero38 rfl) ?_)
          | (refine st_skip rfl (run_store_new 38 _ _ rfl rfl rfl q Place.zero rfl 38 s38) ?_)
          | (refine st_skip rfl (run_store1 3 _ _ rfl rfl (v := .int .i64 n) (u := .int .i64 q.at_) rfl ?_ ?_ rfl rfl sint) ?_; (with_reducible exact hc0); (with_reducible exact hf0); rw [HST.out])
          | (refine st_val rfl (load_place rfl rfl q2 ?_) ?_; (with_reducible exact hr2))
          | (go_at_call 55; refine HCALL.out.mono ?_; rintro e w3 ⟨rfl, hkeep, hlaid⟩))
        go_ret
        exact ⟨rfl, hkeep, hlaid⟩
      · have hend : move22 L k n = (2, L) := by simp [move22, hat, ixFrom, h1]
        rw [hend]
        have hgt : 262144 < n := by omega
        clear h1 hg22
        have HAT := Lib.hid hat
        clear hat
        have HPL := Lib.hid hpl
        clear hpl
        have HW := Lib.hid hW
        clear hW
        go_enter Try.func34, Try.ntmps34
        go_wp2_with (first
          | (refine st_val rfl (run_box 35 _ k rfl rfl) ?_; rw [HW.out])
          | (refine st_val rfl (load_key rfl rfl k ?_) ?_; (with_reducible exact hk))
          | (go_at_call 51; refine HPL.out.mono ?_; rintro e u ⟨rfl, hu⟩))
        go_ret
        exact ⟨rfl, Keep.below (fresh_trans hb hu), hI.fresh hu⟩
    · have hend : move22 L k n = (2, L) := by simp [move22, hat, ixFrom, h0]
      rw [hend]
      have hgt : n < 0 := by omega
      clear h0 hg22
      have HAT := Lib.hid hat
      clear hat
      have HPL := Lib.hid hpl
      clear hpl
      have HW := Lib.hid hW
      clear hW
      go_enter Try.func34, Try.ntmps34
      go_wp2_with (first
        | (refine st_val rfl (run_box 35 _ k rfl rfl) ?_; rw [HW.out])
        | (refine st_val rfl (load_key rfl rfl k ?_) ?_; (with_reducible exact hk))
        | (go_at_call 51; refine HPL.out.mono ?_; rintro e u ⟨rfl, hu⟩))
      go_ret
      exact ⟨rfl, Keep.below (fresh_trans hb hu), hI.fresh hu⟩
end Go.Pb
