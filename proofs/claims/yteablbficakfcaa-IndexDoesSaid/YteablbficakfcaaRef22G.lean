/- The document's answer for the index: Want. -/
import Derived.Test.YteablbficakfcaaRef22F
import Derived.Test.YteablbficakfcaaArith
set_option linter.unusedVariables false
set_option linter.unusedSimpArgs false
set_option linter.unusedSectionVars false
namespace Go.Pb
open Go.RowKit Go.Proofs Go.BigFrame

set_option maxRecDepth 100000 in
set_option maxHeartbeats 4000000 in
theorem want22_ok (g : Nat) (L : List Item) (k : Key) (n : Int) (w : World) (h : ListAt w g L) (hL : L.length ≤ 1000000) : Calls Try.prog 36 #[.pointer (some ⟨g, 0, none⟩), agg k, .int .i64 n] w fun e w' =>
    e = .returned (.int .i64 (want22 L k n).1) ∧ Keep (fun k => k = g) w w' ∧ ListAt w' g (want22 L k n).2 := by
  generalize hW : w.alloc (.cells (Enc.enc k).toArray 35) = W
  have hb : Below w.heap.size w W := by subst hW; exact fresh_alloc (fresh_refl w) _
  have hk : W.rangeAt w.heap.size 0 (Enc.enc k) := by subst hW; exact range_block (heap_alloc_new w _)
  have hI := h.fresh hb
  have hpl := place22_ok g L k W hI (by omega)
  cases hat : isAt L k with
  | false =>
    have hend : want22 L k n = (6, L) := by simp [want22, hat]
    rw [hend]
    rw [hat] at hpl
    have HAT := Lib.hid hat
    clear hat
    have HPL := Lib.hid hpl
    clear hpl
    have HW := Lib.hid hW
    clear hW
    go_enter Try.func36, Try.ntmps36
    go_wp2_with (first
      | (refine st_val rfl (run_box 35 _ k rfl rfl) ?_; rw [HW.out])
      | (refine st_val rfl (load_key rfl rfl k ?_) ?_; (with_reducible exact hk))
      | (go_at_call 51; refine HPL.out.mono ?_; rintro e u ⟨rfl, hu⟩))
    go_ret
    exact ⟨rfl, Keep.below (fresh_trans hb hu), hI.fresh hu⟩
  | true =>
    have hlt := isAt_lt hat
    have hg22 := get22_at hat
    rw [hat] at hpl
    obtain ⟨q, hq⟩ : ∃ q, (get22 L k).1 = q := ⟨_, rfl⟩
    have hqL : (L[placeOf L k]'hlt).place = q := hg22.symm.trans hq
    have hend : want22 L k n = if ixBears q n then (if wrap64 (q.refs + n) = 0 then (0, rowDel L k) else (0, L.set (placeOf L k) { L[placeOf L k] with place := { q with refs := wrap64 (q.refs + n) } })) else (2, L) := by
      simp only [want22, hat, if_true, hq]
      rw [rowSet_eq L _ hlt]
    have hdel : rowDel L k = L.take (placeOf L k) ++ L.drop (placeOf L k + 1) := rfl
    rw [hdel] at hend
    clear hdel hg22 hq hat
    generalize want22 L k n = res at hend ⊢
    generalize placeOf L k = j at hpl hlt hqL hend
    obtain ⟨A, c, hg, hR, hne, hlc⟩ := hI
    have hI2 : ListAt W g L := ⟨A, c, hg, hR, hne, hlc⟩
    obtain ⟨b1, o1, rfl, hr1⟩ := hR.at_n hlt 73 rfl
    have HC : ∀ u, Below W.heap.size W u → u.cell? ⟨g, 0, none⟩ = some (.slice (some ⟨b1, o1, none⟩) L.length c) := fun u hw => range_block (by rw [hw.block g (Array.getElem?_eq_some_iff.1 hg).1]; exact hg) 0 _ rfl
    have HP : ∀ u, Below W.heap.size W u → u.rangeAt b1 (o1 + j * 73 + 33) (Enc.enc (L[j]'hlt).place) := fun u hw => item_placeAt (range_fresh hr1 hw)
    rw [hqL] at HP
    have hgW : g < W.heap.size := (Array.getElem?_eq_some_iff.1 hg).1
    generalize hq2 : ({ q with refs := wrap64 (q.refs + n) } : Place) = q2 at hend
    have hq2r : q2.refs = wrap64 (q.refs + n) := by rw [← hq2]
    have hset : ∀ u : World, (u.alloc (.cells (Enc.enc q).toArray 38)).setCell ⟨u.heap.size, 3, none⟩ (.int .i64 (wrap64 (q.refs + n))) = u.alloc (.cells (Enc.enc q2).toArray 38) := fun u => setCell_new u 3 _ q q2 _ (by rw [← hq2]; rfl)
    have key : ∀ u, Below W.heap.size W u → (u.alloc (.cells (Enc.enc q).toArray 38)).cell? ⟨u.heap.size, 3, none⟩ = some (.int .i64 q.refs) ∧ (u.alloc (.cells (Enc.enc q).toArray 38)).frozen? ⟨u.heap.size, 3, none⟩ = false ∧
        (u.alloc (.cells (Enc.enc q2).toArray 38)).rangeAt u.heap.size 0 (Enc.enc q2) ∧ (u.alloc (.cells (Enc.enc q2).toArray 38)).cell? ⟨u.heap.size, 3, none⟩ = some (.int .i64 (wrap64 (q.refs + n))) ∧
        Calls Try.prog 55 #[.pointer (some ⟨g, 0, none⟩), .int .i64 (j : Int), agg q2] (u.alloc (.cells (Enc.enc q2).toArray 38)) fun e w' =>
          e = .returned (.tuple #[]) ∧ Keep (fun k => k = g) w w' ∧ ListAt w' g (L.set j { L[j] with place := q2 }) := fun u hu => by
      have hbl := heap_alloc_new u (.cells (Enc.enc q).toArray 38)
      have hbl2 := heap_alloc_new u (.cells (Enc.enc q2).toArray 38)
      refine ⟨(cells_place hbl).2.2.2, frozen_of_block hbl 3, range_block hbl2, by rw [(cells_place hbl2).2.2.2, hq2r], ?_⟩
      have hbu : Below W.heap.size W (u.alloc (.cells (Enc.enc q2).toArray 38)) := fresh_alloc hu _
      refine (set22_ok g L j q2 _ (hI2.fresh hbu) hlt hL).mono ?_
      rintro e w' ⟨rfl, hk', hl'⟩
      exact ⟨rfl, (Keep.below (fresh_trans hb hbu)).trans hk', hl'⟩
    have hback : ∀ u, Below W.heap.size W u → Keep (fun k => k = g) w u ∧ ListAt u g L := fun u hu => ⟨Keep.below (fresh_trans hb hu), hI2.fresh hu⟩
    have HPL := Lib.hid hpl
    clear hpl
    have HW := Lib.hid hW
    clear hW
    have HQ := Lib.hid hqL
    clear hqL
    have HQ2 := Lib.hid hq2
    clear hq2
    have HQ2R := Lib.hid hq2r
    clear hq2r
    have HST := Lib.hid hset
    clear hset
    have KEY := Lib.hid key
    clear key
    have HC2 := Lib.hid HC
    clear HC
    have HP2 := Lib.hid HP
    clear HP
    have HBACK := Lib.hid hback
    clear hback
    by_cases h1 : wrap64 (-q.refs) ≤ n
    · by_cases h2 : n ≤ wrap64 (2147483647 - q.refs)
      · have hbear : ixBears q n = true := by simp [ixBears, ixFrom, h1, h2]
        rw [hbear, if_pos rfl] at hend
        clear hbear
        by_cases hz : wrap64 (q.refs + n) = 0
        · rw [if_pos hz] at hend
          subst hend
          have key0 := KEY.out
          rw [hz] at key0
          have KEY0 := Lib.hid key0
          clear key0
          have HZ := Lib.hid hz
          clear hz
          clear KEY
          have h1T : (L.take j).length = j := by rw [List.length_take]; omega
          have hRT := fun u (hu : Below W.heap.size W u) => ((hR.fresh hu).take j)
          have hRD := fun u (hu : Below W.heap.size W u) => ((hR.fresh hu).drop (j + 1) c (by omega) hlc)
          generalize L.take j = T1 at h1T hRT ⊢
          have h1D : (L.drop (j + 1)).length = L.length - (j + 1) := by simp
          generalize L.drop (j + 1) = D1 at h1D hRD ⊢
          obtain ⟨A', hA'⟩ : ∃ A' : Option Addr, A' = if c = j + 1 then some ⟨b1, o1, none⟩ else (some ⟨b1, o1, none⟩ : Option Addr).map (·.add ((j + 1) * 73)) := ⟨_, rfl⟩
          obtain ⟨d, hcd⟩ : ∃ d, c = j + 1 + d := ⟨c - (j + 1), by omega⟩
          have hLL : L.length = j + 1 + D1.length := by omega
          have hRD' : ∀ u, Below W.heap.size W u → Reads u A' D1 := fun u hu => by rw [hA']; exact hRD u hu
          have hcT : T1.length ≤ c := by omega
          have hspot : ∀ a, (some ⟨b1, o1, none⟩ : Option Addr) = some a → a.spot = none := fun a ha => (hne a ha).2
          have hsum : IntKind.i64.wrap ((j : Int) + 1) = ((j + 1 : Nat) : Int) := by rw [wrap_in (by omega) (by omega)]; rfl
          have hTb : T1.length ≤ 1000000 := by omega
          have hDb : D1.length ≤ 1000000 := by omega
          have hbig1 : (([] : List Item).length + T1.length) * 136 ≤ 140737488355328 := by simp; omega
          have hbig2 : (T1.length + D1.length) * 136 ≤ 140737488355328 := by omega
          have hglt : ∀ u, Below W.heap.size W u → u.heap[g]? = some (.cells #[.slice (some ⟨b1, o1, none⟩) L.length c] 65) := fun u hw => by rw [hw.block g hgW]; exact hg
          have hjT : (j : Int) = (T1.length : Int) := by omega
          subst h1T
          have erase : ∀ x0, Below W.heap.size W x0 →
              (∀ X, Below x0.heap.size x0 X → X.cell? ⟨g, 0, none⟩ = some (.slice (some ⟨b1, o1, none⟩) L.length c)) ∧
              (∀ X, Below x0.heap.size x0 X → Below x0.heap.size x0 (X.alloc (.cells #[] 42)) ∧ Owns (X.alloc (.cells #[] 42)) x0.heap.size 42 (.slice (some ⟨X.heap.size, 0, none⟩) 0 0) ([] : List Item)) ∧
              (∀ X, Below x0.heap.size x0 X → Reads X (some ⟨b1, o1, none⟩) T1) ∧ (∀ X, Below x0.heap.size x0 X → Reads X A' D1) ∧
              (∀ X, Below x0.heap.size x0 X → ∀ v, Owns X x0.heap.size 42 v ([] : List Item) → ∀ v1 X1, Owns X1 x0.heap.size 42 v1 ([] ++ T1) → X.grownBy X1 v.ownBlock → Below x0.heap.size x0 X1 ∧ Owns X1 x0.heap.size 42 v1 T1) ∧
              (∀ X, Below x0.heap.size x0 X → ∀ v, Owns X x0.heap.size 42 v T1 → ∀ v9 X9, Owns X9 x0.heap.size 42 v9 (T1 ++ D1) → X.grownBy X9 v.ownBlock →
                X9.cell? ⟨g, 0, none⟩ = some (.slice (some ⟨b1, o1, none⟩) L.length c) ∧ X9.frozen? ⟨g, 0, none⟩ = false ∧ Keep (fun k => k = g) w (X9.setCell ⟨g, 0, none⟩ v9) ∧ ListAt (X9.setCell ⟨g, 0, none⟩ v9) g (T1 ++ D1) ∧ v9.cells = #[v9] ∧ v9.oneCell' = true) := fun x0 hx0 => by
            refine ⟨fun X hX => HC2.out X (fresh_trans hx0 hX), fun X hX => ⟨fresh_alloc hX _, Owns.row0 X _ _ hX.size⟩, fun X hX => hRT X (fresh_trans hx0 hX), fun X hX => hRD' X (fresh_trans hx0 hX), fun X hX v hO v1 X1 hO1 hg1 => ?_, fun X hX v hO v9 X9 hO9 hg9 => ?_⟩
            · rw [List.nil_append] at hO1
              exact ⟨fresh_own hX hO hg1 (Nat.le_refl _), hO1⟩
            · have hb9 : Below x0.heap.size x0 X9 := fresh_own hX hO hg9 (Nat.le_refl _)
              have hbw := fresh_trans hx0 hb9
              have hgg := hglt _ hbw
              obtain ⟨A9, c9, rfl, _, _⟩ := hO9.shape
              exact ⟨HC2.out _ hbw, frozen_of_block hgg 0, (Keep.below (fresh_trans hb hbw)).trans (Keep.setCell _ ⟨g, 0, none⟩ _), ListAt.laid hgg hO9 (by have := hx0.size; omega), rfl, rfl⟩
          clear hRT hRD hRD' hglt hR hne hg hjT
          have ERASE := Lib.hid erase
          clear erase
          have HLL := Lib.hid hLL
          clear hLL
          have HCD := Lib.hid hcd
          clear hcd
          have HA := Lib.hid hA'
          clear hA'
          have HSP := Lib.hid hspot
          clear hspot
          have HSUM := Lib.hid hsum
          clear hsum
          have H1D := Lib.hid h1D
          clear h1D
          go_enter Try.func36, Try.ntmps36
          go_wp2_with (first
            | (refine st_val rfl (run_box 35 _ k rfl rfl) ?_; rw [HW.out])
            | (refine st_val rfl (load_key rfl rfl k ?_) ?_; (with_reducible exact hk))
            | (go_at_call 51; refine HPL.out.mono ?_; rintro e u ⟨rfl, hu⟩; have hcu := HC2.out u hu; have hpu := HP2.out u hu; obtain ⟨hc3, hf3, hr2, hc3b, hcall⟩ := KEY0.out u hu; have HCALL := Lib.hid hcall; clear hcall)
            | (refine st_val rfl (elem_item rfl rfl rfl hlt) ?_)
            | (refine st_val rfl (run_faddr 42 _ 2 rfl rfl _ Try.underlying42 33 _ rfl rfl 3 s38) ?_)
            | (refine st_val rfl (load_place rfl rfl q ?_) ?_; (with_reducible exact hpu))
            | (refine st_val rfl (run_alloc 38 Place.zero zero38 rfl) ?_)
            | (refine st_skip rfl (run_store_new 38 _ _ rfl rfl rfl q Place.zero rfl 38 s38) ?_)
            | (refine st_skip rfl (run_store1 3 _ _ rfl rfl (v := .int .i64 (wrap64 (q.refs + n))) (u := .int .i64 q.refs) rfl ?_ ?_ rfl rfl sint) ?_; (with_reducible exact hc3); (with_reducible exact hf3); rw [HST.out])
            | (refine st_val rfl (load_place rfl rfl q2 ?_) ?_; (with_reducible exact hr2))
            | (go_at_call 55; refine HCALL.out.mono ?_; rintro e w3 ⟨rfl, hkeep, hlaid⟩))
          have hx0 : Below W.heap.size W (u.alloc (.cells (Enc.enc q2).toArray 38)) := fresh_alloc hu _
          clear hr2 hc3b HCALL hc3 hf3
          generalize u.alloc (.cells (Enc.enc q2).toArray 38) = x0 at hx0 ⊢
          obtain ⟨hc3, row0, hrt, hrd, keyt, keyd⟩ := ERASE.out x0 hx0
          have HC3 := Lib.hid hc3
          have ROW0 := Lib.hid row0
          have HRT := Lib.hid hrt
          have HRD := Lib.hid hrd
          have KEYT := Lib.hid keyt
          have KEYD := Lib.hid keyd
          clear hc3 row0 hrt hrd keyt keyd
          have hX0 : Below x0.heap.size x0 x0.drew := fresh_drew (fresh_refl x0)
          refine held_lit (fun _ => True) 20 rfl (by kernel_rfl) ?_
          refine hl_take (v := ?_) 0 rfl (by kernel_rfl) (by rfl) ?_ trivial (fun _ _ _ h => h) ?_
          rotate_left
          · (intro w' hw'; go_simp; try with_reducible rfl)
          simp only [Act.put, List.setIfInBounds_toArray, List.set_cons_succ, List.set_cons_zero]
          refine hl_take (v := ?_) 2 rfl (by kernel_rfl) (by rfl) ?_ trivial (fun _ _ _ h => h) ?_
          rotate_left
          · (intro w' hw'; go_simp; try with_reducible rfl)
          simp only [Act.put, List.setIfInBounds_toArray, List.set_cons_succ, List.set_cons_zero]
          refine hl_take (v := ?_) 3 rfl (by kernel_rfl) (by rfl) ?_ trivial (fun _ _ _ h => h) ?_
          rotate_left
          · (intro w' hw'; go_simp; try with_reducible rfl)
          simp only [Act.put, List.setIfInBounds_toArray, List.set_cons_succ, List.set_cons_zero]
          refine hl_take 4 rfl (by kernel_rfl) (by rfl) (fun w' hw' => run_faddr 65 _ 0 rfl rfl _ Try.underlying65 0 _ rfl rfl 0 sitems) trivial (fun _ _ _ h => h) ?_
          simp only [Act.put, List.setIfInBounds_toArray, List.set_cons_succ, List.set_cons_zero]
          refine hl_take (v := ?_) 6 rfl (by kernel_rfl) (by rfl) ?_ trivial (fun _ _ _ h => h) ?_
          rotate_left
          · (intro w' hw'; go_simp; try with_reducible rfl)
          simp only [Act.put, List.setIfInBounds_toArray, List.set_cons_succ, List.set_cons_zero]
          refine hl_take (v := ?_) 9 rfl (by kernel_rfl) (by rfl) ?_ trivial (fun _ _ _ h => h) ?_
          rotate_left
          · (intro w' hw'; go_simp; try with_reducible rfl)
          simp only [Act.put, List.setIfInBounds_toArray, List.set_cons_succ, List.set_cons_zero]
          refine hl_take (v := ?_) 10 rfl (by kernel_rfl) (by rfl) ?_ trivial (fun _ _ _ h => h) ?_
          rotate_left
          · (intro w' hw'; go_simp; try with_reducible rfl)
          simp only [Act.put, List.setIfInBounds_toArray, List.set_cons_succ, List.set_cons_zero]
          refine hl_take 11 rfl (by kernel_rfl) (by rfl) (fun w' hw' => run_faddr 65 _ 0 rfl rfl _ Try.underlying65 0 _ rfl rfl 0 sitems) trivial (fun _ _ _ h => h) ?_
          simp only [Act.put, List.setIfInBounds_toArray, List.set_cons_succ, List.set_cons_zero]
          refine hl_take (v := ?_) 13 rfl (by kernel_rfl) (by rfl) ?_ trivial (fun _ _ _ h => h) ?_
          rotate_left
          · (intro w' hw'; go_simp; try with_reducible rfl)
          simp only [Act.put, List.setIfInBounds_toArray, List.set_cons_succ, List.set_cons_zero]
          refine hl_take 14 rfl (by kernel_rfl) (by rfl) (fun w' hw' => op_add64 _ _ _ _ _ _ _ rfl rfl rfl HSUM.out) trivial (fun _ _ _ h => h) ?_
          simp only [Act.put, List.setIfInBounds_toArray, List.set_cons_succ, List.set_cons_zero]
          refine hl_three 1 5 12 (by kernel_rfl) ?_ ?_ ?_
          · refine hs_val rfl (by rfl) (run_row0 22 42 rfl Try.underlying22 73 s42) trivial ?_
            simp only [Act.put, List.setIfInBounds_toArray, List.set_cons_succ, List.set_cons_zero]
            obtain ⟨hX1, hO1⟩ := ROW0.out _ hX0
            generalize (x0.drew).alloc (.cells #[] 42) = X1 at hX1 hO1 ⊢
            refine hl_two 5 12 (by kernel_rfl) ?_ ?_
            · refine hs_val rfl (by rfl) (run_load1 22 _ rfl rfl (HC3.out _ hX1) _ Try.underlying22 rfl) trivial ?_
              simp only [Act.put, List.setIfInBounds_toArray, List.set_cons_succ, List.set_cons_zero]
              refine hl_take 7 rfl (by kernel_rfl) (by rfl) (fun w' hw' => op_slice_to 22 42 _ _ rfl Try.underlying22 73 s42 rfl T1.length rfl hcT HSP.out) trivial (fun _ _ _ h => h) ?_
              simp only [Act.put, List.setIfInBounds_toArray, List.set_cons_succ, List.set_cons_zero]
              refine hl_two 8 12 (by kernel_rfl) ?_ ?_
              · refine hs_append rfl (by rfl) x0.heap.size _ _ 22 42 rfl Try.underlying22 Item.zero 136 info42 (by decide) _ [] T1 rfl rfl hO1 (HRT.out _ hX1) hbig1 hX1.size (fun v3 X3 hO3' hg3 => ⟨trivial, ?_⟩)
                simp only [Act.put, List.setIfInBounds_toArray, List.set_cons_succ, List.set_cons_zero]
                obtain ⟨hX3, hO3⟩ := KEYT.out _ hX1 _ hO1 _ _ hO3' hg3
                refine hl_one 12 (by kernel_rfl) (hs_val rfl (by rfl) (run_load1 22 _ rfl rfl (HC3.out _ hX3) _ Try.underlying22 rfl) trivial ?_)
                simp only [Act.put, List.setIfInBounds_toArray, List.set_cons_succ, List.set_cons_zero]
                refine hl_take 15 rfl (by kernel_rfl) (by rfl) (fun w' hw' => op_slice_rest 22 42 _ _ rfl Try.underlying22 73 s42 rfl (T1.length + 1) rfl D1.length d HLL.out HCD.out A' HA.out) trivial (fun _ _ _ h => h) ?_
                simp only [Act.put, List.setIfInBounds_toArray, List.set_cons_succ, List.set_cons_zero]
                refine hl_one 16 (by kernel_rfl) (hs_append rfl (by rfl) x0.heap.size _ _ 22 42 rfl Try.underlying22 Item.zero 136 info42 (by decide) v3 T1 D1 rfl rfl hO3 (HRD.out _ hX3) hbig2 hX3.size (fun v9 X9 hO9 hg9 => ⟨trivial, ?_⟩))
                simp only [Act.put, List.setIfInBounds_toArray, List.set_cons_succ, List.set_cons_zero]
                refine hl_take (v := ?_) 17 rfl (by kernel_rfl) (by rfl) ?_ trivial (fun _ _ _ h => h) ?_
                rotate_left
                · (intro w' hw'; go_simp; try with_reducible rfl)
                simp only [Act.put, List.setIfInBounds_toArray, List.set_cons_succ, List.set_cons_zero]
                refine hl_take 18 rfl (by kernel_rfl) (by rfl) (fun w' hw' => run_faddr 65 _ 0 rfl rfl _ Try.underlying65 0 _ rfl rfl 0 sitems) trivial (fun _ _ _ h => h) ?_
                simp only [Act.put, List.setIfInBounds_toArray, List.set_cons_succ, List.set_cons_zero]
                obtain ⟨hc9, hf9, hkeep, hlaid, hv9, ho9⟩ := KEYD.out _ hX3 _ hO3 _ _ hO9 hg9
                refine hl_one 19 (by kernel_rfl) (hs_skip rfl (by rfl) (run_store1 22 _ _ rfl rfl (v := v9) rfl hc9 hf9 hv9 ho9 sitems) trivial ?_)
                simp only [Act.put, List.setIfInBounds_toArray, List.set_cons_succ, List.set_cons_zero]
                refine hl_done (by kernel_rfl) ?_
                go_wp2
                go_ret
                exact ⟨rfl, hkeep, hlaid⟩
              · refine hs_val rfl (by rfl) (run_load1 22 _ rfl rfl (HC3.out _ hX1) _ Try.underlying22 rfl) trivial ?_
                simp only [Act.put, List.setIfInBounds_toArray, List.set_cons_succ, List.set_cons_zero]
                refine hl_take 15 rfl (by kernel_rfl) (by rfl) (fun w' hw' => op_slice_rest 22 42 _ _ rfl Try.underlying22 73 s42 rfl (T1.length + 1) rfl D1.length d HLL.out HCD.out A' HA.out) trivial (fun _ _ _ h => h) ?_
                simp only [Act.put, List.setIfInBounds_toArray, List.set_cons_succ, List.set_cons_zero]
                refine hl_one 8 (by kernel_rfl) (hs_append rfl (by rfl) x0.heap.size _ _ 22 42 rfl Try.underlying22 Item.zero 136 info42 (by decide) _ [] T1 rfl rfl hO1 (HRT.out _ hX1) hbig1 hX1.size (fun v7 X7 hO7' hg7 => ⟨trivial, ?_⟩))
                simp only [Act.put, List.setIfInBounds_toArray, List.set_cons_succ, List.set_cons_zero]
                obtain ⟨hX7, hO7⟩ := KEYT.out _ hX1 _ hO1 _ _ hO7' hg7
                refine hl_one 16 (by kernel_rfl) (hs_append rfl (by rfl) x0.heap.size _ _ 22 42 rfl Try.underlying22 Item.zero 136 info42 (by decide) v7 T1 D1 rfl rfl hO7 (HRD.out _ hX7) hbig2 hX7.size (fun v9 X9 hO9 hg9 => ⟨trivial, ?_⟩))
                simp only [Act.put, List.setIfInBounds_toArray, List.set_cons_succ, List.set_cons_zero]
                refine hl_take (v := ?_) 17 rfl (by kernel_rfl) (by rfl) ?_ trivial (fun _ _ _ h => h) ?_
                rotate_left
                · (intro w' hw'; go_simp; try with_reducible rfl)
                simp only [Act.put, List.setIfInBounds_toArray, List.set_cons_succ, List.set_cons_zero]
                refine hl_take 18 rfl (by kernel_rfl) (by rfl) (fun w' hw' => run_faddr 65 _ 0 rfl rfl _ Try.underlying65 0 _ rfl rfl 0 sitems) trivial (fun _ _ _ h => h) ?_
                simp only [Act.put, List.setIfInBounds_toArray, List.set_cons_succ, List.set_cons_zero]
                obtain ⟨hc9, hf9, hkeep, hlaid, hv9, ho9⟩ := KEYD.out _ hX7 _ hO7 _ _ hO9 hg9
                refine hl_one 19 (by kernel_rfl) (hs_skip rfl (by rfl) (run_store1 22 _ _ rfl rfl (v := v9) rfl hc9 hf9 hv9 ho9 sitems) trivial ?_)
                simp only [Act.put, List.setIfInBounds_toArray, List.set_cons_succ, List.set_cons_zero]
                refine hl_done (by kernel_rfl) ?_
                go_wp2
                go_ret
                exact ⟨rfl, hkeep, hlaid⟩
            · refine hs_val rfl (by rfl) (run_load1 22 _ rfl rfl (HC3.out _ hX1) _ Try.underlying22 rfl) trivial ?_
              simp only [Act.put, List.setIfInBounds_toArray, List.set_cons_succ, List.set_cons_zero]
              refine hl_take 15 rfl (by kernel_rfl) (by rfl) (fun w' hw' => op_slice_rest 22 42 _ _ rfl Try.underlying22 73 s42 rfl (T1.length + 1) rfl D1.length d HLL.out HCD.out A' HA.out) trivial (fun _ _ _ h => h) ?_
              simp only [Act.put, List.setIfInBounds_toArray, List.set_cons_succ, List.set_cons_zero]
              refine hl_one 5 (by kernel_rfl) (hs_val rfl (by rfl) (run_load1 22 _ rfl rfl (HC3.out _ hX1) _ Try.underlying22 rfl) trivial ?_)
              simp only [Act.put, List.setIfInBounds_toArray, List.set_cons_succ, List.set_cons_zero]
              refine hl_take 7 rfl (by kernel_rfl) (by rfl) (fun w' hw' => op_slice_to 22 42 _ _ rfl Try.underlying22 73 s42 rfl T1.length rfl hcT HSP.out) trivial (fun _ _ _ h => h) ?_
              simp only [Act.put, List.setIfInBounds_toArray, List.set_cons_succ, List.set_cons_zero]
              refine hl_one 8 (by kernel_rfl) (hs_append rfl (by rfl) x0.heap.size _ _ 22 42 rfl Try.underlying22 Item.zero 136 info42 (by decide) _ [] T1 rfl rfl hO1 (HRT.out _ hX1) hbig1 hX1.size (fun v11 X11 hO11' hg11 => ⟨trivial, ?_⟩))
              simp only [Act.put, List.setIfInBounds_toArray, List.set_cons_succ, List.set_cons_zero]
              obtain ⟨hX11, hO11⟩ := KEYT.out _ hX1 _ hO1 _ _ hO11' hg11
              refine hl_one 16 (by kernel_rfl) (hs_append rfl (by rfl) x0.heap.size _ _ 22 42 rfl Try.underlying22 Item.zero 136 info42 (by decide) v11 T1 D1 rfl rfl hO11 (HRD.out _ hX11) hbig2 hX11.size (fun v9 X9 hO9 hg9 => ⟨trivial, ?_⟩))
              simp only [Act.put, List.setIfInBounds_toArray, List.set_cons_succ, List.set_cons_zero]
              refine hl_take (v := ?_) 17 rfl (by kernel_rfl) (by rfl) ?_ trivial (fun _ _ _ h => h) ?_
              rotate_left
              · (intro w' hw'; go_simp; try with_reducible rfl)
              simp only [Act.put, List.setIfInBounds_toArray, List.set_cons_succ, List.set_cons_zero]
              refine hl_take 18 rfl (by kernel_rfl) (by rfl) (fun w' hw' => run_faddr 65 _ 0 rfl rfl _ Try.underlying65 0 _ rfl rfl 0 sitems) trivial (fun _ _ _ h => h) ?_
              simp only [Act.put, List.setIfInBounds_toArray, List.set_cons_succ, List.set_cons_zero]
              obtain ⟨hc9, hf9, hkeep, hlaid, hv9, ho9⟩ := KEYD.out _ hX11 _ hO11 _ _ hO9 hg9
              refine hl_one 19 (by kernel_rfl) (hs_skip rfl (by rfl) (run_store1 22 _ _ rfl rfl (v := v9) rfl hc9 hf9 hv9 ho9 sitems) trivial ?_)
              simp only [Act.put, List.setIfInBounds_toArray, List.set_cons_succ, List.set_cons_zero]
              refine hl_done (by kernel_rfl) ?_
              go_wp2
              go_ret
              exact ⟨rfl, hkeep, hlaid⟩
          · refine hs_val rfl (by rfl) (run_load1 22 _ rfl rfl (HC3.out _ hX0) _ Try.underlying22 rfl) trivial ?_
            simp only [Act.put, List.setIfInBounds_toArray, List.set_cons_succ, List.set_cons_zero]
            refine hl_take 7 rfl (by kernel_rfl) (by rfl) (fun w' hw' => op_slice_to 22 42 _ _ rfl Try.underlying22 73 s42 rfl T1.length rfl hcT HSP.out) trivial (fun _ _ _ h => h) ?_
            simp only [Act.put, List.setIfInBounds_toArray, List.set_cons_succ, List.set_cons_zero]
            refine hl_two 1 12 (by kernel_rfl) ?_ ?_
            · refine hs_val rfl (by rfl) (run_row0 22 42 rfl Try.underlying22 73 s42) trivial ?_
              simp only [Act.put, List.setIfInBounds_toArray, List.set_cons_succ, List.set_cons_zero]
              obtain ⟨hX14, hO14⟩ := ROW0.out _ hX0
              generalize (x0.drew).alloc (.cells #[] 42) = X14 at hX14 hO14 ⊢
              refine hl_two 8 12 (by kernel_rfl) ?_ ?_
              · refine hs_append rfl (by rfl) x0.heap.size _ _ 22 42 rfl Try.underlying22 Item.zero 136 info42 (by decide) _ [] T1 rfl rfl hO14 (HRT.out _ hX14) hbig1 hX14.size (fun v15 X15 hO15' hg15 => ⟨trivial, ?_⟩)
                simp only [Act.put, List.setIfInBounds_toArray, List.set_cons_succ, List.set_cons_zero]
                obtain ⟨hX15, hO15⟩ := KEYT.out _ hX14 _ hO14 _ _ hO15' hg15
                refine hl_one 12 (by kernel_rfl) (hs_val rfl (by rfl) (run_load1 22 _ rfl rfl (HC3.out _ hX15) _ Try.underlying22 rfl) trivial ?_)
                simp only [Act.put, List.setIfInBounds_toArray, List.set_cons_succ, List.set_cons_zero]
                refine hl_take 15 rfl (by kernel_rfl) (by rfl) (fun w' hw' => op_slice_rest 22 42 _ _ rfl Try.underlying22 73 s42 rfl (T1.length + 1) rfl D1.length d HLL.out HCD.out A' HA.out) trivial (fun _ _ _ h => h) ?_
                simp only [Act.put, List.setIfInBounds_toArray, List.set_cons_succ, List.set_cons_zero]
                refine hl_one 16 (by kernel_rfl) (hs_append rfl (by rfl) x0.heap.size _ _ 22 42 rfl Try.underlying22 Item.zero 136 info42 (by decide) v15 T1 D1 rfl rfl hO15 (HRD.out _ hX15) hbig2 hX15.size (fun v9 X9 hO9 hg9 => ⟨trivial, ?_⟩))
                simp only [Act.put, List.setIfInBounds_toArray, List.set_cons_succ, List.set_cons_zero]
                refine hl_take (v := ?_) 17 rfl (by kernel_rfl) (by rfl) ?_ trivial (fun _ _ _ h => h) ?_
                rotate_left
                · (intro w' hw'; go_simp; try with_reducible rfl)
                simp only [Act.put, List.setIfInBounds_toArray, List.set_cons_succ, List.set_cons_zero]
                refine hl_take 18 rfl (by kernel_rfl) (by rfl) (fun w' hw' => run_faddr 65 _ 0 rfl rfl _ Try.underlying65 0 _ rfl rfl 0 sitems) trivial (fun _ _ _ h => h) ?_
                simp only [Act.put, List.setIfInBounds_toArray, List.set_cons_succ, List.set_cons_zero]
                obtain ⟨hc9, hf9, hkeep, hlaid, hv9, ho9⟩ := KEYD.out _ hX15 _ hO15 _ _ hO9 hg9
                refine hl_one 19 (by kernel_rfl) (hs_skip rfl (by rfl) (run_store1 22 _ _ rfl rfl (v := v9) rfl hc9 hf9 hv9 ho9 sitems) trivial ?_)
                simp only [Act.put, List.setIfInBounds_toArray, List.set_cons_succ, List.set_cons_zero]
                refine hl_done (by kernel_rfl) ?_
                go_wp2
                go_ret
                exact ⟨rfl, hkeep, hlaid⟩
              · refine hs_val rfl (by rfl) (run_load1 22 _ rfl rfl (HC3.out _ hX14) _ Try.underlying22 rfl) trivial ?_
                simp only [Act.put, List.setIfInBounds_toArray, List.set_cons_succ, List.set_cons_zero]
                refine hl_take 15 rfl (by kernel_rfl) (by rfl) (fun w' hw' => op_slice_rest 22 42 _ _ rfl Try.underlying22 73 s42 rfl (T1.length + 1) rfl D1.length d HLL.out HCD.out A' HA.out) trivial (fun _ _ _ h => h) ?_
                simp only [Act.put, List.setIfInBounds_toArray, List.set_cons_succ, List.set_cons_zero]
                refine hl_one 8 (by kernel_rfl) (hs_append rfl (by rfl) x0.heap.size _ _ 22 42 rfl Try.underlying22 Item.zero 136 info42 (by decide) _ [] T1 rfl rfl hO14 (HRT.out _ hX14) hbig1 hX14.size (fun v19 X19 hO19' hg19 => ⟨trivial, ?_⟩))
                simp only [Act.put, List.setIfInBounds_toArray, List.set_cons_succ, List.set_cons_zero]
                obtain ⟨hX19, hO19⟩ := KEYT.out _ hX14 _ hO14 _ _ hO19' hg19
                refine hl_one 16 (by kernel_rfl) (hs_append rfl (by rfl) x0.heap.size _ _ 22 42 rfl Try.underlying22 Item.zero 136 info42 (by decide) v19 T1 D1 rfl rfl hO19 (HRD.out _ hX19) hbig2 hX19.size (fun v9 X9 hO9 hg9 => ⟨trivial, ?_⟩))
                simp only [Act.put, List.setIfInBounds_toArray, List.set_cons_succ, List.set_cons_zero]
                refine hl_take (v := ?_) 17 rfl (by kernel_rfl) (by rfl) ?_ trivial (fun _ _ _ h => h) ?_
                rotate_left
                · (intro w' hw'; go_simp; try with_reducible rfl)
                simp only [Act.put, List.setIfInBounds_toArray, List.set_cons_succ, List.set_cons_zero]
                refine hl_take 18 rfl (by kernel_rfl) (by rfl) (fun w' hw' => run_faddr 65 _ 0 rfl rfl _ Try.underlying65 0 _ rfl rfl 0 sitems) trivial (fun _ _ _ h => h) ?_
                simp only [Act.put, List.setIfInBounds_toArray, List.set_cons_succ, List.set_cons_zero]
                obtain ⟨hc9, hf9, hkeep, hlaid, hv9, ho9⟩ := KEYD.out _ hX19 _ hO19 _ _ hO9 hg9
                refine hl_one 19 (by kernel_rfl) (hs_skip rfl (by rfl) (run_store1 22 _ _ rfl rfl (v := v9) rfl hc9 hf9 hv9 ho9 sitems) trivial ?_)
                simp only [Act.put, List.setIfInBounds_toArray, List.set_cons_succ, List.set_cons_zero]
                refine hl_done (by kernel_rfl) ?_
                go_wp2
                go_ret
                exact ⟨rfl, hkeep, hlaid⟩
            · refine hs_val rfl (by rfl) (run_load1 22 _ rfl rfl (HC3.out _ hX0) _ Try.underlying22 rfl) trivial ?_
              simp only [Act.put, List.setIfInBounds_toArray, List.set_cons_succ, List.set_cons_zero]
              refine hl_take 15 rfl (by kernel_rfl) (by rfl) (fun w' hw' => op_slice_rest 22 42 _ _ rfl Try.underlying22 73 s42 rfl (T1.length + 1) rfl D1.length d HLL.out HCD.out A' HA.out) trivial (fun _ _ _ h => h) ?_
              simp only [Act.put, List.setIfInBounds_toArray, List.set_cons_succ, List.set_cons_zero]
              refine hl_one 1 (by kernel_rfl) (hs_val rfl (by rfl) (run_row0 22 42 rfl Try.underlying22 73 s42) trivial ?_)
              simp only [Act.put, List.setIfInBounds_toArray, List.set_cons_succ, List.set_cons_zero]
              obtain ⟨hX22, hO22⟩ := ROW0.out _ hX0
              generalize (x0.drew).alloc (.cells #[] 42) = X22 at hX22 hO22 ⊢
              refine hl_one 8 (by kernel_rfl) (hs_append rfl (by rfl) x0.heap.size _ _ 22 42 rfl Try.underlying22 Item.zero 136 info42 (by decide) _ [] T1 rfl rfl hO22 (HRT.out _ hX22) hbig1 hX22.size (fun v23 X23 hO23' hg23 => ⟨trivial, ?_⟩))
              simp only [Act.put, List.setIfInBounds_toArray, List.set_cons_succ, List.set_cons_zero]
              obtain ⟨hX23, hO23⟩ := KEYT.out _ hX22 _ hO22 _ _ hO23' hg23
              refine hl_one 16 (by kernel_rfl) (hs_append rfl (by rfl) x0.heap.size _ _ 22 42 rfl Try.underlying22 Item.zero 136 info42 (by decide) v23 T1 D1 rfl rfl hO23 (HRD.out _ hX23) hbig2 hX23.size (fun v9 X9 hO9 hg9 => ⟨trivial, ?_⟩))
              simp only [Act.put, List.setIfInBounds_toArray, List.set_cons_succ, List.set_cons_zero]
              refine hl_take (v := ?_) 17 rfl (by kernel_rfl) (by rfl) ?_ trivial (fun _ _ _ h => h) ?_
              rotate_left
              · (intro w' hw'; go_simp; try with_reducible rfl)
              simp only [Act.put, List.setIfInBounds_toArray, List.set_cons_succ, List.set_cons_zero]
              refine hl_take 18 rfl (by kernel_rfl) (by rfl) (fun w' hw' => run_faddr 65 _ 0 rfl rfl _ Try.underlying65 0 _ rfl rfl 0 sitems) trivial (fun _ _ _ h => h) ?_
              simp only [Act.put, List.setIfInBounds_toArray, List.set_cons_succ, List.set_cons_zero]
              obtain ⟨hc9, hf9, hkeep, hlaid, hv9, ho9⟩ := KEYD.out _ hX23 _ hO23 _ _ hO9 hg9
              refine hl_one 19 (by kernel_rfl) (hs_skip rfl (by rfl) (run_store1 22 _ _ rfl rfl (v := v9) rfl hc9 hf9 hv9 ho9 sitems) trivial ?_)
              simp only [Act.put, List.setIfInBounds_toArray, List.set_cons_succ, List.set_cons_zero]
              refine hl_done (by kernel_rfl) ?_
              go_wp2
              go_ret
              exact ⟨rfl, hkeep, hlaid⟩
          · refine hs_val rfl (by rfl) (run_load1 22 _ rfl rfl (HC3.out _ hX0) _ Try.underlying22 rfl) trivial ?_
            simp only [Act.put, List.setIfInBounds_toArray, List.set_cons_succ, List.set_cons_zero]
            refine hl_take 15 rfl (by kernel_rfl) (by rfl) (fun w' hw' => op_slice_rest 22 42 _ _ rfl Try.underlying22 73 s42 rfl (T1.length + 1) rfl D1.length d HLL.out HCD.out A' HA.out) trivial (fun _ _ _ h => h) ?_
            simp only [Act.put, List.setIfInBounds_toArray, List.set_cons_succ, List.set_cons_zero]
            refine hl_two 1 5 (by kernel_rfl) ?_ ?_
            · refine hs_val rfl (by rfl) (run_row0 22 42 rfl Try.underlying22 73 s42) trivial ?_
              simp only [Act.put, List.setIfInBounds_toArray, List.set_cons_succ, List.set_cons_zero]
              obtain ⟨hX26, hO26⟩ := ROW0.out _ hX0
              generalize (x0.drew).alloc (.cells #[] 42) = X26 at hX26 hO26 ⊢
              refine hl_one 5 (by kernel_rfl) (hs_val rfl (by rfl) (run_load1 22 _ rfl rfl (HC3.out _ hX26) _ Try.underlying22 rfl) trivial ?_)
              simp only [Act.put, List.setIfInBounds_toArray, List.set_cons_succ, List.set_cons_zero]
              refine hl_take 7 rfl (by kernel_rfl) (by rfl) (fun w' hw' => op_slice_to 22 42 _ _ rfl Try.underlying22 73 s42 rfl T1.length rfl hcT HSP.out) trivial (fun _ _ _ h => h) ?_
              simp only [Act.put, List.setIfInBounds_toArray, List.set_cons_succ, List.set_cons_zero]
              refine hl_one 8 (by kernel_rfl) (hs_append rfl (by rfl) x0.heap.size _ _ 22 42 rfl Try.underlying22 Item.zero 136 info42 (by decide) _ [] T1 rfl rfl hO26 (HRT.out _ hX26) hbig1 hX26.size (fun v28 X28 hO28' hg28 => ⟨trivial, ?_⟩))
              simp only [Act.put, List.setIfInBounds_toArray, List.set_cons_succ, List.set_cons_zero]
              obtain ⟨hX28, hO28⟩ := KEYT.out _ hX26 _ hO26 _ _ hO28' hg28
              refine hl_one 16 (by kernel_rfl) (hs_append rfl (by rfl) x0.heap.size _ _ 22 42 rfl Try.underlying22 Item.zero 136 info42 (by decide) v28 T1 D1 rfl rfl hO28 (HRD.out _ hX28) hbig2 hX28.size (fun v9 X9 hO9 hg9 => ⟨trivial, ?_⟩))
              simp only [Act.put, List.setIfInBounds_toArray, List.set_cons_succ, List.set_cons_zero]
              refine hl_take (v := ?_) 17 rfl (by kernel_rfl) (by rfl) ?_ trivial (fun _ _ _ h => h) ?_
              rotate_left
              · (intro w' hw'; go_simp; try with_reducible rfl)
              simp only [Act.put, List.setIfInBounds_toArray, List.set_cons_succ, List.set_cons_zero]
              refine hl_take 18 rfl (by kernel_rfl) (by rfl) (fun w' hw' => run_faddr 65 _ 0 rfl rfl _ Try.underlying65 0 _ rfl rfl 0 sitems) trivial (fun _ _ _ h => h) ?_
              simp only [Act.put, List.setIfInBounds_toArray, List.set_cons_succ, List.set_cons_zero]
              obtain ⟨hc9, hf9, hkeep, hlaid, hv9, ho9⟩ := KEYD.out _ hX28 _ hO28 _ _ hO9 hg9
              refine hl_one 19 (by kernel_rfl) (hs_skip rfl (by rfl) (run_store1 22 _ _ rfl rfl (v := v9) rfl hc9 hf9 hv9 ho9 sitems) trivial ?_)
              simp only [Act.put, List.setIfInBounds_toArray, List.set_cons_succ, List.set_cons_zero]
              refine hl_done (by kernel_rfl) ?_
              go_wp2
              go_ret
              exact ⟨rfl, hkeep, hlaid⟩
            · refine hs_val rfl (by rfl) (run_load1 22 _ rfl rfl (HC3.out _ hX0) _ Try.underlying22 rfl) trivial ?_
              simp only [Act.put, List.setIfInBounds_toArray, List.set_cons_succ, List.set_cons_zero]
              refine hl_take 7 rfl (by kernel_rfl) (by rfl) (fun w' hw' => op_slice_to 22 42 _ _ rfl Try.underlying22 73 s42 rfl T1.length rfl hcT HSP.out) trivial (fun _ _ _ h => h) ?_
              simp only [Act.put, List.setIfInBounds_toArray, List.set_cons_succ, List.set_cons_zero]
              refine hl_one 1 (by kernel_rfl) (hs_val rfl (by rfl) (run_row0 22 42 rfl Try.underlying22 73 s42) trivial ?_)
              simp only [Act.put, List.setIfInBounds_toArray, List.set_cons_succ, List.set_cons_zero]
              obtain ⟨hX31, hO31⟩ := ROW0.out _ hX0
              generalize (x0.drew).alloc (.cells #[] 42) = X31 at hX31 hO31 ⊢
              refine hl_one 8 (by kernel_rfl) (hs_append rfl (by rfl) x0.heap.size _ _ 22 42 rfl Try.underlying22 Item.zero 136 info42 (by decide) _ [] T1 rfl rfl hO31 (HRT.out _ hX31) hbig1 hX31.size (fun v32 X32 hO32' hg32 => ⟨trivial, ?_⟩))
              simp only [Act.put, List.setIfInBounds_toArray, List.set_cons_succ, List.set_cons_zero]
              obtain ⟨hX32, hO32⟩ := KEYT.out _ hX31 _ hO31 _ _ hO32' hg32
              refine hl_one 16 (by kernel_rfl) (hs_append rfl (by rfl) x0.heap.size _ _ 22 42 rfl Try.underlying22 Item.zero 136 info42 (by decide) v32 T1 D1 rfl rfl hO32 (HRD.out _ hX32) hbig2 hX32.size (fun v9 X9 hO9 hg9 => ⟨trivial, ?_⟩))
              simp only [Act.put, List.setIfInBounds_toArray, List.set_cons_succ, List.set_cons_zero]
              refine hl_take (v := ?_) 17 rfl (by kernel_rfl) (by rfl) ?_ trivial (fun _ _ _ h => h) ?_
              rotate_left
              · (intro w' hw'; go_simp; try with_reducible rfl)
              simp only [Act.put, List.setIfInBounds_toArray, List.set_cons_succ, List.set_cons_zero]
              refine hl_take 18 rfl (by kernel_rfl) (by rfl) (fun w' hw' => run_faddr 65 _ 0 rfl rfl _ Try.underlying65 0 _ rfl rfl 0 sitems) trivial (fun _ _ _ h => h) ?_
              simp only [Act.put, List.setIfInBounds_toArray, List.set_cons_succ, List.set_cons_zero]
              obtain ⟨hc9, hf9, hkeep, hlaid, hv9, ho9⟩ := KEYD.out _ hX32 _ hO32 _ _ hO9 hg9
              refine hl_one 19 (by kernel_rfl) (hs_skip rfl (by rfl) (run_store1 22 _ _ rfl rfl (v := v9) rfl hc9 hf9 hv9 ho9 sitems) trivial ?_)
              simp only [Act.put, List.setIfInBounds_toArray, List.set_cons_succ, List.set_cons_zero]
              refine hl_done (by kernel_rfl) ?_
              go_wp2
              go_ret
              exact ⟨rfl, hkeep, hlaid⟩
        · rw [if_neg hz] at hend
          subst hend
          go_enter Try.func36, Try.ntmps36
          go_wp2_with (first
            | (refine st_val rfl (run_box 35 _ k rfl rfl) ?_; rw [HW.out])
            | (refine st_val rfl (load_key rfl rfl k ?_) ?_; (with_reducible exact hk))
            | (go_at_call 51; refine HPL.out.mono ?_; rintro e u ⟨rfl, hu⟩; have hcu := HC2.out u hu; have hpu := HP2.out u hu; obtain ⟨hc3, hf3, hr2, hc3b, hcall⟩ := KEY.out u hu; have HCALL := Lib.hid hcall; clear hcall)
            | (refine st_val rfl (elem_item rfl rfl rfl hlt) ?_)
            | (refine st_val rfl (run_faddr 42 _ 2 rfl rfl _ Try.underlying42 33 _ rfl rfl 3 s38) ?_)
            | (refine st_val rfl (load_place rfl rfl q ?_) ?_; (with_reducible exact hpu))
            | (refine st_val rfl (run_alloc 38 Place.zero zero38 rfl) ?_)
            | (refine st_skip rfl (run_store_new 38 _ _ rfl rfl rfl q Place.zero rfl 38 s38) ?_)
            | (refine st_skip rfl (run_store1 3 _ _ rfl rfl (v := .int .i64 (wrap64 (q.refs + n))) (u := .int .i64 q.refs) rfl ?_ ?_ rfl rfl sint) ?_; (with_reducible exact hc3); (with_reducible exact hf3); rw [HST.out])
            | (refine st_val rfl (load_place rfl rfl q2 ?_) ?_; (with_reducible exact hr2))
            | (go_at_call 55; refine HCALL.out.mono ?_; rintro e w3 ⟨rfl, hkeep, hlaid⟩))
          go_ret
          exact ⟨rfl, hkeep, hlaid⟩
      · have hbear : ixBears q n = false := by simp [ixBears, ixFrom, h2]
        have h3 : wrap64 (2147483647 - q.refs) < n := by omega
        rw [hbear] at hend
        simp only [Bool.false_eq_true, if_false] at hend
        subst hend
        clear hbear h2
        go_enter Try.func36, Try.ntmps36
        go_wp2_with (first
          | (refine st_val rfl (run_box 35 _ k rfl rfl) ?_; rw [HW.out])
          | (refine st_val rfl (load_key rfl rfl k ?_) ?_; (with_reducible exact hk))
          | (go_at_call 51; refine HPL.out.mono ?_; rintro e u ⟨rfl, hu⟩; have hcu := HC2.out u hu; have hpu := HP2.out u hu; obtain ⟨hc3, hf3, hr2, hc3b, hcall⟩ := KEY.out u hu; have HCALL := Lib.hid hcall; clear hcall)
          | (refine st_val rfl (elem_item rfl rfl rfl hlt) ?_)
          | (refine st_val rfl (run_faddr 42 _ 2 rfl rfl _ Try.underlying42 33 _ rfl rfl 3 s38) ?_)
          | (refine st_val rfl (load_place rfl rfl q ?_) ?_; (with_reducible exact hpu))
          | (refine st_val rfl (run_alloc 38 Place.zero zero38 rfl) ?_)
          | (refine st_skip rfl (run_store_new 38 _ _ rfl rfl rfl q Place.zero rfl 38 s38) ?_)
          | (refine st_skip rfl (run_store1 3 _ _ rfl rfl (v := .int .i64 (wrap64 (q.refs + n))) (u := .int .i64 q.refs) rfl ?_ ?_ rfl rfl sint) ?_; (with_reducible exact hc3); (with_reducible exact hf3); rw [HST.out])
          | (refine st_val rfl (load_place rfl rfl q2 ?_) ?_; (with_reducible exact hr2))
          | (go_at_call 55; refine HCALL.out.mono ?_; rintro e w3 ⟨rfl, hkeep, hlaid⟩))
        go_ret
        exact ⟨rfl, (HBACK.out _ (fresh_alloc hu _)).1, (HBACK.out _ (fresh_alloc hu _)).2⟩
    · have hbear : ixBears q n = false := by simp [ixBears, ixFrom, h1]
      have h3 : n < wrap64 (-q.refs) := by omega
      rw [hbear] at hend
      simp only [Bool.false_eq_true, if_false] at hend
      subst hend
      clear hbear h1
      by_cases h4 : n ≤ wrap64 (2147483647 - q.refs)
      · go_enter Try.func36, Try.ntmps36
        go_wp2_with (first
          | (refine st_val rfl (run_box 35 _ k rfl rfl) ?_; rw [HW.out])
          | (refine st_val rfl (load_key rfl rfl k ?_) ?_; (with_reducible exact hk))
          | (go_at_call 51; refine HPL.out.mono ?_; rintro e u ⟨rfl, hu⟩; have hcu := HC2.out u hu; have hpu := HP2.out u hu; obtain ⟨hc3, hf3, hr2, hc3b, hcall⟩ := KEY.out u hu; have HCALL := Lib.hid hcall; clear hcall)
          | (refine st_val rfl (elem_item rfl rfl rfl hlt) ?_)
          | (refine st_val rfl (run_faddr 42 _ 2 rfl rfl _ Try.underlying42 33 _ rfl rfl 3 s38) ?_)
          | (refine st_val rfl (load_place rfl rfl q ?_) ?_; (with_reducible exact hpu))
          | (refine st_val rfl (run_alloc 38 Place.zero zero38 rfl) ?_)
          | (refine st_skip rfl (run_store_new 38 _ _ rfl rfl rfl q Place.zero rfl 38 s38) ?_)
          | (refine st_skip rfl (run_store1 3 _ _ rfl rfl (v := .int .i64 (wrap64 (q.refs + n))) (u := .int .i64 q.refs) rfl ?_ ?_ rfl rfl sint) ?_; (with_reducible exact hc3); (with_reducible exact hf3); rw [HST.out])
          | (refine st_val rfl (load_place rfl rfl q2 ?_) ?_; (with_reducible exact hr2))
          | (go_at_call 55; refine HCALL.out.mono ?_; rintro e w3 ⟨rfl, hkeep, hlaid⟩))
        go_ret
        exact ⟨rfl, (HBACK.out _ (fresh_alloc hu _)).1, (HBACK.out _ (fresh_alloc hu _)).2⟩
      · have h5 : wrap64 (2147483647 - q.refs) < n := by omega
        clear h4
        go_enter Try.func36, Try.ntmps36
        go_wp2_with (first
          | (refine st_val rfl (run_box 35 _ k rfl rfl) ?_; rw [HW.out])
          | (refine st_val rfl (load_key rfl rfl k ?_) ?_; (with_reducible exact hk))
          | (go_at_call 51; refine HPL.out.mono ?_; rintro e u ⟨rfl, hu⟩; have hcu := HC2.out u hu; have hpu := HP2.out u hu; obtain ⟨hc3, hf3, hr2, hc3b, hcall⟩ := KEY.out u hu; have HCALL := Lib.hid hcall; clear hcall)
          | (refine st_val rfl (elem_item rfl rfl rfl hlt) ?_)
          | (refine st_val rfl (run_faddr 42 _ 2 rfl rfl _ Try.underlying42 33 _ rfl rfl 3 s38) ?_)
          | (refine st_val rfl (load_place rfl rfl q ?_) ?_; (with_reducible exact hpu))
          | (refine st_val rfl (run_alloc 38 Place.zero zero38 rfl) ?_)
          | (refine st_skip rfl (run_store_new 38 _ _ rfl rfl rfl q Place.zero rfl 38 s38) ?_)
          | (refine st_skip rfl (run_store1 3 _ _ rfl rfl (v := .int .i64 (wrap64 (q.refs + n))) (u := .int .i64 q.refs) rfl ?_ ?_ rfl rfl sint) ?_; (with_reducible exact hc3); (with_reducible exact hf3); rw [HST.out])
          | (refine st_val rfl (load_place rfl rfl q2 ?_) ?_; (with_reducible exact hr2))
          | (go_at_call 55; refine HCALL.out.mono ?_; rintro e w3 ⟨rfl, hkeep, hlaid⟩))
        go_ret
        exact ⟨rfl, (HBACK.out _ (fresh_alloc hu _)).1, (HBACK.out _ (fresh_alloc hu _)).2⟩
end Go.Pb
