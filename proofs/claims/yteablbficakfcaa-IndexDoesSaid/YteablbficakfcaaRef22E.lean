/- The document's answer for the index: Add. -/
import Derived.Test.YteablbficakfcaaRef22D
import Derived.Test.YteablbficakfcaaIndexRow
import Derived.Test.YteablbficakfcaaItems
set_option linter.unusedVariables false
set_option linter.unusedSimpArgs false
set_option linter.unusedSectionVars false
namespace Go.Pb
open Go.RowKit Go.Proofs Go.BigFrame

set_option maxRecDepth 100000 in
set_option maxHeartbeats 2000000 in
theorem add22_ok (g : Nat) (L : List Item) (k : Key) (p : Place) (w : World) (h : ListAt w g L) (hL : L.length ≤ 1000000) : Calls Try.prog 32 #[.pointer (some ⟨g, 0, none⟩), agg k, agg p] w fun e w' =>
    e = .returned (.int .i64 (add22 L k p).1) ∧ Keep (fun k => k = g) w w' ∧ ListAt w' g (add22 L k p).2 := by
  have hglt : g < w.heap.size := by obtain ⟨A, c, hg, _⟩ := h; exact (Array.getElem?_eq_some_iff.1 hg).1
  generalize hW : (w.alloc (.cells (Enc.enc k).toArray 35)).alloc (.cells (Enc.enc p).toArray 38) = W
  have hb : Below w.heap.size w W := by subst hW; exact fresh_alloc (fresh_alloc (fresh_refl w) _) _
  have hW0 : W.heap.size = w.heap.size + 2 := by subst hW; simp
  have hk : W.rangeAt w.heap.size 0 (Enc.enc k) := by subst hW; exact range_fresh (range_block (heap_alloc_new w _)) (fresh_alloc (fresh_refl _) _)
  have hp : W.rangeAt (w.heap.size + 1) 0 (Enc.enc p) := by subst hW; exact range_block (heap_alloc2_new _ _ _)
  generalize hW2 : W.alloc (.cells (Enc.enc p).toArray 38) = W2
  have hb2 : Below W.heap.size W W2 := by subst hW2; exact fresh_alloc (fresh_refl W) _
  have hI2 := (h.fresh hb).fresh hb2
  have hk2 := range_fresh hk hb2
  have hp2 := range_fresh hp hb2
  have hbw2 := fresh_trans hb hb2
  have hpl := place22_ok g L k W2 hI2 (by omega)
  by_cases hmay : ixMay p = true
  · cases hat : isAt L k with
    | true =>
      have hend : add22 L k p = (7, L) := by simp [add22, hmay, hat]
      rw [hend]
      rw [hat] at hpl
      have HAT := Lib.hid hat
      clear hat
      have HPL := Lib.hid hpl
      clear hpl
      have HW := Lib.hid hW
      clear hW
      have HW2 := Lib.hid hW2
      clear hW2
      have HMAY := Lib.hid hmay
      clear hmay
      have HW0 := Lib.hid hW0
      clear hW0
      go_enter Try.func32, Try.ntmps32
      go_wp2_with (first
        | (refine st_val rfl (run_box 35 _ k rfl rfl) ?_)
        | (refine st_val rfl (run_box 38 _ p rfl rfl) ?_; rw [HW.out])
        | (refine st_val rfl (load_place rfl rfl p ?_) ?_; (with_reducible exact hp))
        | (go_at_call 50; refine (may22_ok p _).mono ?_; rintro e w' ⟨rfl, rfl⟩; simp only [HMAY.out, HW2.out])
        | (refine st_val rfl (load_key rfl rfl k ?_) ?_; (with_reducible exact hk2))
        | (go_at_call 51; refine HPL.out.mono ?_; rintro e u ⟨rfl, hu⟩))
      go_ret
      exact ⟨rfl, Keep.below (fresh_trans hbw2 hu), hI2.fresh hu⟩
    | false =>
      have hlT : placeOf L k ≤ L.length := by
        exact (List.takeWhile_sublist _).length_le
      have hend : add22 L k p = (0, L.take (placeOf L k) ++ itemOf (k, p) :: L.drop (placeOf L k)) := by simp [add22, hmay, hat, rowAdd]
      rw [hend]
      obtain ⟨A, c, hg, hR, hne, hlc⟩ := hI2
      have hs : L.take (placeOf L k) ++ L.drop (placeOf L k) = L := List.take_append_drop _ _
      have h1 : (L.take (placeOf L k)).length = placeOf L k := by rw [List.length_take]; omega
      have hRT := hR.take (placeOf L k)
      have hRD := hR.drop (placeOf L k) c (by omega) hlc
      generalize L.take (placeOf L k) = T1 at hs h1 hRT ⊢
      generalize L.drop (placeOf L k) = D1 at hs hRD ⊢
      have hLl : L.length = T1.length + D1.length := by rw [← hs, List.length_append]
      rw [← h1] at hRD
      obtain ⟨A', hA'⟩ : ∃ A' : Option Addr, A' = if c = T1.length then A else A.map (·.add (T1.length * 73)) := ⟨_, rfl⟩
      obtain ⟨d, hcd⟩ : ∃ d, c = T1.length + d := ⟨c - T1.length, by omega⟩
      have hRD' : Reads W2 A' D1 := by rw [hA']; exact hRD
      have hspot : ∀ a, A = some a → a.spot = none := fun a ha => (hne a ha).2
      rw [hat, ← h1] at hpl
      have hTb : T1.length ≤ 1000000 := by omega
      have hDb : D1.length ≤ 1000000 := by omega
      have hcT : T1.length ≤ c := by omega
      -- whatever has grown out of W2
      have HC : ∀ w', Below W2.heap.size W2 w' → w'.cell? ⟨g, 0, none⟩ = some (.slice A L.length c) := fun w' hw => range_block (by rw [hw.block g (Array.getElem?_eq_some_iff.1 hg).1]; exact hg) 0 _ rfl
      have HG : ∀ w', Below W2.heap.size W2 w' → w'.heap[g]? = some (.cells #[.slice A L.length c] 65) := fun w' hw => by rw [hw.block g (Array.getElem?_eq_some_iff.1 hg).1]; exact hg
      have hgW2 : g < W2.heap.size := (Array.getElem?_eq_some_iff.1 hg).1
      have key : ∀ u, Below W2.heap.size W2 u → ∀ v1 w1, Owns w1 u.heap.size 42 v1 ([] ++ T1) → (u.alloc (.cells #[] 42)).grownBy w1 (some u.heap.size) →
          Below u.heap.size u w1 ∧ Owns w1 u.heap.size 42 v1 T1 ∧ u.heap.size ≤ w1.heap.size ∧ w1.rangeAt w.heap.size 0 (Enc.enc k) ∧ w1.rangeAt (w.heap.size + 1) 0 (Enc.enc p) := fun u hu v1 w1 hO1 hg1 => by
        rw [List.nil_append] at hO1
        have hbu : Below u.heap.size u w1 := fresh_grown (fresh_alloc (fresh_refl u) _) hg1 (fun k hk => by injection hk with hk; omega)
        exact ⟨hbu, hO1, hbu.size, range_fresh (range_fresh hk2 hu) hbu, range_fresh (range_fresh hp2 hu) hbu⟩
      have key2 : ∀ u w1, Below W2.heap.size W2 u → Below u.heap.size u w1 → ∀ v1, Owns w1 u.heap.size 42 v1 T1 → ∀ v2 w2, Owns w2 u.heap.size 42 v2 (T1 ++ [itemOf (k, p)]) → w1.grownBy w2 v1.ownBlock →
          Below u.heap.size u w2 ∧ w2.cell? ⟨g, 0, none⟩ = some (.slice A L.length c) ∧ Reads w2 A' D1 ∧ u.heap.size ≤ w2.heap.size := fun u w1 hu hb1 v1 hO1 v2 w2 hO2 hg2 => by
        have hb2 : Below u.heap.size u w2 := fresh_own hb1 hO1 hg2 (Nat.le_refl _)
        exact ⟨hb2, HC _ (fresh_trans hu hb2), (hRD'.fresh hu).fresh hb2, hb2.size⟩
      have key3 : ∀ u w2, Below W2.heap.size W2 u → Below u.heap.size u w2 → ∀ v2, Owns w2 u.heap.size 42 v2 (T1 ++ [itemOf (k, p)]) → ∀ v3 w3, Owns w3 u.heap.size 42 v3 ((T1 ++ [itemOf (k, p)]) ++ D1) → w2.grownBy w3 v2.ownBlock →
          w3.cell? ⟨g, 0, none⟩ = some (.slice A L.length c) ∧ w3.frozen? ⟨g, 0, none⟩ = false ∧ Keep (fun k => k = g) w (w3.setCell ⟨g, 0, none⟩ v3) ∧ ListAt (w3.setCell ⟨g, 0, none⟩ v3) g (T1 ++ itemOf (k, p) :: D1) ∧ v3.cells = #[v3] ∧ v3.oneCell' = true := fun u w2 hu hb2 v2 hO2 v3 w3 hO3 hg3 => by
        have hb3 : Below u.heap.size u w3 := fresh_own hb2 hO2 hg3 (Nat.le_refl _)
        have hgg := HG _ (fresh_trans hu hb3)
        have hL3 : (T1 ++ [itemOf (k, p)]) ++ D1 = T1 ++ itemOf (k, p) :: D1 := by simp
        rw [hL3] at hO3
        obtain ⟨A3, c3, rfl, _, _⟩ := hO3.shape
        exact ⟨HC _ (fresh_trans hu hb3), frozen_of_block hgg 0, (Keep.below (fresh_trans (fresh_trans hbw2 hu) hb3)).trans (Keep.setCell _ ⟨g, 0, none⟩ _), ListAt.laid hgg hO3 (by have := hu.size; omega), rfl, rfl⟩
      have hbigT : (([] : List Item).length + T1.length) * 136 ≤ 140737488355328 := by simp; omega
      have hbig1 : (T1.length + 1) * 136 ≤ 140737488355328 := by omega
      have hbigD : ((T1 ++ [itemOf (k, p)]).length + D1.length) * 136 ≤ 140737488355328 := by simp; omega
      have hRT' : ∀ u, Below W2.heap.size W2 u → Reads (u.alloc (.cells #[] 42)) A T1 := fun u hu => (hRT.fresh hu).alloc _
      have HC1 : ∀ u, Below W2.heap.size W2 u → (u.alloc (.cells #[] 42)).cell? ⟨g, 0, none⟩ = some (.slice A L.length c) := fun u hu => HC _ (fresh_alloc hu _)
      clear HG HC hRD hg hR hne hlT hs
      have HLL := Lib.hid hLl
      clear hLl
      have HAT := Lib.hid hat
      clear hat
      have HPL := Lib.hid hpl
      clear hpl
      have HW := Lib.hid hW
      clear hW
      have HW2 := Lib.hid hW2
      clear hW2
      have HMAY := Lib.hid hmay
      clear hmay
      have HW0 := Lib.hid hW0
      clear hW0
      have H1 := Lib.hid h1
      clear h1
      have HA := Lib.hid hA'
      clear hA'
      have HCD := Lib.hid hcd
      clear hcd
      have HSP := Lib.hid hspot
      clear hspot
      have KEY := Lib.hid key
      clear key
      have KEY2 := Lib.hid key2
      clear key2
      have KEY3 := Lib.hid key3
      clear key3
      have HRT := Lib.hid hRT'
      clear hRT'
      have HC2 := Lib.hid HC1
      clear HC1
      go_enter Try.func32, Try.ntmps32
      go_wp2_with (first
        | (refine st_val rfl (run_box 35 _ k rfl rfl) ?_)
        | (refine st_val rfl (run_box 38 _ p rfl rfl) ?_; rw [HW.out])
        | (refine st_val rfl (load_place rfl rfl p ?_) ?_; (with_reducible first | exact hp | exact hp3))
        | (go_at_call 50; refine (may22_ok p _).mono ?_; rintro e w' ⟨rfl, rfl⟩; simp only [HMAY.out, HW2.out])
        | (refine st_val rfl (load_key rfl rfl k ?_) ?_; (with_reducible first | exact hk2 | exact hk3))
        | (go_at_call 51; refine HPL.out.mono ?_; rintro e u ⟨rfl, hu⟩; have hcu := HC2.out u hu)
        | (refine st_val rfl (run_row0 22 42 rfl Try.underlying22 73 s42) ?_)
        | (refine st_val rfl (op_slice_to 22 42 _ _ rfl Try.underlying22 73 s42 rfl T1.length rfl hcT HSP.out) ?_)
        | (refine st_val rfl (op_slice_rest 22 42 _ _ rfl Try.underlying22 73 s42 rfl T1.length rfl D1.length d HLL.out HCD.out A' HA.out) ?_)
        | (refine st_val rfl (build_item k p rfl rfl rfl rfl) ?_)
        | (refine st_val rfl (run_row1 22 42 _ rfl Try.underlying22 Item.zero (itemOf (k, p)) 136 info42 rfl (by decide)) ?_)
        | (at_builtin; refine st_append u.heap.size rfl _ _ 22 42 rfl Try.underlying22 Item.zero 136 info42 (by decide) _ [] T1 rfl rfl ?_ ?_ hbigT ?_ (fun v1 w1 hO1 hg1 hat1 => ?_); (exact Owns.row0 u u.heap.size _ (Nat.le_refl _)); (exact HRT.out u hu); (simp); obtain ⟨hb1, hO1', hs1, hk3, hp3⟩ := KEY.out u hu v1 w1 hO1 hg1)
        | (at_builtin; refine st_push u.heap.size rfl _ _ 22 42 rfl Try.underlying22 Item.zero 136 info42 (by decide) v1 T1 (itemOf (k, p)) rfl rfl ?_ hbig1 ?_ (fun v2 w2 hO2 hg2 hv2 => ?_); (with_reducible exact hO1'); (with_reducible exact hs1); obtain ⟨hb2', hc2, hRD2, hs2⟩ := KEY2.out u w1 hu hb1 v1 hO1' v2 w2 hO2 hg2)
        | (at_builtin; refine st_append u.heap.size rfl _ _ 22 42 rfl Try.underlying22 Item.zero 136 info42 (by decide) v2 (T1 ++ [itemOf (k, p)]) D1 rfl rfl ?_ ?_ hbigD ?_ (fun v3 w3 hO3 hg3 hat3 => ?_); (with_reducible exact hO2); (with_reducible exact hRD2); (with_reducible exact hs2); obtain ⟨hc3, hf3, hkeep, hlaid, hv3, ho3⟩ := KEY3.out u w2 hu hb2' v2 hO2 v3 w3 hO3 hg3)
        | (refine st_skip rfl (run_store1 22 _ _ rfl rfl (v := v3) (u := .slice A L.length c) rfl ?_ ?_ ?_ ?_ sitems) ?_; (with_reducible exact hc3); (with_reducible exact hf3); (with_reducible exact hv3); (with_reducible exact ho3)))
      go_ret
      exact ⟨rfl, hkeep, hlaid⟩
  · have hend : add22 L k p = (2, L) := by simp [add22, hmay]
    rw [hend]
    have hmay' : ixMay p = false := by simpa using hmay
    have HPL := Lib.hid hpl
    clear hpl
    have HW := Lib.hid hW
    clear hW
    have HW2 := Lib.hid hW2
    clear hW2
    have HMAY := Lib.hid hmay'
    clear hmay'
    have HW0 := Lib.hid hW0
    clear hW0
    clear hmay
    go_enter Try.func32, Try.ntmps32
    go_wp2_with (first
      | (refine st_val rfl (run_box 35 _ k rfl rfl) ?_)
      | (refine st_val rfl (run_box 38 _ p rfl rfl) ?_; rw [HW.out])
      | (refine st_val rfl (load_place rfl rfl p ?_) ?_; (with_reducible exact hp))
      | (go_at_call 50; refine (may22_ok p _).mono ?_; rintro e w' ⟨rfl, rfl⟩; simp only [HMAY.out, HW2.out]))
    go_ret
    exact ⟨rfl, Keep.below hbw2, hI2⟩
end Go.Pb
