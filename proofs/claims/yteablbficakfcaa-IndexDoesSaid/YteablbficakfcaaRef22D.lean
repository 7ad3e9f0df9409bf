/- The document's answer for the index: set. -/
import Derived.Test.YteablbficakfcaaRef22C
import Derived.Test.YteablbficakfcaaOwnMore
set_option linter.unusedVariables false
set_option linter.unusedSimpArgs false
set_option linter.unusedSectionVars false
namespace Go.Pb
open Go.RowKit Go.Proofs Go.BigFrame

theorem cell_off {w : World} {b o o' : Nat} {v : Option Value} (h : w.cell? ⟨b, o, none⟩ = v) (e : o = o') : w.cell? ⟨b, o', none⟩ = v := by subst e; exact h
/-- What is told by a row of one's own that was laid into the document's index. -/
theorem ListAt.laid {w : World} {g base : Nat} {v : Value} {L' : List Item} {u : Value} (hg : w.heap[g]? = some (.cells #[u] 65)) (H : Owns w base 42 v L') (hb : g < base) : ListAt (w.setCell ⟨g, 0, none⟩ v) g L' := by
  have hne : ∀ i, v.ownBlock = some i → i ≠ g := fun i hi e => by have := (H.block i hi).1; omega
  have H' : Owns (w.setCell ⟨g, 0, none⟩ v) base 42 v L' := H.keep (Keep.setCell w ⟨g, 0, none⟩ v) hne
  have hh := heap_setCell_same hg 0 v
  obtain ⟨A, c, rfl, hR, hlc⟩ := H'.shape
  refine ⟨A, c, hh, hR, fun a ha => ?_, hlc⟩
  subst ha
  obtain ⟨_, H'⟩ := H'
  rcases H' with ⟨H', _⟩ | ⟨g', cap', cur, H', _⟩
  · simp at H'
  · simp only [Value.slice.injEq, Option.some.injEq] at H'
    obtain ⟨rfl, _⟩ := H'
    exact ⟨Nat.lt_of_lt_of_le hb (H.block g' rfl).1, rfl⟩

set_option maxHeartbeats 800000 in
theorem set22_ok (g : Nat) (L : List Item) (n : Nat) (p : Place) (w : World) (h : ListAt w g L) (hn : n < L.length) (hL : L.length ≤ 1000000) : Calls Try.prog 55 #[.pointer (some ⟨g, 0, none⟩), .int .i64 (n : Int), agg p] w fun e w' =>
    e = .returned (.tuple #[]) ∧ Keep (fun k => k = g) w w' ∧ ListAt w' g (L.set n { L[n] with place := p }) := by
  obtain ⟨A, c, hg, hR, hne⟩ := h
  have hglt : g < w.heap.size := (Array.getElem?_eq_some_iff.1 hg).1
  generalize hW : w.alloc (.cells (Enc.enc p).toArray 38) = W
  have hb : Below w.heap.size w W := by subst hW; exact fresh_alloc (fresh_refl w) _
  have hW0 : W.heap.size = w.heap.size + 1 := by subst hW; simp
  have hp : W.rangeAt w.heap.size 0 (Enc.enc p) := by subst hW; exact range_block (heap_alloc_new w _)
  have hgW : W.heap[g]? = some (.cells #[.slice A L.length c] 65) := by rw [hb.block g hglt]; exact hg
  have hb1 : Below W.heap.size W (W.alloc (.cells #[] 42)) := fresh_alloc (fresh_refl W) _
  have hc1 : (W.alloc (.cells #[] 42)).cell? ⟨g, 0, none⟩ = some (.slice A L.length c) := range_block (by rw [hb1.block g (by omega)]; exact hgW) 0 _ rfl
  have hR1 := (hR.fresh hb).fresh hb1
  have hO1 : Owns (W.alloc (.cells #[] 42)) W.heap.size 42 (.slice (some ⟨W.heap.size, 0, none⟩) 0 0) ([] : List Item) := Owns.row0 W W.heap.size _ (Nat.le_refl _)
  have hs1 : W.heap.size ≤ (W.alloc (.cells #[] 42)).heap.size := by simp
  have hbig : (([] : List Item).length + L.length) * 136 ≤ 140737488355328 := by simp; omega
  have hLne : L ≠ [] := by intro e; subst e; simp at hn
  have hlen4 : 33 + (Enc.enc p).length ≤ Enc.sz Item := by rw [Enc.len]; decide
  have key : ∀ v1 w1, Owns w1 W.heap.size 42 v1 ([] ++ L) → (W.alloc (.cells #[] 42)).grownBy w1 (some W.heap.size) →
      ∃ g1 cap1, v1 = .slice (some ⟨g1, 0, none⟩) L.length cap1 ∧ w1.rangeAt w.heap.size 0 (Enc.enc p) ∧ w1.there g1 (0 + n * 73 + 33) (Enc.sz Place) ∧
        (w1.setCells g1 (0 + n * 73 + 33) (Enc.enc p)).cell? ⟨g, 0, none⟩ = some (.slice A L.length c) ∧ (w1.setCells g1 (0 + n * 73 + 33) (Enc.enc p)).frozen? ⟨g, 0, none⟩ = false ∧
        ListAt ((w1.setCells g1 (0 + n * 73 + 33) (Enc.enc p)).setCell ⟨g, 0, none⟩ v1) g (L.set n { L[n] with place := p }) ∧ Keep (fun k => k = g) w ((w1.setCells g1 (0 + n * 73 + 33) (Enc.enc p)).setCell ⟨g, 0, none⟩ v1) := by
    intro v1 w1 hO2 hg3
    rw [List.nil_append] at hO2
    obtain ⟨g1, cap1, rfl, hge1, hlt1, hcap1⟩ := hO2.some' hLne
    have hp2 : w1.rangeAt w.heap.size 0 (Enc.enc p) := range_grown (range_fresh hp hb1) hg3 (by simp; omega)
    have hgw1 : w1.heap[g]? = some (.cells #[.slice A L.length c] 65) := by rw [hg3.block g (by simp; omega) (by simp; omega), hb1.block g (by omega)]; exact hgW
    have hth : w1.there g1 (0 + n * 73 + 33) (Enc.sz Place) := by rw [Nat.zero_add]; exact hO2.there hn 33 4 (by decide)
    have hO3 : Owns (w1.setCells g1 (0 + n * 73 + 33) (Enc.enc p)) W.heap.size 42 (.slice (some ⟨g1, 0, none⟩) L.length cap1) (L.set n { L[n] with place := p }) := by
      rw [Nat.zero_add]
      exact Owns.set hO2 rfl n hn { L[n] with place := p } 33 (Enc.enc p) hlen4 (set_item_place _ _)
    have hk3 := (setCells_eq g1 (Enc.enc p) (0 + n * 73 + 33) w1).1
    have hgw2 : (w1.setCells g1 (0 + n * 73 + 33) (Enc.enc p)).heap[g]? = some (.cells #[.slice A L.length c] 65) := by rw [hk3.block g (Array.getElem?_eq_some_iff.1 hgw1).1 (by simp; omega)]; exact hgw1
    refine ⟨g1, cap1, rfl, hp2, hth, range_block hgw2 0 _ rfl, frozen_of_block hgw2 0, ListAt.laid hgw2 hO3 (show g < W.heap.size by omega), ?_⟩
    have hbw : Below w.heap.size w (w1.setCells g1 (0 + n * 73 + 33) (Enc.enc p)) := fresh_grown (fresh_grown (fresh_trans hb hb1) hg3 (fun k hk => by injection hk with hk; omega)) hk3 (fun k hk => by injection hk with hk; omega)
    exact (Keep.below hbw).trans (Keep.setCell _ ⟨g, 0, none⟩ _)
  have KEY := Lib.hid key
  clear key
  have HW := Lib.hid hW
  clear hW
  have HW0 := Lib.hid hW0
  clear hW0
  have HLNE := Lib.hid hLne
  clear hLne
  go_enter Try.func55, Try.ntmps55
  go_wp2_with (first
    | (refine st_val rfl (run_box 38 _ p rfl rfl) ?_; rw [HW.out])
    | (refine st_val rfl (run_row0 22 42 rfl Try.underlying22 73 s42) ?_)
    | (at_builtin; refine st_append W.heap.size rfl _ _ 22 42 rfl Try.underlying22 Item.zero 136 info42 (by decide) _ [] L rfl rfl hO1 hR1 hbig hs1 (fun v1 w1 hO2 hg2 hat2 => ?_);
       obtain ⟨g1, cap1, rfl, hp2, hth, hc2, hf2, hlaid, hkeep⟩ := KEY.out _ _ hO2 hg2)
    | (refine st_val rfl (load_place rfl rfl p ?_) ?_; (with_reducible exact hp2))
    | (refine st_val rfl (elem_item rfl rfl rfl hn) ?_)
    | (refine st_val rfl (run_faddr 42 _ 2 rfl rfl _ Try.underlying42 33 _ rfl rfl 3 s38) ?_)
    | (refine st_skip rfl (run_store_mid 38 _ _ rfl rfl p rfl ?_ s38) ?_; (with_reducible exact hth); (generalize w1.setCells g1 (0 + n * 73 + 33) (Enc.enc p) = w2 at hc2 hf2 hlaid hkeep ⊢))
    | (refine st_skip rfl (run_store1 22 _ _ rfl rfl (v := .slice (some ⟨g1, 0, none⟩) L.length cap1) rfl ?_ ?_ rfl rfl sitems) ?_; (with_reducible exact hc2); (with_reducible exact hf2)))
  exact bodyPost_end (results_none Try.results55 _ _ _) rfl ⟨rfl, hkeep, hlaid⟩
end Go.Pb
