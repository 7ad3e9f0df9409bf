/- The index of extents: Items, all places in the order of their keys. -/
import Derived.Test.YteablbficakfcaaIndexB
import Derived.Test.YteablbficakfcaaItemCmp
import Derived.Test.YteablbficakfcaaSortW
import Derived.Test.YteablbficakfcaaFill
import Derived.Test.YteablbficakfcaaRow
set_option linter.unusedVariables false
set_option linter.unusedSimpArgs false
set_option linter.unusedSectionVars false
namespace Go.Pb
open Go.RowKit Go.Proofs Go.BigFrame

def itemOf (p : Key × Place) : Item := { Item.zero with kind := 1, key := p.1, place := p.2 }
theorem build_item {o : Oper} {ρ : Operand → Value} {w : World} {x y : Operand} (k : Key) (p : Place) (ho : o.op = .build 42 #[(0, .const (.int .u8 1)), (1, x), (2, y)]) (h0 : ρ (.const (.int .u8 1)) = .int .u8 1) (hx : ρ x = agg k) (hy : ρ y = agg p) :
    (execOp ρ o).run Try.prog w = .ok (.value (agg (itemOf (k, p)))) w :=
  run_build _ _ ho _ Try.underlying42 Item.zero _ zero42 _ (places42 _ Try.underlying42) (by
    rw [show ((#[(0, Operand.const (.int .u8 1)), (1, x), (2, y)].map fun (p : Nat × Operand) => (p.1, ρ p.2)).toList) = [(0, .int .u8 1), (1, agg k), (2, agg p)] by simp [h0, hx, hy]]
    rw [fill_enc _ Item.zero _ 0 0 1 _ [byteV 1] _ rfl rfl rfl (by decide) (set_item_kind _ _), fill_enc _ _ _ 1 1 32 _ (Enc.enc k) _ rfl rfl (Enc.len k) (by decide) (set_item_key _ _), fill_enc _ _ _ 2 33 4 _ (Enc.enc p) _ rfl rfl rfl (by decide) (set_item_place _ _), fill_nil]
    rfl)

/-- The items so far and those to come are all. -/
def ItemsSo (m left : List (Key × Place)) (l : List Item) : Prop := (l ++ left.map itemOf).Perm (m.map itemOf) ∧ Apart left
theorem ItemsSo.start {m : List (Key × Place)} (h : Apart m) : ItemsSo m m [] := ⟨List.Perm.refl _, h⟩
theorem ItemsSo.step {m left : List (Key × Place)} {l : List Item} (h : ItemsSo m left l) {x : Key} {p : Place} (hm : (x, p) ∈ left) : ItemsSo m (del left x) (l ++ [itemOf (x, p)]) := by
  refine ⟨?_, del_apart h.2 x⟩
  refine List.Perm.trans ?_ h.1
  rw [List.append_assoc]
  refine List.Perm.append_left l ?_
  exact (((perm_del h.2 hm).map itemOf).symm)
theorem ItemsSo.len {m left : List (Key × Place)} {l : List Item} (h : ItemsSo m left l) : l.length + left.length = m.length := by
  have := h.1.length_eq
  simpa using this

set_option maxRecDepth 8000 in
set_option maxHeartbeats 2000000 in
/-- Items of an index: all of them, in some order, lie in a row of its own when it comes to the sort. -/
theorem items_ok (SORT : ∀ (w : World) (base : Nat) (v : Value) (l : List Item), Owns w base 42 v l → l.length ≤ 1000000000 →
      Calls Try.prog 47 #[v, .func (.func 48) #[] #[]] w fun e w' => e = .returned (.tuple #[]) ∧ ∃ l', l'.Perm l ∧ l'.Pairwise (fun a b => klt b.key a.key = false) ∧ Owns w' base 42 v l' ∧ Keep (fun k => some k = v.ownBlock) w w')
    (x : Value) (b : Nat) (m : List (Key × Place)) (w : World) (h : IxIs w x b m) (hlen : m.length ≤ 1000000000) : Calls Try.prog 29 #[x] w fun e w' =>
      ∃ v l, e = .returned v ∧ Owns w' w.heap.size 42 v l ∧ l.Perm (m.map itemOf) ∧ l.Pairwise (fun a b => klt b.key a.key = false) ∧ Below w.heap.size w w' := by
  have hap := MapIs.apart keyCode h.2
  have h1 := h.1
  obtain ⟨⟨g, rfl, hne, hc⟩, hM⟩ := h
  obtain ⟨o, hrange, hR⟩ := run_range 101 Try.underlying101 hM
  have HRANGE := Lib.hid hrange
  clear hrange
  go_enter Try.func29, Try.ntmps29
  go_wp2_with (first
    | (go_at_call 45; refine (there_ok _ b _ h1).mono ?_; rintro e w' ⟨rfl, rfl⟩)
    | (refine st_val rfl (op_range (mv := .map (some b)) 101 _ rfl rfl HRANGE.out) ?_))
  have hw1 : Below w.heap.size w (w.alloc o) := fresh_alloc (fresh_refl w) _
  have hs1 : (w.alloc o).heap.size = w.heap.size + 1 := by simp
  generalize w.alloc o = w1 at hR hw1 hs1
  clear HRANGE
  simp only [Act.put, List.setIfInBounds_toArray, List.set_cons_succ, List.set_cons_zero]
  go_loopg [3] m.length (fun n v wr => ∃ left l, n = left.length ∧ ItemsSo m left l ∧ Ranging wr w.heap.size b keyV placeV m left ∧ Owns wr (w.heap.size + 1) 42 v l ∧ Below w.heap.size w wr ∧ w.heap.size + 1 ≤ wr.heap.size)
  case atStart => exact ⟨m, [], rfl, ItemsSo.start hap, hR, Owns.nil _ _ _, hw1, by omega⟩
  case round =>
    obtain ⟨left, l, rfl, hso, hRr, hO, hbr, hge⟩ := hrel
    rcases run_next keyCode 0 hRr with ⟨hl0, hrun⟩ | ⟨k, p, u, hmem, hrun, hRu, hgu, hsu, hent⟩
    · have HRUN := Lib.hid hrun
      clear hrun
      subst hl0
      have hperm : l.Perm (m.map itemOf) := by simpa using hso.1
      have hll : l.length ≤ 1000000000 := by have := hso.len; simp at this; omega
      have hsort := SORT wr (w.heap.size + 1) u3 l hO hll
      have hown : ∀ k, u3.ownBlock = some k → w.heap.size + 1 ≤ k := fun k hk => (hO.block k hk).1
      have HSORT := Lib.hid hsort
      clear hsort
      clear SORT
      go_wp2_with (first
        | (refine st_val rfl (op_next (mv := .pointer (some ⟨w.heap.size, 0, none⟩)) _ rfl rfl HRUN.out) ?_)
        | (go_at_call 47; refine HSORT.out.mono ?_; rintro e w' ⟨rfl, l', hp', hpw, hO', hk'⟩))
      go_ret
      refine ⟨u3, l', rfl, hO'.lower (by omega), hp'.trans hperm, hpw, fresh_keep hbr hk' (fun i hi => by have := hown i hi.symm; omega)⟩
    · have hst := hso.step hmem
      have hll : l.length + 1 ≤ 1000000000 := by have := hst.len; simp at this; omega
      have hdl : (del left k).length < left.length := by have := (perm_del hso.2 hmem).length_eq; simp at this; omega
      have hown : ∀ i, u3.ownBlock = some i → w.heap.size + 1 ≤ i := fun i hi => (hO.block i hi).1
      have hOu : Owns ((u.alloc (.cells (Enc.enc k).toArray 35)).alloc (.cells (Enc.enc p).toArray 38)) (w.heap.size + 1) 42 u3 l := ((hO.keep (Keep.grown hgu) (fun i hi => by have := hown i hi; omega)).alloc _).alloc _
      have hbu : Below w.heap.size w ((u.alloc (.cells (Enc.enc k).toArray 35)).alloc (.cells (Enc.enc p).toArray 38)) := fresh_alloc (fresh_alloc (fresh_keep hbr (Keep.grown hgu) (fun i hi => by omega)) _) _
      have hRW := (hRu.alloc (.cells (Enc.enc k).toArray 35)).alloc (.cells (Enc.enc p).toArray 38)
      have hsz : w.heap.size + 1 ≤ ((u.alloc (.cells (Enc.enc k).toArray 35)).alloc (.cells (Enc.enc p).toArray 38)).heap.size := by simp; omega
      have hbig : (l.length + 1) * 136 ≤ 140737488355328 := by omega
      have HRUN := Lib.hid hrun
      clear hrun
      have HENT := Lib.hid hent
      clear hent
      clear SORT
      go_wp2_with (first
        | (refine st_val rfl (op_next (mv := .pointer (some ⟨w.heap.size, 0, none⟩)) _ rfl rfl HRUN.out) ?_)
        | (refine st_val rfl (op_entry (mv := .pointer (some ⟨w.heap.size, 0, none⟩)) _ rfl rfl HENT.out) ?_)
        | (refine st_val rfl (run_alloc 35 Key.zero zero35 rfl) ?_)
        | (refine st_val rfl (run_alloc 38 Place.zero zero38 rfl) ?_)
        | (refine st_skip rfl (run_store_prev 35 _ _ rfl rfl (by simp [hsu]) k Key.zero rfl 35 _ s35) ?_)
        | (refine st_skip rfl (run_store_new 38 _ _ rfl rfl (by simp [hsu]) p Place.zero rfl 38 s38) ?_)
        | (refine st_val rfl (load_key rfl rfl k (by rw [← hsu]; exact range_fresh (range_block (heap_alloc_new u _)) (fresh_alloc (fresh_refl _) _))) ?_)
        | (refine st_val rfl (load_place rfl rfl p (by rw [← hsu]; exact range_block (heap_alloc2_new u _ _))) ?_)
        | (refine st_val rfl (build_item k p rfl rfl rfl rfl) ?_)
        | (refine st_val rfl (run_row1 22 42 _ rfl Try.underlying22 Item.zero (itemOf (k, p)) 136 info42 rfl (by decide)) ?_)
        | (refine st_push (w.heap.size + 1) rfl _ _ 22 42 rfl Try.underlying22 Item.zero 136 info42 (by decide) u3 l (itemOf (k, p)) rfl rfl hOu hbig hsz (fun v' w' hO' hg' hv' => ?_)))
      have hblt : b < w.heap.size := hM.lt
      go_roundg (del left k).length
      case measure => exact hdl
      case rel =>
        exact ⟨del left k, l ++ [itemOf (k, p)], rfl, hst, hRW.grown hg' (fun e => by have := hown _ e.symm; omega) (fun e => by have := hown _ e.symm; omega), hO', fresh_grown hbu hg' (fun i hi => by have := hown i hi; omega), Nat.le_trans hsz hg'.size⟩
end Go.Pb
