/- The index of extents: Move, Want. -/
import Derived.Test.YteablbficakfcaaIndexC
set_option linter.unusedVariables false
set_option linter.unusedSimpArgs false
set_option linter.unusedSectionVars false
namespace Go.Pb
open Go.RowKit Go.Proofs Go.BigFrame

theorem cells_place {w : World} {v : Nat} {q : Place} {t : TypeId} (h : w.heap[v]? = some (.cells (Enc.enc q).toArray t)) :
    w.cell? ⟨v, 0, none⟩ = some (.int .i64 q.at_) ∧ w.cell? ⟨v, 1, none⟩ = some (.int .i64 q.sectors) ∧ w.cell? ⟨v, 2, none⟩ = some (.int .i64 q.units) ∧ w.cell? ⟨v, 3, none⟩ = some (.int .i64 q.refs) := by
  have hr := range_block h
  exact ⟨hr 0 _ rfl, hr 1 _ rfl, hr 2 _ rfl, hr 3 _ rfl⟩

theorem move1_ok (v c : Nat) (n : Int) (q : Place) (w : World) (hv : w.heap[v]? = some (.cells (Enc.enc q).toArray 38)) (hc : w.heap[c]? = some (.cells #[.int .i64 n] 3)) (hne : v ≠ c) :
    Calls Try.prog 53 #[.pointer (some ⟨v, 0, none⟩), .pointer (some ⟨c, 0, none⟩)] w fun e w' => e = .returned (.bool (ixFrom n 0 262144)) ∧ Keep (fun k => k = v ∨ k = c) w w' ∧
      w'.heap[v]? = some (.cells (Enc.enc { q with at_ := n }).toArray 38) ∧ w'.heap[c]? = some (.cells #[.int .i64 n] 3) := by
  have h0 := (cells_place hv).1
  have hf := frozen_of_block hv 0
  have hn : w.cell? ⟨c, 0, none⟩ = some (.int .i64 n) := range_block hc 0 _ rfl
  have hn2 : (w.setCell ⟨v, 0, none⟩ (.int .i64 n)).cell? ⟨c, 0, none⟩ = some (.int .i64 n) := by rw [World.cell?_setCell_other _ _ _ _ (fun e => hne (by injection e))]; exact hn
  have e1 := setCell_eq_setRow w v 0 _ _ _ (.int .i64 n) hv
  have E1 := Lib.hid e1
  clear e1
  go_enter Try.func53, Try.ntmps53
  go_wp2_with (go_at_call 54; refine (from_ok _ _ _ _).mono ?_; rintro e w' ⟨rfl, rfl⟩)
  go_ret
  refine ⟨rfl, (Keep.setCell _ _ _).mono (fun k _ hk => .inl hk), ?_, ?_⟩
  · rw [E1.out, setRow_heap _ _ _ _ _ _ hv]
    rfl
  · rw [E1.out, setRow_other _ _ _ _ hne.symm]
    exact hc

/-- Is a number of times more what a place may bear? -/
def ixBears (q : Place) (n : Int) : Bool := ixFrom n (wrap64 (-q.refs)) (wrap64 (2147483647 - q.refs))
theorem want1_ok (v c d : Nat) (n : Int) (u : Bool) (q : Place) (w : World) (hv : w.heap[v]? = some (.cells (Enc.enc q).toArray 38)) (hc : w.heap[c]? = some (.cells #[.int .i64 n] 3)) (hd : w.heap[d]? = some (.cells #[.bool u] 4)) (hne : v ≠ c) (hne2 : v ≠ d) (hne3 : c ≠ d) :
    Calls Try.prog 56 #[.pointer (some ⟨v, 0, none⟩), .pointer (some ⟨c, 0, none⟩), .pointer (some ⟨d, 0, none⟩)] w fun e w' => e = .returned (.bool (ixBears q n)) ∧ Keep (fun k => k = v ∨ k = d) w w' ∧
      w'.heap[v]? = some (.cells (Enc.enc (if ixBears q n then { q with refs := wrap64 (q.refs + n) } else q)).toArray 38) ∧
      w'.heap[d]? = some (.cells #[.bool (if ixBears q n then decide (wrap64 (q.refs + n) = 0) else u)] 4) := by
  obtain ⟨-, -, -, h3⟩ := cells_place hv
  have hf := frozen_of_block hv 3
  have hfd := frozen_of_block hd 0
  have hn : w.cell? ⟨c, 0, none⟩ = some (.int .i64 n) := range_block hc 0 _ rfl
  have hu : w.cell? ⟨d, 0, none⟩ = some (.bool u) := range_block hd 0 _ rfl
  cases hb : ixBears q n with
  | false =>
    have HF : ∀ w : World, _ := fun w => from_eq n (wrap64 (-q.refs)) (wrap64 (2147483647 - q.refs)) false hb w
    have Hb := Lib.hid hb
    clear hb
    go_enter Try.func56, Try.ntmps56
    go_wp2
    go_quiet ((go_at_call 54; exact quiet_eq (HF _)))
    go_wp2
    go_ret
    exact ⟨rfl, Keep.below (fresh_drewN (fresh_refl w) _), hv, hd⟩
  | true =>
    have e1 := setCell_eq_setRow w v 3 _ _ _ (.int .i64 (wrap64 (q.refs + n))) hv
    have HF : ∀ w : World, _ := fun w => from_eq n (wrap64 (-q.refs)) (wrap64 (2147483647 - q.refs)) true hb w
    have Hb := Lib.hid hb
    clear hb
    have E1 := Lib.hid e1
    clear e1
    go_enter Try.func56, Try.ntmps56
    go_wp2
    go_quiet ((go_at_call 54; exact quiet_eq (HF _)))
    go_wp2
    refine wp_region_tail_lit 8 (by kernel_rfl) (by kernel_rfl) ?_
    simp only [List.take_succ_cons, List.take_zero, List.drop_succ_cons, List.drop_zero]
    go_big_quiet_step (fail)
    go_big_quiet_step (fail)
    go_big_quiet_step (fail)
    refine sq_val (by rfl) (fun w' hw' => by subst hw'; exact run_load1 3 _ rfl rfl h3 _ Try.underlying3 rfl) ?_
    simp only [Act.put, List.setIfInBounds_toArray, List.set_cons_succ, List.set_cons_zero]
    refine sq_val (by rfl) (fun w' hw' => by subst hw'; exact run_load1 3 _ rfl rfl hn _ Try.underlying3 rfl) ?_
    simp only [Act.put, List.setIfInBounds_toArray, List.set_cons_succ, List.set_cons_zero]
    go_big_quiet_step (fail)
    go_big_quiet_step (fail)
    go_big_quiet_step (fail)
    refine wpQuiet_nil ?_
    go_wp2
    go_ret
    have k1 := Keep.setCell (w.drewN (nq + 1)) ⟨v, 3, none⟩ (.int .i64 (wrap64 (q.refs + n)))
    refine ⟨rfl, (Keep.below (fresh_drewN (fresh_refl w) _)).trans ((k1.mono (fun k _ hk => .inl hk)).trans ((Keep.setCell _ _ _).mono (fun k _ hk => .inr hk))), ?_, ?_⟩
    · rw [heap_setCell_far hne2, heap_setCell_same (w := w.drewN (nq + 1)) hv]
      rfl
    · rw [heap_setCell_same (w := (w.drewN (nq + 1)).setCell ⟨v, 3, none⟩ _) (by rw [heap_setCell_far hne2.symm]; exact hd)]
      simp
      rw [Bool.eq_iff_iff]
      simp

theorem turn_none_ok (x F : Value) (k : Key) (w : World) (h : NoIx w x) : Calls Try.prog 52 #[x, agg k, F] w fun e w' => e = .returned (.int .i64 1) ∧ Below w.heap.size w w' := by
  have hb : Below w.heap.size w (w.alloc (.cells (Enc.enc k).toArray 35)) := fresh_alloc (fresh_refl w) _
  go_enter Try.func52, Try.ntmps52
  go_wp2_with (first
    | (refine st_val rfl (run_box 35 _ k rfl rfl) ?_)
    | (go_at_call 45; refine (there_none_ok _ _ (h.fresh hb)).mono ?_; rintro e w' ⟨rfl, rfl⟩))
  go_ret
  exact ⟨rfl, hb⟩

theorem turn_miss_ok (x F : Value) (k : Key) (b : Nat) (m : List (Key × Place)) (w : World) (h : IxIs w x b m) (hlk : look m k = none) : Calls Try.prog 52 #[x, agg k, F] w fun e w' => e = .returned (.int .i64 6) ∧ Below w.heap.size w w' := by
  have hb : Below w.heap.size w (w.alloc (.cells (Enc.enc k).toArray 35)) := fresh_alloc (fresh_refl w) _
  have hblt : b < w.heap.size := h.2.lt
  generalize hW : w.alloc (.cells (Enc.enc k).toArray 35) = W at hb
  have hW0 : W.heap.size = w.heap.size + 1 := by subst hW; simp
  have hk : W.heap[w.heap.size]? = some (.cells (Enc.enc k).toArray 35) := by subst hW; exact heap_alloc_new _ _
  obtain ⟨g, rfl, hne, hc⟩ := (h.fresh hb).1
  have hM := (h.fresh hb).2
  have hS0 : Below W.heap.size W W.drew := fresh_drew (fresh_refl W)
  have hC : ∀ w', Below W.heap.size W w' → w'.cell? ⟨g, 0, none⟩ = some (.map (some b)) := fun w' hw => (hw.cell (p := ⟨g, 0, none⟩) (World.block_lt_of_cell? W _ hc)).trans hc
  have hK : ∀ w', Below W.heap.size W w' → w'.rangeAt w.heap.size 0 (Enc.enc k) := fun w' hw => range_fresh (range_block hk) hw
  generalize hW3 : W.drew.alloc (.cells (Enc.enc ((look m k).getD Place.zero)).toArray 38) = W3
  have hb3 : Below W.heap.size W W3 := by subst hW3; exact fresh_alloc hS0 _
  have Hlk := Lib.hid hlk
  clear hlk
  go_enter Try.func52, Try.ntmps52
  go_wp2_with (first
    | (refine st_val rfl (run_box 35 _ k rfl rfl) ?_; rw [hW])
    | (go_at_call 45; refine (there_ok _ b _ (h.fresh hb).1).mono ?_; rintro e w' ⟨rfl, rfl⟩))
  refine held_lit (fun w' => Below (W).heap.size W w') 12 rfl (by kernel_rfl) ?_
  refine hl_take (v := ?_) 0 rfl (by kernel_rfl) (by rfl) ?_ hS0 (fun _ _ _ h => h) ?_
  rotate_left
  · (intro w' hw'; go_simp; try with_reducible rfl)
  simp only [Act.put, List.setIfInBounds_toArray, List.set_cons_succ, List.set_cons_zero]
  refine hl_take (v := ?_) 1 rfl (by kernel_rfl) (by rfl) ?_ hS0 (fun _ _ _ h => h) ?_
  rotate_left
  · (intro w' hw'; go_simp; try with_reducible rfl)
  simp only [Act.put, List.setIfInBounds_toArray, List.set_cons_succ, List.set_cons_zero]
  refine hl_take (v := ?_) 2 rfl (by kernel_rfl) (by rfl) ?_ hS0 (fun _ _ _ h => h) ?_
  rotate_left
  · (intro w' hw'; go_simp; try with_reducible rfl)
  simp only [Act.put, List.setIfInBounds_toArray, List.set_cons_succ, List.set_cons_zero]
  refine hl_take 3 rfl (by kernel_rfl) (by rfl) (fun w' hw' => run_load1 101 _ rfl rfl (hC w' hw') _ Try.underlying101 rfl) hS0 (fun _ _ _ h => h) ?_
  simp only [Act.put, List.setIfInBounds_toArray, List.set_cons_succ, List.set_cons_zero]
  refine hl_take 4 rfl (by kernel_rfl) (by rfl) (fun w' hw' => load_key rfl rfl k (hK w' hw')) hS0 (fun _ _ _ h => h) ?_
  simp only [Act.put, List.setIfInBounds_toArray, List.set_cons_succ, List.set_cons_zero]
  refine hl_take 5 rfl (by kernel_rfl) (by rfl) (fun w' hw' => op_look2 keyCode 101 _ _ rfl Try.underlying101 (agg Place.zero) zval38 rfl k rfl ((hM).fresh hw')) hS0 (fun _ _ _ h => h) ?_
  simp only [Act.put, List.setIfInBounds_toArray, List.set_cons_succ, List.set_cons_zero]
  simp only [look_elim]
  refine hl_take (v := ?_) 6 rfl (by kernel_rfl) (by rfl) ?_ hS0 (fun _ _ _ h => h) ?_
  rotate_left
  · (intro w' hw'; go_simp; try with_reducible rfl)
  simp only [Act.put, List.setIfInBounds_toArray, List.set_cons_succ, List.set_cons_zero]
  refine hl_take (v := ?_) 7 rfl (by kernel_rfl) (by rfl) ?_ hS0 (fun _ _ _ h => h) ?_
  rotate_left
  · (intro w' hw'; go_simp; try with_reducible rfl)
  simp only [Act.put, List.setIfInBounds_toArray, List.set_cons_succ, List.set_cons_zero]
  refine hl_take (v := ?_) 8 rfl (by kernel_rfl) (by rfl) ?_ hS0 (fun _ _ _ h => h) ?_
  rotate_left
  · (intro w' hw'; go_simp; try with_reducible rfl)
  simp only [Act.put, List.setIfInBounds_toArray, List.set_cons_succ, List.set_cons_zero]
  refine hl_one 9 (by kernel_rfl) (hs_val rfl (by rfl) (run_alloc 38 Place.zero zero38 rfl) (fresh_alloc hS0 _) ?_)
  simp only [Act.put, List.setIfInBounds_toArray, List.set_cons_succ, List.set_cons_zero]
  refine hl_one 10 (by kernel_rfl) (hs_skip rfl (by rfl) (run_store_new 38 _ _ rfl rfl rfl _ Place.zero rfl 38 s38) (fresh_alloc hS0 _) ?_)
  simp only [Act.put, List.setIfInBounds_toArray, List.set_cons_succ, List.set_cons_zero]
  refine hl_take (v := ?_) 11 rfl (by kernel_rfl) (by rfl) ?_ (fresh_alloc hS0 _) (fun _ _ _ h => h) ?_
  rotate_left
  · (intro w' hw'; go_simp; try with_reducible rfl)
  simp only [Act.put, List.setIfInBounds_toArray, List.set_cons_succ, List.set_cons_zero]
  refine hl_done (by kernel_rfl) ?_
  rw [hW3]
  simp only [Hlk.out, Option.isSome_none, Option.isSome_some]
  go_wp2
  go_ret
  exact ⟨rfl, hb.trans (hb3.mono (by omega))⟩
theorem Keep.new {X Y : Nat → Prop} {w w1 w2 : World} {v : Nat} (h : Keep Y w w1) (k : Keep (fun i => i = v ∨ X i) w1 w2) (hv : w.heap.size ≤ v) (hxy : ∀ i, X i → Y i) : Keep Y w w2 :=
  ⟨k.os.trans h.os, k.tape.trans h.tape, k.output.trans h.output, Nat.le_trans h.size k.size, fun i hi hy => (k.block i (Nat.lt_of_lt_of_le hi h.size) (fun hx => by
    rcases hx with rfl | hx
    · omega
    · exact hy (hxy i hx))).trans (h.block i hi hy)⟩
/-- What is done to a place: it is called with a variable that holds it; it turns that one, and block d; it says whether it may be. -/
theorem turn_bad_ok (x : Value) (f : FuncId) (cap : Array Value) (k : Key) (b d : Nat) (m : List (Key × Place)) (w : World) (h : IxIs w x b m) (q : Place) (hlk : look m k = some q) (q' : Place) (o : Obj) (hd : d < w.heap.size) (hdb : d ≠ b)
    (eg : ∀ args w, (callFunc f args).run Try.prog w = .ok (.enter f args) w)
    (hdo : ∀ (w1 : World) (v : Nat), Below w.heap.size w w1 → w.heap.size ≤ v → w1.heap[v]? = some (.cells (Enc.enc q).toArray 38) →
      Calls Try.prog f (#[] ++ #[.pointer (some ⟨v, 0, none⟩)] ++ cap) w1 fun e w2 => e = .returned (.bool false) ∧ Keep (fun i => i = v ∨ i = d) w1 w2 ∧ w2.heap[v]? = some (.cells (Enc.enc q').toArray 38) ∧ w2.heap[d]? = some o) :
    Calls Try.prog 52 #[x, agg k, .func (.func f) #[] cap] w fun e w' => e = .returned (.int .i64 2) ∧ Keep (fun i => i = d) w w' ∧ w'.heap[d]? = some o := by
  have hb : Below w.heap.size w (w.alloc (.cells (Enc.enc k).toArray 35)) := fresh_alloc (fresh_refl w) _
  have hblt : b < w.heap.size := h.2.lt
  generalize hW : w.alloc (.cells (Enc.enc k).toArray 35) = W at hb
  have hW0 : W.heap.size = w.heap.size + 1 := by subst hW; simp
  have hk : W.heap[w.heap.size]? = some (.cells (Enc.enc k).toArray 35) := by subst hW; exact heap_alloc_new _ _
  obtain ⟨g, rfl, hne, hc⟩ := (h.fresh hb).1
  have hM := (h.fresh hb).2
  have hS0 : Below W.heap.size W W.drew := fresh_drew (fresh_refl W)
  have hC : ∀ w', Below W.heap.size W w' → w'.cell? ⟨g, 0, none⟩ = some (.map (some b)) := fun w' hw => (hw.cell (p := ⟨g, 0, none⟩) (World.block_lt_of_cell? W _ hc)).trans hc
  have hK : ∀ w', Below W.heap.size W w' → w'.rangeAt w.heap.size 0 (Enc.enc k) := fun w' hw => range_fresh (range_block hk) hw
  generalize hW3 : W.drew.alloc (.cells (Enc.enc ((look m k).getD Place.zero)).toArray 38) = W3
  have hb3 : Below W.heap.size W W3 := by subst hW3; exact fresh_alloc hS0 _
  have hv : W3.heap[W.heap.size]? = some (.cells (Enc.enc q).toArray 38) := by
    subst hW3
    have := heap_alloc_new W.drew (.cells (Enc.enc ((look m k).getD Place.zero)).toArray 38)
    rw [hlk] at this ⊢
    exact this
  have hcall := hdo W3 W.heap.size (hb.trans (hb3.mono (by omega))) (by omega) hv
  have Hlk := Lib.hid hlk
  clear hlk
  have HCALL := Lib.hid hcall
  clear hcall
  clear hdo
  have EG := Lib.hid eg
  clear eg
  go_enter Try.func52, Try.ntmps52
  go_wp2_with (first
    | (refine st_val rfl (run_box 35 _ k rfl rfl) ?_; rw [hW])
    | (go_at_call 45; refine (there_ok _ b _ (h.fresh hb).1).mono ?_; rintro e w' ⟨rfl, rfl⟩))
  refine held_lit (fun w' => Below (W).heap.size W w') 12 rfl (by kernel_rfl) ?_
  refine hl_take (v := ?_) 0 rfl (by kernel_rfl) (by rfl) ?_ hS0 (fun _ _ _ h => h) ?_
  rotate_left
  · (intro w' hw'; go_simp; try with_reducible rfl)
  simp only [Act.put, List.setIfInBounds_toArray, List.set_cons_succ, List.set_cons_zero]
  refine hl_take (v := ?_) 1 rfl (by kernel_rfl) (by rfl) ?_ hS0 (fun _ _ _ h => h) ?_
  rotate_left
  · (intro w' hw'; go_simp; try with_reducible rfl)
  simp only [Act.put, List.setIfInBounds_toArray, List.set_cons_succ, List.set_cons_zero]
  refine hl_take (v := ?_) 2 rfl (by kernel_rfl) (by rfl) ?_ hS0 (fun _ _ _ h => h) ?_
  rotate_left
  · (intro w' hw'; go_simp; try with_reducible rfl)
  simp only [Act.put, List.setIfInBounds_toArray, List.set_cons_succ, List.set_cons_zero]
  refine hl_take 3 rfl (by kernel_rfl) (by rfl) (fun w' hw' => run_load1 101 _ rfl rfl (hC w' hw') _ Try.underlying101 rfl) hS0 (fun _ _ _ h => h) ?_
  simp only [Act.put, List.setIfInBounds_toArray, List.set_cons_succ, List.set_cons_zero]
  refine hl_take 4 rfl (by kernel_rfl) (by rfl) (fun w' hw' => load_key rfl rfl k (hK w' hw')) hS0 (fun _ _ _ h => h) ?_
  simp only [Act.put, List.setIfInBounds_toArray, List.set_cons_succ, List.set_cons_zero]
  refine hl_take 5 rfl (by kernel_rfl) (by rfl) (fun w' hw' => op_look2 keyCode 101 _ _ rfl Try.underlying101 (agg Place.zero) zval38 rfl k rfl ((hM).fresh hw')) hS0 (fun _ _ _ h => h) ?_
  simp only [Act.put, List.setIfInBounds_toArray, List.set_cons_succ, List.set_cons_zero]
  simp only [look_elim]
  refine hl_take (v := ?_) 6 rfl (by kernel_rfl) (by rfl) ?_ hS0 (fun _ _ _ h => h) ?_
  rotate_left
  · (intro w' hw'; go_simp; try with_reducible rfl)
  simp only [Act.put, List.setIfInBounds_toArray, List.set_cons_succ, List.set_cons_zero]
  refine hl_take (v := ?_) 7 rfl (by kernel_rfl) (by rfl) ?_ hS0 (fun _ _ _ h => h) ?_
  rotate_left
  · (intro w' hw'; go_simp; try with_reducible rfl)
  simp only [Act.put, List.setIfInBounds_toArray, List.set_cons_succ, List.set_cons_zero]
  refine hl_take (v := ?_) 8 rfl (by kernel_rfl) (by rfl) ?_ hS0 (fun _ _ _ h => h) ?_
  rotate_left
  · (intro w' hw'; go_simp; try with_reducible rfl)
  simp only [Act.put, List.setIfInBounds_toArray, List.set_cons_succ, List.set_cons_zero]
  refine hl_one 9 (by kernel_rfl) (hs_val rfl (by rfl) (run_alloc 38 Place.zero zero38 rfl) (fresh_alloc hS0 _) ?_)
  simp only [Act.put, List.setIfInBounds_toArray, List.set_cons_succ, List.set_cons_zero]
  refine hl_one 10 (by kernel_rfl) (hs_skip rfl (by rfl) (run_store_new 38 _ _ rfl rfl rfl _ Place.zero rfl 38 s38) (fresh_alloc hS0 _) ?_)
  simp only [Act.put, List.setIfInBounds_toArray, List.set_cons_succ, List.set_cons_zero]
  refine hl_take (v := ?_) 11 rfl (by kernel_rfl) (by rfl) ?_ (fresh_alloc hS0 _) (fun _ _ _ h => h) ?_
  rotate_left
  · (intro w' hw'; go_simp; try with_reducible rfl)
  simp only [Act.put, List.setIfInBounds_toArray, List.set_cons_succ, List.set_cons_zero]
  refine hl_done (by kernel_rfl) ?_
  rw [hW3]
  simp only [Hlk.out, Option.isSome_none, Option.isSome_some]
  go_wp2_with (refine st_callv rfl f #[] cap _ [.tmp 7] _ rfl rfl [.pointer (some ⟨W.heap.size, 0, none⟩)] rfl EG.out HCALL.out (fun e w' he => ?_); obtain ⟨rfl, hk1, hv1, hd1⟩ := he; refine ⟨_, rfl, ?_⟩)
  go_ret
  exact ⟨rfl, (Keep.below (hb.trans (hb3.mono (by omega)))).new hk1 (by omega) (fun k hx => hx), hd1⟩

theorem turn_good_ok (x : Value) (f : FuncId) (cap : Array Value) (k : Key) (b d : Nat) (m : List (Key × Place)) (w : World) (h : IxIs w x b m) (q : Place) (hlk : look m k = some q) (q' : Place) (o : Obj) (hd : d < w.heap.size) (hdb : d ≠ b) (hdg : x ≠ .pointer (some ⟨d, 0, none⟩))
    (eg : ∀ args w, (callFunc f args).run Try.prog w = .ok (.enter f args) w)
    (hdo : ∀ (w1 : World) (v : Nat), Below w.heap.size w w1 → w.heap.size ≤ v → w1.heap[v]? = some (.cells (Enc.enc q).toArray 38) →
      Calls Try.prog f (#[] ++ #[.pointer (some ⟨v, 0, none⟩)] ++ cap) w1 fun e w2 => e = .returned (.bool true) ∧ Keep (fun i => i = v ∨ i = d) w1 w2 ∧ w2.heap[v]? = some (.cells (Enc.enc q').toArray 38) ∧ w2.heap[d]? = some o) :
    Calls Try.prog 52 #[x, agg k, .func (.func f) #[] cap] w fun e w' => e = .returned (.int .i64 0) ∧ Keep (fun i => i = b ∨ i = d) w w' ∧ IxIs w' x b (put m k q') ∧ w'.heap[d]? = some o := by
  have hb : Below w.heap.size w (w.alloc (.cells (Enc.enc k).toArray 35)) := fresh_alloc (fresh_refl w) _
  have hblt : b < w.heap.size := h.2.lt
  generalize hW : w.alloc (.cells (Enc.enc k).toArray 35) = W at hb
  have hW0 : W.heap.size = w.heap.size + 1 := by subst hW; simp
  have hk : W.heap[w.heap.size]? = some (.cells (Enc.enc k).toArray 35) := by subst hW; exact heap_alloc_new _ _
  obtain ⟨g, rfl, hne, hc⟩ := (h.fresh hb).1
  have hM := (h.fresh hb).2
  have hS0 : Below W.heap.size W W.drew := fresh_drew (fresh_refl W)
  have hC : ∀ w', Below W.heap.size W w' → w'.cell? ⟨g, 0, none⟩ = some (.map (some b)) := fun w' hw => (hw.cell (p := ⟨g, 0, none⟩) (World.block_lt_of_cell? W _ hc)).trans hc
  have hK : ∀ w', Below W.heap.size W w' → w'.rangeAt w.heap.size 0 (Enc.enc k) := fun w' hw => range_fresh (range_block hk) hw
  generalize hW3 : W.drew.alloc (.cells (Enc.enc ((look m k).getD Place.zero)).toArray 38) = W3
  have hb3 : Below W.heap.size W W3 := by subst hW3; exact fresh_alloc hS0 _
  have hv : W3.heap[W.heap.size]? = some (.cells (Enc.enc q).toArray 38) := by
    subst hW3
    have := heap_alloc_new W.drew (.cells (Enc.enc ((look m k).getD Place.zero)).toArray 38)
    rw [hlk] at this ⊢
    exact this
  have hcall := hdo W3 W.heap.size (hb.trans (hb3.mono (by omega))) (by omega) hv
  have hgd : g ≠ d := fun e => hdg (by rw [e])
  have Hlk := Lib.hid hlk
  clear hlk
  have HCALL := Lib.hid hcall
  clear hcall
  clear hdo
  have EG := Lib.hid eg
  clear eg
  go_enter Try.func52, Try.ntmps52
  go_wp2_with (first
    | (refine st_val rfl (run_box 35 _ k rfl rfl) ?_; rw [hW])
    | (go_at_call 45; refine (there_ok _ b _ (h.fresh hb).1).mono ?_; rintro e w' ⟨rfl, rfl⟩))
  refine held_lit (fun w' => Below (W).heap.size W w') 12 rfl (by kernel_rfl) ?_
  refine hl_take (v := ?_) 0 rfl (by kernel_rfl) (by rfl) ?_ hS0 (fun _ _ _ h => h) ?_
  rotate_left
  · (intro w' hw'; go_simp; try with_reducible rfl)
  simp only [Act.put, List.setIfInBounds_toArray, List.set_cons_succ, List.set_cons_zero]
  refine hl_take (v := ?_) 1 rfl (by kernel_rfl) (by rfl) ?_ hS0 (fun _ _ _ h => h) ?_
  rotate_left
  · (intro w' hw'; go_simp; try with_reducible rfl)
  simp only [Act.put, List.setIfInBounds_toArray, List.set_cons_succ, List.set_cons_zero]
  refine hl_take (v := ?_) 2 rfl (by kernel_rfl) (by rfl) ?_ hS0 (fun _ _ _ h => h) ?_
  rotate_left
  · (intro w' hw'; go_simp; try with_reducible rfl)
  simp only [Act.put, List.setIfInBounds_toArray, List.set_cons_succ, List.set_cons_zero]
  refine hl_take 3 rfl (by kernel_rfl) (by rfl) (fun w' hw' => run_load1 101 _ rfl rfl (hC w' hw') _ Try.underlying101 rfl) hS0 (fun _ _ _ h => h) ?_
  simp only [Act.put, List.setIfInBounds_toArray, List.set_cons_succ, List.set_cons_zero]
  refine hl_take 4 rfl (by kernel_rfl) (by rfl) (fun w' hw' => load_key rfl rfl k (hK w' hw')) hS0 (fun _ _ _ h => h) ?_
  simp only [Act.put, List.setIfInBounds_toArray, List.set_cons_succ, List.set_cons_zero]
  refine hl_take 5 rfl (by kernel_rfl) (by rfl) (fun w' hw' => op_look2 keyCode 101 _ _ rfl Try.underlying101 (agg Place.zero) zval38 rfl k rfl ((hM).fresh hw')) hS0 (fun _ _ _ h => h) ?_
  simp only [Act.put, List.setIfInBounds_toArray, List.set_cons_succ, List.set_cons_zero]
  simp only [look_elim]
  refine hl_take (v := ?_) 6 rfl (by kernel_rfl) (by rfl) ?_ hS0 (fun _ _ _ h => h) ?_
  rotate_left
  · (intro w' hw'; go_simp; try with_reducible rfl)
  simp only [Act.put, List.setIfInBounds_toArray, List.set_cons_succ, List.set_cons_zero]
  refine hl_take (v := ?_) 7 rfl (by kernel_rfl) (by rfl) ?_ hS0 (fun _ _ _ h => h) ?_
  rotate_left
  · (intro w' hw'; go_simp; try with_reducible rfl)
  simp only [Act.put, List.setIfInBounds_toArray, List.set_cons_succ, List.set_cons_zero]
  refine hl_take (v := ?_) 8 rfl (by kernel_rfl) (by rfl) ?_ hS0 (fun _ _ _ h => h) ?_
  rotate_left
  · (intro w' hw'; go_simp; try with_reducible rfl)
  simp only [Act.put, List.setIfInBounds_toArray, List.set_cons_succ, List.set_cons_zero]
  refine hl_one 9 (by kernel_rfl) (hs_val rfl (by rfl) (run_alloc 38 Place.zero zero38 rfl) (fresh_alloc hS0 _) ?_)
  simp only [Act.put, List.setIfInBounds_toArray, List.set_cons_succ, List.set_cons_zero]
  refine hl_one 10 (by kernel_rfl) (hs_skip rfl (by rfl) (run_store_new 38 _ _ rfl rfl rfl _ Place.zero rfl 38 s38) (fresh_alloc hS0 _) ?_)
  simp only [Act.put, List.setIfInBounds_toArray, List.set_cons_succ, List.set_cons_zero]
  refine hl_take (v := ?_) 11 rfl (by kernel_rfl) (by rfl) ?_ (fresh_alloc hS0 _) (fun _ _ _ h => h) ?_
  rotate_left
  · (intro w' hw'; go_simp; try with_reducible rfl)
  simp only [Act.put, List.setIfInBounds_toArray, List.set_cons_succ, List.set_cons_zero]
  refine hl_done (by kernel_rfl) ?_
  rw [hW3]
  simp only [Hlk.out, Option.isSome_none, Option.isSome_some]
  go_wp2_with (refine st_callv rfl f #[] cap _ [.tmp 7] _ rfl rfl [.pointer (some ⟨W.heap.size, 0, none⟩)] rfl EG.out HCALL.out (fun e u he => ?_); obtain ⟨rfl, hk1, hv1, hd1⟩ := he; refine ⟨_, rfl, ?_⟩)
  have hlt3 : W.heap.size < W3.heap.size := (Array.getElem?_eq_some_iff.1 hv).1
  have hM3 : MapIs u b keyV placeV m := (hM.fresh hb3).keep (hk1.block b (by have := hb3.size; omega) (by rintro (h | h) <;> omega))
  obtain ⟨W4, hrun, hM4, hg4, hs4⟩ := run_put keyCode 101 Try.underlying101 (w := u.drew) hM3 k q'
  have hS3 : u.grownBy u.drew (some b) := grown_weak (fresh_drew (fresh_refl u)) b
  have hS4 : u.grownBy W4 (some b) := hS3.trans hg4
  have hgW : g < W.heap.size := World.block_lt_of_cell? W _ hc
  have hC3 : u.cell? ⟨g, 0, none⟩ = some (.map (some b)) := hk1.cell (hC W3 hb3) (by rintro (h | h); exact absurd h (by show ¬ g = _; omega); exact hgd h)
  have hC4 : ∀ w2, u.grownBy w2 (some b) → w2.cell? ⟨g, 0, none⟩ = some (.map (some b)) := fun w2 hw => hw.cell hC3 (by simpa using hne)
  have hK4 : ∀ w2, u.grownBy w2 (some b) → w2.rangeAt w.heap.size 0 (Enc.enc k) := fun w2 hw => range_grown (hk1.range (hK W3 hb3) (by rintro (h | h) <;> omega)) hw (by simp; omega)
  have hP4 : ∀ w2, u.grownBy w2 (some b) → w2.rangeAt (w.heap.size + 1) 0 (Enc.enc q') := fun w2 hw => range_grown (range_block (by rw [← hW0]; exact hv1)) hw (by simp; omega)
  refine held_lit (fun w' => (u).grownBy w' (some b)) 7 rfl (by kernel_rfl) ?_
  refine hl_take (v := ?_) 0 rfl (by kernel_rfl) (by rfl) ?_ hS3 (fun _ _ _ h => h) ?_
  rotate_left
  · (intro w' hw'; go_simp; try with_reducible rfl)
  simp only [Act.put, List.setIfInBounds_toArray, List.set_cons_succ, List.set_cons_zero]
  refine hl_take (v := ?_) 1 rfl (by kernel_rfl) (by rfl) ?_ hS3 (fun _ _ _ h => h) ?_
  rotate_left
  · (intro w' hw'; go_simp; try with_reducible rfl)
  simp only [Act.put, List.setIfInBounds_toArray, List.set_cons_succ, List.set_cons_zero]
  refine hl_take (v := ?_) 2 rfl (by kernel_rfl) (by rfl) ?_ hS3 (fun _ _ _ h => h) ?_
  rotate_left
  · (intro w' hw'; go_simp; try with_reducible rfl)
  simp only [Act.put, List.setIfInBounds_toArray, List.set_cons_succ, List.set_cons_zero]
  refine hl_take 3 rfl (by kernel_rfl) (by rfl) (fun w' hw' => run_load1 101 _ rfl rfl (hC4 w' hw') _ Try.underlying101 rfl) hS3 (fun _ _ _ h => h) ?_
  simp only [Act.put, List.setIfInBounds_toArray, List.set_cons_succ, List.set_cons_zero]
  refine hl_take 4 rfl (by kernel_rfl) (by rfl) (fun w' hw' => load_key rfl rfl k (hK4 w' hw')) hS3 (fun _ _ _ h => h) ?_
  simp only [Act.put, List.setIfInBounds_toArray, List.set_cons_succ, List.set_cons_zero]
  refine hl_take 5 rfl (by kernel_rfl) (by rfl) (fun w' hw' => load_place rfl rfl q' (hP4 w' hw')) hS3 (fun _ _ _ h => h) ?_
  simp only [Act.put, List.setIfInBounds_toArray, List.set_cons_succ, List.set_cons_zero]
  refine hl_one 6 (by kernel_rfl) (hs_skip rfl (by rfl) (op_put' 101 _ _ _ rfl rfl rfl rfl hrun) hS4 ?_)
  simp only [Act.put, List.setIfInBounds_toArray, List.set_cons_succ, List.set_cons_zero]
  refine hl_done (by kernel_rfl) ?_
  go_wp2
  go_ret
  refine ⟨rfl, ?_, ⟨⟨g, rfl, hne, hC4 _ hS4⟩, hM4⟩, ?_⟩
  · exact ((Keep.below (hb.trans (hb3.mono (by omega)))).new hk1 (by omega) (fun k hx => .inr hx)).trans ((Keep.grown hS4).mono (fun k _ hx => .inl hx))
  · rw [hS4.block d (by have := hk1.size; have := hb3.size; have := hb.size; omega) (by simpa using hdb)]
    exact hd1

theorem move_none_ok (x : Value) (k : Key) (n : Int) (w : World) (h : NoIx w x) : Calls Try.prog 33 #[x, agg k, .int .i64 n] w fun e w' => e = .returned (.int .i64 1) ∧ Below w.heap.size w w' := by
  have hb : Below w.heap.size w ((w.alloc (.cells (Enc.enc k).toArray 35)).alloc (.cells #[.int .i64 n] 3)) := fresh_alloc (fresh_alloc (fresh_refl w) _) _
  have hk : ((w.alloc (.cells (Enc.enc k).toArray 35)).alloc (.cells #[.int .i64 n] 3)).heap[w.heap.size]? = some (.cells (Enc.enc k).toArray 35) := by rw [heap_alloc_old _ _ (by simp)]; exact heap_alloc_new _ _
  go_enter Try.func33, Try.ntmps33
  go_wp2_with (first
    | (refine st_val rfl (run_box 35 _ k rfl rfl) ?_)
    | (refine st_val rfl (load_key rfl rfl k (range_block hk)) ?_)
    | (go_at_call 52; refine (turn_none_ok _ _ k _ (h.fresh hb)).mono ?_; rintro e w' ⟨rfl, hb'⟩))
  go_ret
  exact ⟨rfl, hb.trans (hb'.mono hb.size)⟩
theorem zbool : (Try.prog.info? 4).map (·.zero) = some (some (.bool false)) := by kernel_rfl
theorem sbool : (Try.prog.info? 4).map (·.size) = some 1 := by kernel_rfl
set_option maxRecDepth 4000 in
theorem want_none_ok (x : Value) (k : Key) (n : Int) (w : World) (h : NoIx w x) : Calls Try.prog 35 #[x, agg k, .int .i64 n] w fun e w' => e = .returned (.int .i64 1) ∧ Below w.heap.size w w' := by
  generalize hW : (((w.alloc (.cells (Enc.enc k).toArray 35)).alloc (.cells #[.int .i64 n] 3)).alloc (.cells #[.bool false] 4)) = W
  have hb : Below w.heap.size w W := by subst hW; exact fresh_alloc (fresh_alloc (fresh_alloc (fresh_refl w) _) _) _
  have hk : W.heap[w.heap.size]? = some (.cells (Enc.enc k).toArray 35) := by subst hW; rw [heap_alloc_old _ _ (by simp; omega), heap_alloc_old _ _ (by simp)]; exact heap_alloc_new _ _
  have hg : W.cell? ⟨w.heap.size + 2, 0, none⟩ = some (.bool false) := by
    subst hW
    have := range_block (heap_alloc_new ((w.alloc (.cells (Enc.enc k).toArray 35)).alloc (.cells #[.int .i64 n] 3)) (.cells #[.bool false] 4)) 0 _ rfl
    simpa using this
  have HW := Lib.hid hW
  clear hW
  go_enter Try.func35, Try.ntmps35
  go_wp2_with (first
    | (refine st_val rfl (run_box 35 _ k rfl rfl) ?_)
    | (refine st_val rfl (run_alloc1 4 (.bool false) rfl zbool rfl) ?_)
    | (refine st_skip rfl (run_store1_new (v := .bool false) 4 _ _ rfl rfl (by simp) rfl _ _ rfl rfl sbool) ?_; rw [HW.out])
    | (refine st_val rfl (load_key rfl rfl k (range_block hk)) ?_)
    | (go_at_call 52; refine (turn_none_ok _ _ k _ (h.fresh hb)).mono ?_; rintro e w' ⟨rfl, hb'⟩; have hg2 := (hb'.cell (p := ⟨w.heap.size + 2, 0, none⟩) (World.block_lt_of_cell? W _ hg)).trans hg))
  go_ret
  exact ⟨rfl, hb.trans (hb'.mono hb.size)⟩
end Go.Pb
