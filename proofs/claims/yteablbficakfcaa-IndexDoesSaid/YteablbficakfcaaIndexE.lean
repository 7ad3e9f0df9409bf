/- The index of extents: Move and Want of an index. -/
import Derived.Test.YteablbficakfcaaIndexD
set_option linter.unusedVariables false
set_option linter.unusedSimpArgs false
set_option linter.unusedSectionVars false
namespace Go.Pb
open Go.RowKit Go.Proofs Go.BigFrame

def ixMove (m : List (Key × Place)) (k : Key) (n : Int) : Int × List (Key × Place) :=
  match look m k with
  | none => (6, m)
  | some q => if ixFrom n 0 262144 then (0, put m k { q with at_ := n }) else (2, m)
def ixWant0 (m : List (Key × Place)) (k : Key) (n : Int) : Int × List (Key × Place) × Bool :=
  match look m k with
  | none => (6, m, false)
  | some q => if ixBears q n then (0, put m k { q with refs := wrap64 (q.refs + n) }, decide (wrap64 (q.refs + n) = 0)) else (2, m, false)
def ixWant (m : List (Key × Place)) (k : Key) (n : Int) : Int × List (Key × Place) := ((ixWant0 m k n).1, if (ixWant0 m k n).2.2 then del (ixWant0 m k n).2.1 k else (ixWant0 m k n).2.1)

theorem IxIs.keep {X : Nat → Prop} {w w' : World} {x : Value} {b : Nat} {m : List (Key × Place)} (h : IxIs w x b m) (hk : Keep X w w') (hb : ¬ X b) (hx : ∀ g, x = .pointer (some ⟨g, 0, none⟩) → ¬ X g) : IxIs w' x b m := by
  obtain ⟨⟨g, rfl, hne, hc⟩, hM⟩ := h
  exact ⟨⟨g, rfl, hne, hk.cell hc (hx g rfl)⟩, hM.keep (hk.block b hM.lt hb)⟩
theorem enter_move1 (args : Array Value) (w : World) : (callFunc 53 args).run Try.prog w = .ok (.enter 53 args) w := run_enter Try.func53 (by kernel_rfl) rfl args w
theorem enter_want1 (args : Array Value) (w : World) : (callFunc 56 args).run Try.prog w = .ok (.enter 56 args) w := run_enter Try.func56 (by kernel_rfl) rfl args w

theorem move_ok (x : Value) (k : Key) (n : Int) (b : Nat) (m : List (Key × Place)) (w : World) (h : IxIs w x b m) : Calls Try.prog 33 #[x, agg k, .int .i64 n] w fun e w' =>
    e = .returned (.int .i64 (ixMove m k n).1) ∧ w.grownBy w' (some b) ∧ IxIs w' x b (ixMove m k n).2 := by
  have hblt : b < w.heap.size := h.2.lt
  have hxlt : ∀ g, x = .pointer (some ⟨g, 0, none⟩) → g < w.heap.size := fun g hg => by
    obtain ⟨⟨g', h1, _, hc⟩, _⟩ := h
    rw [hg] at h1
    injection h1 with h1
    injection h1 with h1
    injection h1 with h1
    subst h1
    exact World.block_lt_of_cell? w _ hc
  generalize hW : (w.alloc (.cells (Enc.enc k).toArray 35)).alloc (.cells #[.int .i64 n] 3) = W
  have hb : Below w.heap.size w W := by subst hW; exact fresh_alloc (fresh_alloc (fresh_refl w) _) _
  have hW0 : W.heap.size = w.heap.size + 2 := by subst hW; simp
  have hk : W.heap[w.heap.size]? = some (.cells (Enc.enc k).toArray 35) := by subst hW; rw [heap_alloc_old _ _ (by simp)]; exact heap_alloc_new _ _
  have hn : W.heap[w.heap.size + 1]? = some (.cells #[.int .i64 n] 3) := by subst hW; exact heap_alloc2_new _ _ _
  have hI := h.fresh hb
  have hcall : Calls Try.prog 52 #[x, agg k, .func (.func 53) #[] #[.pointer (some ⟨w.heap.size + 1, 0, none⟩)]] W fun e w' =>
      e = .returned (.int .i64 (ixMove m k n).1) ∧ w.grownBy w' (some b) ∧ IxIs w' x b (ixMove m k n).2 := by
    cases hlk : look m k with
    | none =>
      have hend : ixMove m k n = (6, m) := by simp [ixMove, hlk]
      rw [hend]
      refine (turn_miss_ok x _ k b m W hI hlk).mono ?_
      rintro e w' ⟨rfl, hb'⟩
      exact ⟨rfl, grown_weak (hb.trans (hb'.mono (by omega))) b, hI.fresh hb'⟩
    | some q =>
      cases hf : ixFrom n 0 262144 with
      | false =>
        have hend : ixMove m k n = (2, m) := by simp [ixMove, hlk, hf]
        rw [hend]
        refine (turn_bad_ok x 53 #[.pointer (some ⟨w.heap.size + 1, 0, none⟩)] k b (w.heap.size + 1) m W hI q hlk { q with at_ := n } (.cells #[.int .i64 n] 3) (by omega) (by omega) enter_move1 (fun w1 v hw1 hv1 hq => ?_)).mono ?_
        · have := move1_ok v (w.heap.size + 1) n q w1 hq (by rw [hw1.block _ (by omega)]; exact hn) (by omega)
          rw [hf] at this
          simpa using this
        · rintro e w' ⟨rfl, hk', _⟩
          exact ⟨rfl, ((Keep.below (X := fun i => i = b) hb).new (X := fun _ => False) (v := w.heap.size + 1) (hk'.mono (fun _ _ h => .inl h)) (by omega) (fun _ h => h.elim)).toGrown, hI.keep hk' (by omega) (fun g hg => by have := hxlt g hg; omega)⟩
      | true =>
        have hend : ixMove m k n = (0, put m k { q with at_ := n }) := by simp [ixMove, hlk, hf]
        rw [hend]
        refine (turn_good_ok x 53 #[.pointer (some ⟨w.heap.size + 1, 0, none⟩)] k b (w.heap.size + 1) m W hI q hlk { q with at_ := n } (.cells #[.int .i64 n] 3) (by omega) (by omega) (fun hg => by have := hxlt _ hg; omega) enter_move1 (fun w1 v hw1 hv1 hq => ?_)).mono ?_
        · have := move1_ok v (w.heap.size + 1) n q w1 hq (by rw [hw1.block _ (by omega)]; exact hn) (by omega)
          rw [hf] at this
          simpa using this
        · rintro e w' ⟨rfl, hk', hI', _⟩
          exact ⟨rfl, ((Keep.below (X := fun i => i = b) hb).new (X := fun i => i = b) (v := w.heap.size + 1) (hk'.mono (fun _ _ h => h.symm)) (by omega) (fun _ h => h)).toGrown, hI'⟩
  have HCALL := Lib.hid hcall
  clear hcall
  have HW := Lib.hid hW
  clear hW
  go_enter Try.func33, Try.ntmps33
  go_wp2_with (first
    | (refine st_val rfl (run_box 35 _ k rfl rfl) ?_)
    | (refine st_val rfl (load_key rfl rfl k (by rw [HW.out]; exact range_block hk)) ?_)
    | (go_at_call 52; rw [HW.out]; refine HCALL.out.mono ?_; rintro e w' ⟨rfl, h1, h2⟩))
  go_ret
  exact ⟨rfl, h1, h2⟩

set_option maxRecDepth 4000 in
theorem want_ok (x : Value) (k : Key) (n : Int) (b : Nat) (m : List (Key × Place)) (w : World) (h : IxIs w x b m) : Calls Try.prog 35 #[x, agg k, .int .i64 n] w fun e w' =>
    e = .returned (.int .i64 (ixWant m k n).1) ∧ w.grownBy w' (some b) ∧ IxIs w' x b (ixWant m k n).2 := by
  have hblt : b < w.heap.size := h.2.lt
  have hxlt : ∀ g, x = .pointer (some ⟨g, 0, none⟩) → g < w.heap.size := fun g hg => by
    obtain ⟨⟨g', h1, _, hc⟩, _⟩ := h
    rw [hg] at h1
    injection h1 with h1
    injection h1 with h1
    injection h1 with h1
    subst h1
    exact World.block_lt_of_cell? w _ hc
  generalize hW : (((w.alloc (.cells (Enc.enc k).toArray 35)).alloc (.cells #[.int .i64 n] 3)).alloc (.cells #[.bool false] 4)) = W
  have hb : Below w.heap.size w W := by subst hW; exact fresh_alloc (fresh_alloc (fresh_alloc (fresh_refl w) _) _) _
  have hW0 : W.heap.size = w.heap.size + 3 := by subst hW; simp
  have hk : W.heap[w.heap.size]? = some (.cells (Enc.enc k).toArray 35) := by subst hW; rw [heap_alloc_old _ _ (by simp; omega), heap_alloc_old _ _ (by simp)]; exact heap_alloc_new _ _
  have hn : W.heap[w.heap.size + 1]? = some (.cells #[.int .i64 n] 3) := by subst hW; rw [heap_alloc_old _ _ (by simp)]; exact heap_alloc2_new _ _ _
  have hg : W.heap[w.heap.size + 2]? = some (.cells #[.bool false] 4) := by
    subst hW
    have := heap_alloc_new ((w.alloc (.cells (Enc.enc k).toArray 35)).alloc (.cells #[.int .i64 n] 3)) (.cells #[.bool false] 4)
    simpa using this
  have hI := h.fresh hb
  have hcall : Calls Try.prog 52 #[x, agg k, .func (.func 56) #[] #[.pointer (some ⟨w.heap.size + 1, 0, none⟩), .pointer (some ⟨w.heap.size + 2, 0, none⟩)]] W fun e u =>
      e = .returned (.int .i64 (ixWant0 m k n).1) ∧ Keep (fun i => i = b ∨ i = w.heap.size + 2) W u ∧ IxIs u x b (ixWant0 m k n).2.1 ∧ u.heap[w.heap.size + 2]? = some (.cells #[.bool (ixWant0 m k n).2.2] 4) := by
    cases hlk : look m k with
    | none =>
      have hend : ixWant0 m k n = (6, m, false) := by simp [ixWant0, hlk]
      rw [hend]
      refine (turn_miss_ok x _ k b m W hI hlk).mono ?_
      rintro e w' ⟨rfl, hb'⟩
      exact ⟨rfl, Keep.below hb', hI.fresh hb', by rw [hb'.block _ (by omega)]; exact hg⟩
    | some q =>
      cases hf : ixBears q n with
      | false =>
        have hend : ixWant0 m k n = (2, m, false) := by simp [ixWant0, hlk, hf]
        rw [hend]
        refine (turn_bad_ok x 56 #[.pointer (some ⟨w.heap.size + 1, 0, none⟩), .pointer (some ⟨w.heap.size + 2, 0, none⟩)] k b (w.heap.size + 2) m W hI q hlk q (.cells #[.bool false] 4) (by omega) (by omega) enter_want1 (fun w1 v hw1 hv1 hq => ?_)).mono ?_
        · have := want1_ok v (w.heap.size + 1) (w.heap.size + 2) n false q w1 hq (by rw [hw1.block _ (by omega)]; exact hn) (by rw [hw1.block _ (by omega)]; exact hg) (by omega) (by omega) (by omega)
          rw [hf] at this
          simpa using this
        · rintro e w' ⟨rfl, hk', hd'⟩
          exact ⟨rfl, hk'.mono (fun _ _ h => .inr h), hI.keep hk' (by omega) (fun g hg => by have := hxlt g hg; omega), hd'⟩
      | true =>
        have hend : ixWant0 m k n = (0, put m k { q with refs := wrap64 (q.refs + n) }, decide (wrap64 (q.refs + n) = 0)) := by simp [ixWant0, hlk, hf]
        rw [hend]
        refine (turn_good_ok x 56 #[.pointer (some ⟨w.heap.size + 1, 0, none⟩), .pointer (some ⟨w.heap.size + 2, 0, none⟩)] k b (w.heap.size + 2) m W hI q hlk { q with refs := wrap64 (q.refs + n) } (.cells #[.bool (decide (wrap64 (q.refs + n) = 0))] 4) (by omega) (by omega) (fun hg => by have := hxlt _ hg; omega) enter_want1 (fun w1 v hw1 hv1 hq => ?_)).mono ?_
        · have := want1_ok v (w.heap.size + 1) (w.heap.size + 2) n false q w1 hq (by rw [hw1.block _ (by omega)]; exact hn) (by rw [hw1.block _ (by omega)]; exact hg) (by omega) (by omega) (by omega)
          rw [hf] at this
          simpa using this
        · rintro e w' ⟨rfl, hk', hI', hd'⟩
          exact ⟨rfl, hk', hI', hd'⟩
  clear hg
  cases hgone : (ixWant0 m k n).2.2 with
  | false =>
    have hend : ixWant m k n = ((ixWant0 m k n).1, (ixWant0 m k n).2.1) := by simp [ixWant, hgone]
    rw [hend]
    rw [hgone] at hcall
    have HG := Lib.hid hgone
    clear hgone
    have HCALL := Lib.hid hcall
    clear hcall
    have HW := Lib.hid hW
    clear hW
    go_enter Try.func35, Try.ntmps35
    go_wp2_with (first
      | (refine st_val rfl (run_box 35 _ k rfl rfl) ?_)
      | (refine st_val rfl (run_alloc1 4 (.bool false) rfl zbool rfl) ?_)
      | (refine st_skip rfl (run_store1_new (v := .bool false) 4 _ _ rfl rfl (by simp) rfl _ _ rfl rfl sbool) ?_; rw [HW.out])
      | (refine st_val rfl (load_key rfl rfl k (range_block hk)) ?_)
      | (go_at_call 52; refine HCALL.out.mono ?_; rintro e u ⟨rfl, h1, h2, h3⟩; have hg2 : u.cell? ⟨w.heap.size + 2, 0, none⟩ = some (.bool false) := range_block h3 0 _ rfl))
    go_ret
    exact ⟨rfl, ((Keep.below (X := fun i => i = b) hb).new (h1.mono (fun _ _ h => h.symm)) (by omega) (fun _ h => h)).toGrown, h2⟩
  | true =>
    have hend : ixWant m k n = ((ixWant0 m k n).1, del (ixWant0 m k n).2.1 k) := by simp [ixWant, hgone]
    rw [hend]
    rw [hgone] at hcall
    have HG := Lib.hid hgone
    clear hgone
    have HCALL := Lib.hid hcall
    clear hcall
    have HW := Lib.hid hW
    clear hW
    go_enter Try.func35, Try.ntmps35
    go_wp2_with (first
      | (refine st_val rfl (run_box 35 _ k rfl rfl) ?_)
      | (refine st_val rfl (run_alloc1 4 (.bool false) rfl zbool rfl) ?_)
      | (refine st_skip rfl (run_store1_new (v := .bool false) 4 _ _ rfl rfl (by simp) rfl _ _ rfl rfl sbool) ?_; rw [HW.out])
      | (refine st_val rfl (load_key rfl rfl k (range_block hk)) ?_)
      | (go_at_call 52; refine HCALL.out.mono ?_; rintro e u ⟨rfl, h1, h2, h3⟩; have hg2 : u.cell? ⟨w.heap.size + 2, 0, none⟩ = some (.bool true) := range_block h3 0 _ rfl))
    obtain ⟨⟨g, rfl, hne, hc⟩, hM⟩ := h2
    obtain ⟨W4, hrun, hM4, hg4, hs4⟩ := run_del keyCode 101 0 Try.underlying101 (w := u.drew) hM k
    have hS3 : u.grownBy u.drew (some b) := grown_weak (fresh_drew (fresh_refl u)) b
    have hS4 : u.grownBy W4 (some b) := hS3.trans hg4
    have hC4 : ∀ w2, u.grownBy w2 (some b) → w2.cell? ⟨g, 0, none⟩ = some (.map (some b)) := fun w2 hw => hw.cell hc (by simpa using hne)
    have hK4 : ∀ w2, u.grownBy w2 (some b) → w2.rangeAt w.heap.size 0 (Enc.enc k) := fun w2 hw => range_grown (h1.range (range_block hk) (by rintro (h | h) <;> omega)) hw (by simp; omega)
    refine held_lit (fun w' => (u).grownBy w' (some b)) 6 rfl (by kernel_rfl) ?_
    refine hl_take (v := ?_) 0 rfl (by kernel_rfl) (by rfl) ?_ hS3 (fun _ _ _ h => h) ?_
    rotate_left
    · (intro w' hw'; go_simp; try with_reducible rfl)
    simp only [Act.put, List.setIfInBounds_toArray, List.set_cons_succ, List.set_cons_zero]
    refine hl_take (v := ?_) 1 rfl (by kernel_rfl) (by rfl) ?_ hS3 (fun _ _ _ h => h) ?_
    rotate_left
    · (intro w' hw'; go_simp; try with_reducible rfl)
    simp only [Act.put, List.setIfInBounds_toArray, List.set_cons_succ, List.set_cons_zero]
    refine hl_take (v := ?_) 2 rfl (by kernel_rfl) (by rfl) ?_ hS3 (fun _ _ _ h => h) ?_
    rotate_left
    · (intro w' hw'; go_simp; try with_reducible rfl)
    simp only [Act.put, List.setIfInBounds_toArray, List.set_cons_succ, List.set_cons_zero]
    refine hl_take 3 rfl (by kernel_rfl) (by rfl) (fun w' hw' => run_load1 101 _ rfl rfl (hC4 w' hw') _ Try.underlying101 rfl) hS3 (fun _ _ _ h => h) ?_
    simp only [Act.put, List.setIfInBounds_toArray, List.set_cons_succ, List.set_cons_zero]
    refine hl_take 4 rfl (by kernel_rfl) (by rfl) (fun w' hw' => load_key rfl rfl k (hK4 w' hw')) hS3 (fun _ _ _ h => h) ?_
    simp only [Act.put, List.setIfInBounds_toArray, List.set_cons_succ, List.set_cons_zero]
    refine hl_one 5 (by kernel_rfl) (hs_val rfl (by rfl) (op_del' _ _ _ rfl rfl rfl hrun) hS4 ?_)
    simp only [Act.put, List.setIfInBounds_toArray, List.set_cons_succ, List.set_cons_zero]
    refine hl_done (by kernel_rfl) ?_
    go_wp2
    go_ret
    exact ⟨rfl, ((Keep.below (X := fun i => i = b) hb).new (h1.mono (fun _ _ h => h.symm)) (by omega) (fun _ h => h)).toGrown.trans hS4, ⟨⟨g, rfl, hne, hC4 _ hS4⟩, hM4⟩⟩
end Go.Pb
