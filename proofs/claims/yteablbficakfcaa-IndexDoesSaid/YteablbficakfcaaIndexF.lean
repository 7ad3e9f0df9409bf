/- The index of extents: what the statements ask first: is an extent added, wanted, let go. -/
import Derived.Test.YteablbficakfcaaIndexE
set_option linter.unusedVariables false
set_option linter.unusedSimpArgs false
set_option linter.unusedSectionVars false
namespace Go.Pb
open Go.RowKit Go.Proofs Go.BigFrame

theorem enter_add (args : Array Value) (w : World) : (callFunc 28 args).run Try.prog w = .ok (.enter 28 args) w := run_enter Try.func28 (by kernel_rfl) rfl args w
theorem enter_get (args : Array Value) (w : World) : (callFunc 37 args).run Try.prog w = .ok (.enter 37 args) w := run_enter Try.func37 (by kernel_rfl) rfl args w
theorem enter_move (args : Array Value) (w : World) : (callFunc 33 args).run Try.prog w = .ok (.enter 33 args) w := run_enter Try.func33 (by kernel_rfl) rfl args w
theorem enter_want (args : Array Value) (w : World) : (callFunc 35 args).run Try.prog w = .ok (.enter 35 args) w := run_enter Try.func35 (by kernel_rfl) rfl args w

def key7 : Key := ⟨7 :: List.replicate 31 0, by simp⟩
def place5 : Place := ⟨5, 2, 1, 1⟩
def place53 : Place := ⟨5, 2, 1, 3⟩
theorem aw_add1 : ixAdd [] key7 place5 = (0, [(key7, place5)]) := by kernel_rfl
theorem aw_add2 : ixAdd [(key7, place5)] key7 place5 = (7, [(key7, place5)]) := by kernel_rfl
theorem aw_want1 : ixWant [(key7, place5)] key7 2 = (0, [(key7, place53)]) := by kernel_rfl
theorem aw_want2 : ixWant [(key7, place53)] key7 (-4) = (2, [(key7, place53)]) := by kernel_rfl
theorem aw_want3 : ixWant [(key7, place53)] key7 (-3) = (0, []) := by kernel_rfl
theorem aw_get : look [(key7, place53)] key7 = some place53 := by kernel_rfl

set_option maxRecDepth 8000 in
theorem awake22_ok (w : World) : Calls Try.prog 25 #[] w fun e w' => e = .returned (.bool true) ∧ Below w.heap.size w w' := by
  go_enter Try.func25, Try.ntmps25
  go_wp2_with (first
    | (go_at_call 26; refine (new_ok w).mono ?_; rintro e w1 ⟨x, b, rfl, hI, hbge, hb1, g, rfl, hg⟩)
    | (refine st_val rfl (run_alloc 35 Key.zero zero35 rfl) ?_)
    | (refine st_skip rfl (run_store_new 35 _ _ rfl rfl (by simp) key7 Key.zero rfl 35 s35) ?_)
    | (refine st_val rfl (run_alloc 38 Place.zero zero38 rfl) ?_)
    | (refine st_skip rfl (run_store_new 38 _ _ rfl rfl (by simp) place5 Place.zero rfl 38 s38) ?_))
  simp only [Act.put, List.setIfInBounds_toArray, List.set_cons_succ, List.set_cons_zero]
  generalize hB : (w1.alloc (.cells (Enc.enc key7).toArray 35)).alloc (.cells (Enc.enc place5).toArray 38) = B
  have hb2 : Below w1.heap.size w1 B := by subst hB; exact fresh_alloc (fresh_alloc (fresh_refl w1) _) _
  have hk : B.heap[w1.heap.size]? = some (.cells (Enc.enc key7).toArray 35) := by subst hB; rw [heap_alloc_old _ _ (by simp)]; exact heap_alloc_new _ _
  have hp : B.heap[(w1.alloc (.cells (Enc.enc key7).toArray 35)).heap.size]? = some (.cells (Enc.enc place5).toArray 38) := by subst hB; exact heap_alloc_new _ _
  have hbw : b < w1.heap.size := hI.2.lt
  have hI0 := hI.fresh (fresh_drew hb2)
  have hS0 : B.grownBy B.drew (some b) := grown_weak (fresh_drew (fresh_refl B)) b
  have hK : ∀ w', B.grownBy w' (some b) → w'.rangeAt w1.heap.size 0 (Enc.enc key7) := fun w' hw => range_grown (range_block hk) hw (by simp; omega)
  have hP : ∀ w', B.grownBy w' (some b) → w'.rangeAt (w1.alloc (.cells (Enc.enc key7).toArray 35)).heap.size 0 (Enc.enc place5) := fun w' hw => range_grown (range_block hp) hw (by simp; omega)
  clear hB
  refine held_lit (fun w' => B.grownBy w' (some b)) 14 rfl (by kernel_rfl) ?_
  refine hl_take (v := ?_) 0 rfl (by kernel_rfl) (by rfl) ?_ hS0 (fun _ _ _ h => h) ?_
  rotate_left
  · (intro w' hw'; go_simp; try with_reducible rfl)
  simp only [Act.put, List.setIfInBounds_toArray, List.set_cons_succ, List.set_cons_zero]
  refine hl_take 1 rfl (by kernel_rfl) (by rfl) (fun w' hw' => load_key rfl rfl key7 (hK w' hw')) hS0 (fun _ _ _ h => h) ?_
  simp only [Act.put, List.setIfInBounds_toArray, List.set_cons_succ, List.set_cons_zero]
  refine hl_take 2 rfl (by kernel_rfl) (by rfl) (fun w' hw' => load_place rfl rfl place5 (hP w' hw')) hS0 (fun _ _ _ h => h) ?_
  simp only [Act.put, List.setIfInBounds_toArray, List.set_cons_succ, List.set_cons_zero]
  refine hl_take (v := ?_) 4 rfl (by kernel_rfl) (by rfl) ?_ hS0 (fun _ _ _ h => h) ?_
  rotate_left
  · (intro w' hw'; go_simp; try with_reducible rfl)
  simp only [Act.put, List.setIfInBounds_toArray, List.set_cons_succ, List.set_cons_zero]
  refine hl_take 5 rfl (by kernel_rfl) (by rfl) (fun w' hw' => load_key rfl rfl key7 (hK w' hw')) hS0 (fun _ _ _ h => h) ?_
  simp only [Act.put, List.setIfInBounds_toArray, List.set_cons_succ, List.set_cons_zero]
  refine hl_take 6 rfl (by kernel_rfl) (by rfl) (fun w' hw' => load_place rfl rfl place5 (hP w' hw')) hS0 (fun _ _ _ h => h) ?_
  simp only [Act.put, List.setIfInBounds_toArray, List.set_cons_succ, List.set_cons_zero]
  refine hl_take (v := ?_) 8 rfl (by kernel_rfl) (by rfl) ?_ hS0 (fun _ _ _ h => h) ?_
  rotate_left
  · (intro w' hw'; go_simp; try with_reducible rfl)
  simp only [Act.put, List.setIfInBounds_toArray, List.set_cons_succ, List.set_cons_zero]
  refine hl_take 9 rfl (by kernel_rfl) (by rfl) (fun w' hw' => load_key rfl rfl key7 (hK w' hw')) hS0 (fun _ _ _ h => h) ?_
  simp only [Act.put, List.setIfInBounds_toArray, List.set_cons_succ, List.set_cons_zero]
  refine hl_one 3 (by kernel_rfl) (hs_call rfl (by rfl) 28 [.tmp 16, .tmp 17, .tmp 18] _ rfl [.pointer (some ⟨g, 0, none⟩), agg key7, agg place5] rfl enter_add (add_ok _ key7 place5 b [] _ hI0) (fun e u1 he => ?_))
  rw [aw_add1] at he
  obtain ⟨rfl, hg1, hI1⟩ := he
  refine ⟨_, rfl, hS0.trans hg1, ?_⟩
  simp only [Act.put, List.setIfInBounds_toArray, List.set_cons_succ, List.set_cons_zero]
  refine hl_one 7 (by kernel_rfl) (hs_call rfl (by rfl) 28 [.tmp 20, .tmp 21, .tmp 22] _ rfl [.pointer (some ⟨g, 0, none⟩), agg key7, agg place5] rfl enter_add (add_ok _ key7 place5 b _ _ hI1) (fun e u2 he => ?_))
  rw [aw_add2] at he
  obtain ⟨rfl, hg2, hI2⟩ := he
  refine ⟨_, rfl, (hS0.trans hg1).trans hg2, ?_⟩
  simp only [Act.put, List.setIfInBounds_toArray, List.set_cons_succ, List.set_cons_zero]
  refine hl_one 10 (by kernel_rfl) (hs_call rfl (by rfl) 35 [.tmp 24, .tmp 25, .const (.int .i64 2)] _ rfl [.pointer (some ⟨g, 0, none⟩), agg key7, .int .i64 2] rfl enter_want (want_ok _ key7 2 b _ _ hI2) (fun e u3 he => ?_))
  rw [aw_want1] at he
  obtain ⟨rfl, hg3, hI3⟩ := he
  have hS3 := ((hS0.trans hg1).trans hg2).trans hg3
  refine ⟨_, rfl, hS3, ?_⟩
  simp only [Act.put, List.setIfInBounds_toArray, List.set_cons_succ, List.set_cons_zero]
  refine hl_take (v := ?_) 11 rfl (by kernel_rfl) (by rfl) ?_ hS3 (fun _ _ _ h => h) ?_
  rotate_left
  · (intro w' hw'; go_simp; try with_reducible rfl)
  simp only [Act.put, List.setIfInBounds_toArray, List.set_cons_succ, List.set_cons_zero]
  refine hl_take (v := ?_) 12 rfl (by kernel_rfl) (by rfl) ?_ hS3 (fun _ _ _ h => h) ?_
  rotate_left
  · (intro w' hw'; go_simp; try with_reducible rfl)
  simp only [Act.put, List.setIfInBounds_toArray, List.set_cons_succ, List.set_cons_zero]
  refine hl_take (v := ?_) 13 rfl (by kernel_rfl) (by rfl) ?_ hS3 (fun _ _ _ h => h) ?_
  rotate_left
  · (intro w' hw'; go_simp; try with_reducible rfl)
  simp only [Act.put, List.setIfInBounds_toArray, List.set_cons_succ, List.set_cons_zero]
  refine hl_done (by kernel_rfl) ?_
  have hK3 := hK _ hS3
  clear hI1 hI2 hg1 hg2 hg3 hS0 hI0 hI
  have hget := get_ok _ key7 b _ _ hI3
  rw [aw_get] at hget
  go_wp2_with (first
    | (refine st_val rfl (load_key rfl rfl key7 hK3) ?_)
    | (go_at_call 37; refine hget.mono ?_; rintro e u4 ⟨rfl, hb4⟩)
    | (refine st_val rfl (run_alloc 38 Place.zero zero38 rfl) ?_)
    | (refine st_skip rfl (run_store_new 38 _ _ rfl rfl rfl place53 Place.zero rfl 38 s38) ?_))
  generalize hC : u4.alloc (.cells (Enc.enc place53).toArray 38) = C
  have hb5 : Below u3.heap.size u3 C := by subst hC; exact fresh_alloc hb4 _
  have hq : C.heap[u4.heap.size]? = some (.cells (Enc.enc place53).toArray 38) := by subst hC; exact heap_alloc_new _ _
  have hbu : b < u4.heap.size := Nat.lt_of_lt_of_le hI3.2.lt hb4.size
  have hSC : B.grownBy C (some b) := hS3.trans (grown_weak hb5 b)
  have hI4 := hI3.fresh (fresh_drew hb5)
  have hS4 : C.grownBy C.drew (some b) := grown_weak (fresh_drew (fresh_refl C)) b
  have hK4 : ∀ w', C.grownBy w' (some b) → w'.rangeAt w1.heap.size 0 (Enc.enc key7) := fun w' hw => hK w' (hSC.trans hw)
  clear hC
  refine held_lit (fun w' => C.grownBy w' (some b)) 8 rfl (by kernel_rfl) ?_
  refine hl_take (v := ?_) 0 rfl (by kernel_rfl) (by rfl) ?_ hS4 (fun _ _ _ h => h) ?_
  rotate_left
  · (intro w' hw'; go_simp; try with_reducible rfl)
  simp only [Act.put, List.setIfInBounds_toArray, List.set_cons_succ, List.set_cons_zero]
  refine hl_take 1 rfl (by kernel_rfl) (by rfl) (fun w' hw' => load_key rfl rfl key7 (hK4 w' hw')) hS4 (fun _ _ _ h => h) ?_
  simp only [Act.put, List.setIfInBounds_toArray, List.set_cons_succ, List.set_cons_zero]
  refine hl_take (v := ?_) 3 rfl (by kernel_rfl) (by rfl) ?_ hS4 (fun _ _ _ h => h) ?_
  rotate_left
  · (intro w' hw'; go_simp; try with_reducible rfl)
  simp only [Act.put, List.setIfInBounds_toArray, List.set_cons_succ, List.set_cons_zero]
  refine hl_take 4 rfl (by kernel_rfl) (by rfl) (fun w' hw' => load_key rfl rfl key7 (hK4 w' hw')) hS4 (fun _ _ _ h => h) ?_
  simp only [Act.put, List.setIfInBounds_toArray, List.set_cons_succ, List.set_cons_zero]
  refine hl_one 2 (by kernel_rfl) (hs_call rfl (by rfl) 35 [.tmp 33, .tmp 34, .const (.int .i64 (-4))] _ rfl [.pointer (some ⟨g, 0, none⟩), agg key7, .int .i64 (-4)] rfl enter_want (want_ok _ key7 (-4) b _ _ hI4) (fun e u5 he => ?_))
  rw [aw_want2] at he
  obtain ⟨rfl, hg5, hI5⟩ := he
  refine ⟨_, rfl, hS4.trans hg5, ?_⟩
  simp only [Act.put, List.setIfInBounds_toArray, List.set_cons_succ, List.set_cons_zero]
  refine hl_one 5 (by kernel_rfl) (hs_call rfl (by rfl) 35 [.tmp 36, .tmp 37, .const (.int .i64 (-3))] _ rfl [.pointer (some ⟨g, 0, none⟩), agg key7, .int .i64 (-3)] rfl enter_want (want_ok _ key7 (-3) b _ _ hI5) (fun e u6 he => ?_))
  rw [aw_want3] at he
  obtain ⟨rfl, hg6, hI6⟩ := he
  have hS6 := (hS4.trans hg5).trans hg6
  refine ⟨_, rfl, hS6, ?_⟩
  simp only [Act.put, List.setIfInBounds_toArray, List.set_cons_succ, List.set_cons_zero]
  refine hl_take (v := ?_) 6 rfl (by kernel_rfl) (by rfl) ?_ hS6 (fun _ _ _ h => h) ?_
  rotate_left
  · (intro w' hw'; go_simp; try with_reducible rfl)
  simp only [Act.put, List.setIfInBounds_toArray, List.set_cons_succ, List.set_cons_zero]
  refine hl_take (v := ?_) 7 rfl (by kernel_rfl) (by rfl) ?_ hS6 (fun _ _ _ h => h) ?_
  rotate_left
  · (intro w' hw'; go_simp; try with_reducible rfl)
  simp only [Act.put, List.setIfInBounds_toArray, List.set_cons_succ, List.set_cons_zero]
  refine hl_done (by kernel_rfl) ?_
  have hK6 := hK4 _ hS6
  have hget2 := get_ok _ key7 b _ _ hI6
  have hQ6 : u6.rangeAt u4.heap.size 0 (Enc.enc place53) := range_grown (range_block hq) hS6 (by simp; omega)
  have hlast : B.grownBy u6 (some b) := hSC.trans hS6
  clear hI5 hI4 hg5 hg6 hget hK hP hK4
  go_wp2_with (first
    | (refine st_val rfl (load_key rfl rfl key7 hK6) ?_)
    | (go_at_call 37; refine hget2.mono ?_; rintro e u7 ⟨rfl, hb7⟩)
    | (refine st_val rfl (run_alloc 38 Place.zero zero38 rfl) ?_)
    | (refine st_skip rfl (run_store_new 38 _ _ rfl rfl rfl Place.zero Place.zero rfl 38 s38) ?_;
       have hr7 := range_fresh hQ6 (fresh_alloc hb7 (.cells (Enc.enc Place.zero).toArray 38));
       have c0 : (u7.alloc (.cells (Enc.enc Place.zero).toArray 38)).cell? ⟨u4.heap.size, 0, none⟩ = some (.int .i64 5) := hr7 0 _ rfl;
       have c3 : (u7.alloc (.cells (Enc.enc Place.zero).toArray 38)).cell? ⟨u4.heap.size, 3, none⟩ = some (.int .i64 3) := hr7 3 _ rfl;
       have hlen := len_ok _ b _ _ (hI6.fresh (fresh_alloc hb7 (.cells (Enc.enc Place.zero).toArray 38))))
    | (go_at_call 30; refine hlen.mono ?_; rintro e u8 ⟨rfl, rfl⟩))
  go_ret
  refine ⟨rfl, fresh_alloc (fresh_trans (fresh_grown (fresh_trans hb1 hb2) hlast (fun k hk => by injection hk with hk; omega)) hb7) _⟩

theorem items_none_ok (x : Value) (w : World) (h : NoIx w x) : Calls Try.prog 29 #[x] w fun e w' => e = .returned (.slice none 0 0) ∧ w = w' := by
  go_enter Try.func29, Try.ntmps29
  go_wp2_with (go_at_call 45; refine (there_none_ok _ _ h).mono ?_; rintro e w' ⟨rfl, rfl⟩)
  go_ret
  exact ⟨rfl, rfl⟩
end Go.Pb
