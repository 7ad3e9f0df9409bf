/- IndexNone, the walk: indexes that aren't there have nothing. -/
import Derived.Test.YtojadcanbdlbmaaIndexF
set_option linter.unusedVariables false
set_option linter.unusedSimpArgs false
set_option linter.unusedSectionVars false
namespace Go.Pb
open Go.RowKit Go.Proofs Go.BigFrame

structure Deed where
  kind : Int
  key : Key
  place : Place
  n : Int
def encDeed (d : Deed) : List Value := [intV d.kind] ++ (encKey d.key ++ (encPlace d.place ++ [intV d.n]))
instance : Enc Deed := ⟨encDeed, 38, fun d => by simp [encDeed, encKey_len, encPlace], fun d v hv => by
  simp only [encDeed, List.mem_append, List.mem_cons, List.not_mem_nil, or_false] at hv
  rcases hv with rfl | h | h | rfl
  · rfl
  · exact encKey_one _ v h
  · exact encPlace_one _ v h
  · rfl, by decide⟩
theorem deed_parts {w : World} {b o : Nat} {d : Deed} (h : w.rangeAt b o (Enc.enc d)) :
    w.cell? ⟨b, o, none⟩ = some (intV d.kind) ∧ w.rangeAt b (o + 1) (Enc.enc d.key) ∧ w.rangeAt b (o + 33) (Enc.enc d.place) ∧ w.cell? ⟨b, o + 37, none⟩ = some (intV d.n) := by
  have hl : (encKey d.key).length = 32 := encKey_len _
  refine ⟨h 0 _ rfl, ?_, ?_, ?_⟩
  · have := range_sub h 1 32
    have e : ((Enc.enc d).drop 1).take 32 = Enc.enc d.key := by
      show ((encDeed d).drop 1).take 32 = encKey d.key
      simp [encDeed, hl]
    rwa [e] at this
  · have := range_sub h 33 4
    have e : ((Enc.enc d).drop 33).take 4 = Enc.enc d.place := by
      show ((encDeed d).drop 33).take 4 = encPlace d.place
      simp [encDeed, hl, encPlace, List.drop_append]
    rwa [e] at this
  · refine h 37 _ ?_
    show (encDeed d)[37]? = _
    simp [encDeed, hl, encPlace, List.getElem?_append]

theorem sint : (Try.prog.info? 3).map (·.size) = some 1 := by kernel_rfl
theorem sptr : (Try.prog.info? 54).map (·.size) = some 1 := by kernel_rfl
/-- What the two are. -/
structure NoneAt (w : World) (s : Nat) (X : Nat → Value) : Prop where
  cells : ∀ k, k < 2 → w.cell? ⟨s, k, none⟩ = some (X k)
  noix : ∀ k, k < 2 → NoIx w (X k)
theorem NoneAt.fresh {w w' : World} {s : Nat} {X : Nat → Value} (h : NoneAt w s X) (hb : Below w.heap.size w w') : NoneAt w' s X :=
  ⟨fun k hk => (hb.cell (p := ⟨s, k, none⟩) (World.block_lt_of_cell? w _ (h.cells k hk))).trans (h.cells k hk), fun k hk => (h.noix k hk).fresh hb⟩

theorem len_none_b (x : Value) (w : World) (h : NoIx w x) : Calls Try.prog 37 #[x] w fun e w' => e = .returned (.int .i64 0) ∧ Below w.heap.size w w' := (len_none_ok x w h).mono (fun _ _ h => ⟨h.1, by rw [← h.2]; exact fresh_refl _⟩)
theorem items_none_b (x : Value) (w : World) (h : NoIx w x) : Calls Try.prog 36 #[x] w fun e w' => e = .returned (.slice none 0 0) ∧ Below w.heap.size w w' := (items_none_ok x w h).mono (fun _ _ h => ⟨h.1, by rw [← h.2]; exact fresh_refl _⟩)
theorem enter_items (args : Array Value) (w : World) : (callFunc 36 args).run Try.prog w = .ok (.enter 36 args) w := run_enter Try.func36 (by kernel_rfl) rfl args w
theorem enter_len (args : Array Value) (w : World) : (callFunc 37 args).run Try.prog w = .ok (.enter 37 args) w := run_enter Try.func37 (by kernel_rfl) rfl args w

set_option maxRecDepth 8000 in
theorem indexNone_ok (d : Deed) (w : World) : Calls Try.prog 10 #[agg d] w fun e w' => e = .returned (.bool true) ∧ Below w.heap.size w w' := by
  go_enter Try.func10, Try.ntmps10
  go_wp2_with (first
    | (refine st_val rfl (run_box 53 _ d rfl rfl) ?_)
    | (go_at_call 32; refine (awake22_ok _).mono ?_; rintro e w1 ⟨rfl, hb1⟩))
  generalize hB : (w1.alloc (.cells #[Value.map none] 72)).alloc (.cells #[Value.pointer none, Value.pointer (some ⟨w1.heap.size, 0, none⟩)] 54) = B
  have hb2 : Below w1.heap.size w1 B := by subst hB; exact fresh_alloc (fresh_alloc (fresh_refl w1) _) _
  have hd1 : B.rangeAt w.heap.size 0 (Enc.enc d) := range_fresh (range_fresh (range_block (heap_alloc_new w _)) hb1) hb2
  have hs : B.heap[w1.heap.size + 1]? = some (.cells #[Value.pointer none, Value.pointer (some ⟨w1.heap.size, 0, none⟩)] 54) := by subst hB; exact heap_alloc2_new _ _ _
  have hg : B.heap[w1.heap.size]? = some (.cells #[Value.map none] 72) := by subst hB; rw [heap_alloc_old _ _ (by simp)]; exact heap_alloc_new _ _
  have hbw : Below w.heap.size w B := fresh_trans (fresh_trans (fresh_alloc (fresh_refl w) _) hb1) hb2
  have hN : ∃ X, NoneAt B (w1.heap.size + 1) X := by
    refine ⟨fun k => if k = 0 then .pointer none else .pointer (some ⟨w1.heap.size, 0, none⟩), fun k hk => ?_, fun k hk => ?_⟩
    · have hr := range_block hs
      rcases Nat.lt_or_ge k 1 with h | h
      · obtain rfl : k = 0 := by omega
        exact hr 0 _ rfl
      · obtain rfl : k = 1 := by omega
        exact hr 1 _ rfl
    · rcases Nat.lt_or_ge k 1 with h | h
      · obtain rfl : k = 0 := by omega
        exact .inl rfl
      · obtain rfl : k = 1 := by omega
        exact .inr ⟨_, rfl, range_block hg 0 _ rfl⟩
  obtain ⟨X, hX⟩ := hN
  clear hB hs hg hb1 hb2
  go_loopw [4] (fun i wr => ∃ k : Nat, k ≤ 2 ∧ i = .int .i64 k ∧ Below B.heap.size B wr) (fun i _ => 2 - (intOf i).toNat)
  case atStart => exact ⟨0, by omega, rfl, fresh_refl B⟩
  case round =>
    obtain ⟨k, hk, rfl, hbr⟩ := hrel
    by_cases hlt : k < 2
    · go_wp2
      have hXr := hX.fresh hbr
      have hdr := range_fresh hd1 hbr
      have hS0 : Below wr.heap.size wr wr.drew := fresh_drew (fresh_refl wr)
      have hXc : ∀ w', Below wr.heap.size wr w' → w'.cell? ⟨w1.heap.size + 1, 0 + k * 1, none⟩ = some (X k) := fun w' hw => by simpa using (hXr.fresh hw).cells k hlt
      have hDk : ∀ w', Below wr.heap.size wr w' → w'.rangeAt w.heap.size 1 (Enc.enc d.key) := fun w' hw => by simpa using (deed_parts (range_fresh hdr hw)).2.1
      refine held_lit (fun w' => Below wr.heap.size wr w') 13 rfl (by kernel_rfl) ?_
      refine hl_take (v := ?_) 0 rfl (by kernel_rfl) (by rfl) ?_ hS0 (fun _ _ _ h => h) ?_
      rotate_left
      · (intro w' hw'; go_simp; try with_reducible rfl)
      simp only [Act.put, List.setIfInBounds_toArray, List.set_cons_succ, List.set_cons_zero]
      refine hl_take (v := ?_) 1 rfl (by kernel_rfl) (by rfl) ?_ hS0 (fun _ _ _ h => h) ?_
      rotate_left
      · (intro w' hw'; go_simp; try with_reducible rfl)
      simp only [Act.put, List.setIfInBounds_toArray, List.set_cons_succ, List.set_cons_zero]
      refine hl_take 2 rfl (by kernel_rfl) (by rfl) (fun w' hw' => run_elem 73 54 _ _ rfl Try.underlying73 1 sptr rfl k rfl hlt) hS0 (fun _ _ _ h => h) ?_
      simp only [Act.put, List.setIfInBounds_toArray, List.set_cons_succ, List.set_cons_zero]
      refine hl_take 3 rfl (by kernel_rfl) (by rfl) (fun w' hw' => run_load1 54 _ rfl rfl (hXc w' hw') _ Try.underlying54 rfl) hS0 (fun _ _ _ h => h) ?_
      simp only [Act.put, List.setIfInBounds_toArray, List.set_cons_succ, List.set_cons_zero]
      refine hl_take (v := ?_) 4 rfl (by kernel_rfl) (by rfl) ?_ hS0 (fun _ _ _ h => h) ?_
      rotate_left
      · (intro w' hw'; go_simp; try with_reducible rfl)
      simp only [Act.put, List.setIfInBounds_toArray, List.set_cons_succ, List.set_cons_zero]
      refine hl_take 5 rfl (by kernel_rfl) (by rfl) (fun w' hw' => load_key rfl rfl d.key (hDk w' hw')) hS0 (fun _ _ _ h => h) ?_
      simp only [Act.put, List.setIfInBounds_toArray, List.set_cons_succ, List.set_cons_zero]
      refine hl_two 6 10 (by kernel_rfl) ?_ ?_
      · refine hs_call rfl (by rfl) 44 [.tmp 20, .tmp 22] _ rfl [X k, agg d.key] rfl enter_get (get_none_ok _ d.key _ ((hXr.fresh hS0).noix k hlt)) (fun e v1 he => ?_)
        obtain ⟨rfl, hv1⟩ := he
        have hS1 := fresh_trans hS0 hv1
        refine ⟨_, rfl, hS1, ?_⟩
        simp only [Act.put, List.setIfInBounds_toArray, List.set_cons_succ, List.set_cons_zero]
        refine hl_take (v := ?_) 7 rfl (by kernel_rfl) (by rfl) ?_ hS1 (fun _ _ _ h => h) ?_
        rotate_left
        · (intro w' hw'; go_simp; try with_reducible rfl)
        simp only [Act.put, List.setIfInBounds_toArray, List.set_cons_succ, List.set_cons_zero]
        refine hl_take (v := ?_) 8 rfl (by kernel_rfl) (by rfl) ?_ hS1 (fun _ _ _ h => h) ?_
        rotate_left
        · (intro w' hw'; go_simp; try with_reducible rfl)
        simp only [Act.put, List.setIfInBounds_toArray, List.set_cons_succ, List.set_cons_zero]
        refine hl_take (v := ?_) 9 rfl (by kernel_rfl) (by rfl) ?_ hS1 (fun _ _ _ h => h) ?_
        rotate_left
        · (intro w' hw'; go_simp; try with_reducible rfl)
        simp only [Act.put, List.setIfInBounds_toArray, List.set_cons_succ, List.set_cons_zero]
        refine hl_one 10 (by kernel_rfl) (hs_val rfl (by rfl) (run_alloc 38 Place.zero zero38 rfl) (fresh_alloc hS1 _) ?_)
        simp only [Act.put, List.setIfInBounds_toArray, List.set_cons_succ, List.set_cons_zero]
        refine hl_one 11 (by kernel_rfl) (hs_skip rfl (by rfl) (run_store_new 38 _ _ rfl rfl rfl Place.zero Place.zero rfl 38 s38) (fresh_alloc hS1 _) ?_)
        simp only [Act.put, List.setIfInBounds_toArray, List.set_cons_succ, List.set_cons_zero]
        have hS2 : Below wr.heap.size wr (v1.alloc (.cells (Enc.enc Place.zero).toArray 38)) := fresh_alloc hS1 _
        have hp2 := range_block (heap_alloc_new v1 (.cells (Enc.enc Place.zero).toArray 38))
        generalize hgp : v1.heap.size = gp at hp2
        generalize hv2 : v1.alloc (.cells (Enc.enc Place.zero).toArray 38) = v2 at hS2 hp2
        refine hl_take (v := ?_) 12 rfl (by kernel_rfl) (by rfl) ?_ hS2 (fun _ _ _ h => h) ?_
        rotate_left
        · (intro w' hw'; go_simp; try with_reducible rfl)
        simp only [Act.put, List.setIfInBounds_toArray, List.set_cons_succ, List.set_cons_zero]
        refine hl_done (by kernel_rfl) ?_
        clear hv2 hgp hv1 hS1
        go_wp2
        have hXv := hXr.fresh hS2
        have hdv := range_fresh hdr hS2
        have hXd : ∀ w', (∃ x : Fr v2, w' = x.1) → w'.cell? ⟨w1.heap.size + 1, 0 + k * 1, none⟩ = some (X k) := by rintro _ ⟨x, rfl⟩; simpa using (hXv.fresh x.2).cells k hlt
        have hDk2 : ∀ w', (∃ x : Fr v2, w' = x.1) → w'.rangeAt w.heap.size (0 + 1) (Enc.enc d.key) := by rintro _ ⟨x, rfl⟩; exact (deed_parts (range_fresh hdv x.2)).2.1
        have hDp2 : ∀ w', (∃ x : Fr v2, w' = x.1) → w'.rangeAt w.heap.size (0 + 33) (Enc.enc d.place) := by rintro _ ⟨x, rfl⟩; exact (deed_parts (range_fresh hdv x.2)).2.2.1
        have hDn2 : ∀ w', (∃ x : Fr v2, w' = x.1) → w'.cell? ⟨w.heap.size, 0 + 37, none⟩ = some (.int .i64 d.n) := by rintro _ ⟨x, rfl⟩; exact (deed_parts (range_fresh hdv x.2)).2.2.2
        have hPp2 : ∀ w', (∃ x : Fr v2, w' = x.1) → w'.rangeAt gp 0 (Enc.enc Place.zero) := by rintro _ ⟨x, rfl⟩; exact range_fresh hp2 x.2
        refine wp_region_fresh_lit (by kernel_rfl) (by kernel_rfl) ?_
        first | go_big_quiet_step (fail) | (refine sq_val (v := ?_) (by rfl) ?_ ?_; rotate_left; (focus (rintro w' ⟨x, rfl⟩; go_simp; try with_reducible rfl)); simp only [Act.put, List.setIfInBounds_toArray, List.set_cons_succ, List.set_cons_zero])
        first | go_big_quiet_step (fail) | (refine sq_val (v := ?_) (by rfl) ?_ ?_; rotate_left; (focus (rintro w' ⟨x, rfl⟩; go_simp; try with_reducible rfl)); simp only [Act.put, List.setIfInBounds_toArray, List.set_cons_succ, List.set_cons_zero])
        refine sq_val (by rfl) (fun w' hw' => run_elem 73 54 _ _ rfl Try.underlying73 1 sptr rfl k rfl hlt) ?_
        simp only [Act.put, List.setIfInBounds_toArray, List.set_cons_succ, List.set_cons_zero]
        refine sq_val (by rfl) (fun w' hw' => run_load1 54 _ rfl rfl (hXd w' hw') _ Try.underlying54 rfl) ?_
        simp only [Act.put, List.setIfInBounds_toArray, List.set_cons_succ, List.set_cons_zero]
        refine sq_val (by rfl) (fun w' hw' => run_faddr 53 _ 1 rfl rfl _ Try.underlying53 1 _ rfl rfl 31 s35) ?_
        simp only [Act.put, List.setIfInBounds_toArray, List.set_cons_succ, List.set_cons_zero]
        refine sq_val (by rfl) (fun w' hw' => load_key rfl rfl d.key (hDk2 w' hw')) ?_
        simp only [Act.put, List.setIfInBounds_toArray, List.set_cons_succ, List.set_cons_zero]
        refine sq_val (by rfl) (fun w' hw' => run_faddr 53 _ 2 rfl rfl _ Try.underlying53 33 _ rfl rfl 3 s38) ?_
        simp only [Act.put, List.setIfInBounds_toArray, List.set_cons_succ, List.set_cons_zero]
        refine sq_val (by rfl) (fun w' hw' => load_place rfl rfl d.place (hDp2 w' hw')) ?_
        simp only [Act.put, List.setIfInBounds_toArray, List.set_cons_succ, List.set_cons_zero]
        refine sq_call (by rfl) 35 [.tmp 29, .tmp 31, .tmp 33] _ rfl [X k, agg d.key, agg d.place] rfl enter_add (fr_call (fun w' hw' => add_none_ok _ d.key d.place _ ((hXv.fresh hw').noix k hlt))) ?_
        simp only [Act.put, List.setIfInBounds_toArray, List.set_cons_succ, List.set_cons_zero]
        first | go_big_quiet_step (fail) | (refine sq_val (v := ?_) (by rfl) ?_ ?_; rotate_left; (focus (rintro w' ⟨x, rfl⟩; go_simp; try with_reducible rfl)); simp only [Act.put, List.setIfInBounds_toArray, List.set_cons_succ, List.set_cons_zero])
        first | go_big_quiet_step (fail) | (refine sq_val (v := ?_) (by rfl) ?_ ?_; rotate_left; (focus (rintro w' ⟨x, rfl⟩; go_simp; try with_reducible rfl)); simp only [Act.put, List.setIfInBounds_toArray, List.set_cons_succ, List.set_cons_zero])
        first | go_big_quiet_step (fail) | (refine sq_val (v := ?_) (by rfl) ?_ ?_; rotate_left; (focus (rintro w' ⟨x, rfl⟩; go_simp; try with_reducible rfl)); simp only [Act.put, List.setIfInBounds_toArray, List.set_cons_succ, List.set_cons_zero])
        first | go_big_quiet_step (fail) | (refine sq_val (v := ?_) (by rfl) ?_ ?_; rotate_left; (focus (rintro w' ⟨x, rfl⟩; go_simp; try with_reducible rfl)); simp only [Act.put, List.setIfInBounds_toArray, List.set_cons_succ, List.set_cons_zero])
        refine sq_val (by rfl) (fun w' hw' => run_elem 73 54 _ _ rfl Try.underlying73 1 sptr rfl k rfl hlt) ?_
        simp only [Act.put, List.setIfInBounds_toArray, List.set_cons_succ, List.set_cons_zero]
        refine sq_val (by rfl) (fun w' hw' => run_load1 54 _ rfl rfl (hXd w' hw') _ Try.underlying54 rfl) ?_
        simp only [Act.put, List.setIfInBounds_toArray, List.set_cons_succ, List.set_cons_zero]
        refine sq_val (by rfl) (fun w' hw' => run_faddr 53 _ 1 rfl rfl _ Try.underlying53 1 _ rfl rfl 31 s35) ?_
        simp only [Act.put, List.setIfInBounds_toArray, List.set_cons_succ, List.set_cons_zero]
        refine sq_val (by rfl) (fun w' hw' => load_key rfl rfl d.key (hDk2 w' hw')) ?_
        simp only [Act.put, List.setIfInBounds_toArray, List.set_cons_succ, List.set_cons_zero]
        refine sq_val (by rfl) (fun w' hw' => run_faddr 53 _ 3 rfl rfl _ Try.underlying53 37 _ rfl rfl 0 sint) ?_
        simp only [Act.put, List.setIfInBounds_toArray, List.set_cons_succ, List.set_cons_zero]
        refine sq_val (by rfl) (fun w' hw' => run_load1 3 _ rfl rfl (hDn2 w' hw') _ Try.underlying3 rfl) ?_
        simp only [Act.put, List.setIfInBounds_toArray, List.set_cons_succ, List.set_cons_zero]
        refine sq_call (by rfl) 40 [.tmp 40, .tmp 42, .tmp 44] _ rfl [X k, agg d.key, .int .i64 d.n] rfl enter_move (fr_call (fun w' hw' => move_none_ok _ d.key d.n _ ((hXv.fresh hw').noix k hlt))) ?_
        simp only [Act.put, List.setIfInBounds_toArray, List.set_cons_succ, List.set_cons_zero]
        first | go_big_quiet_step (fail) | (refine sq_val (v := ?_) (by rfl) ?_ ?_; rotate_left; (focus (rintro w' ⟨x, rfl⟩; go_simp; try with_reducible rfl)); simp only [Act.put, List.setIfInBounds_toArray, List.set_cons_succ, List.set_cons_zero])
        first | go_big_quiet_step (fail) | (refine sq_val (v := ?_) (by rfl) ?_ ?_; rotate_left; (focus (rintro w' ⟨x, rfl⟩; go_simp; try with_reducible rfl)); simp only [Act.put, List.setIfInBounds_toArray, List.set_cons_succ, List.set_cons_zero])
        first | go_big_quiet_step (fail) | (refine sq_val (v := ?_) (by rfl) ?_ ?_; rotate_left; (focus (rintro w' ⟨x, rfl⟩; go_simp; try with_reducible rfl)); simp only [Act.put, List.setIfInBounds_toArray, List.set_cons_succ, List.set_cons_zero])
        first | go_big_quiet_step (fail) | (refine sq_val (v := ?_) (by rfl) ?_ ?_; rotate_left; (focus (rintro w' ⟨x, rfl⟩; go_simp; try with_reducible rfl)); simp only [Act.put, List.setIfInBounds_toArray, List.set_cons_succ, List.set_cons_zero])
        first | go_big_quiet_step (fail) | (refine sq_val (v := ?_) (by rfl) ?_ ?_; rotate_left; (focus (rintro w' ⟨x, rfl⟩; go_simp; try with_reducible rfl)); simp only [Act.put, List.setIfInBounds_toArray, List.set_cons_succ, List.set_cons_zero])
        refine sq_val (by rfl) (fun w' hw' => run_elem 73 54 _ _ rfl Try.underlying73 1 sptr rfl k rfl hlt) ?_
        simp only [Act.put, List.setIfInBounds_toArray, List.set_cons_succ, List.set_cons_zero]
        refine sq_val (by rfl) (fun w' hw' => run_load1 54 _ rfl rfl (hXd w' hw') _ Try.underlying54 rfl) ?_
        simp only [Act.put, List.setIfInBounds_toArray, List.set_cons_succ, List.set_cons_zero]
        refine sq_val (by rfl) (fun w' hw' => run_faddr 53 _ 1 rfl rfl _ Try.underlying53 1 _ rfl rfl 31 s35) ?_
        simp only [Act.put, List.setIfInBounds_toArray, List.set_cons_succ, List.set_cons_zero]
        refine sq_val (by rfl) (fun w' hw' => load_key rfl rfl d.key (hDk2 w' hw')) ?_
        simp only [Act.put, List.setIfInBounds_toArray, List.set_cons_succ, List.set_cons_zero]
        refine sq_val (by rfl) (fun w' hw' => run_faddr 53 _ 3 rfl rfl _ Try.underlying53 37 _ rfl rfl 0 sint) ?_
        simp only [Act.put, List.setIfInBounds_toArray, List.set_cons_succ, List.set_cons_zero]
        refine sq_val (by rfl) (fun w' hw' => run_load1 3 _ rfl rfl (hDn2 w' hw') _ Try.underlying3 rfl) ?_
        simp only [Act.put, List.setIfInBounds_toArray, List.set_cons_succ, List.set_cons_zero]
        refine sq_call (by rfl) 42 [.tmp 52, .tmp 54, .tmp 56] _ rfl [X k, agg d.key, .int .i64 d.n] rfl enter_want (fr_call (fun w' hw' => want_none_ok _ d.key d.n _ ((hXv.fresh hw').noix k hlt))) ?_
        simp only [Act.put, List.setIfInBounds_toArray, List.set_cons_succ, List.set_cons_zero]
        first | go_big_quiet_step (fail) | (refine sq_val (v := ?_) (by rfl) ?_ ?_; rotate_left; (focus (rintro w' ⟨x, rfl⟩; go_simp; try with_reducible rfl)); simp only [Act.put, List.setIfInBounds_toArray, List.set_cons_succ, List.set_cons_zero])
        first | go_big_quiet_step (fail) | (refine sq_val (v := ?_) (by rfl) ?_ ?_; rotate_left; (focus (rintro w' ⟨x, rfl⟩; go_simp; try with_reducible rfl)); simp only [Act.put, List.setIfInBounds_toArray, List.set_cons_succ, List.set_cons_zero])
        first | go_big_quiet_step (fail) | (refine sq_val (v := ?_) (by rfl) ?_ ?_; rotate_left; (focus (rintro w' ⟨x, rfl⟩; go_simp; try with_reducible rfl)); simp only [Act.put, List.setIfInBounds_toArray, List.set_cons_succ, List.set_cons_zero])
        first | go_big_quiet_step (fail) | (refine sq_val (v := ?_) (by rfl) ?_ ?_; rotate_left; (focus (rintro w' ⟨x, rfl⟩; go_simp; try with_reducible rfl)); simp only [Act.put, List.setIfInBounds_toArray, List.set_cons_succ, List.set_cons_zero])
        first | go_big_quiet_step (fail) | (refine sq_val (v := ?_) (by rfl) ?_ ?_; rotate_left; (focus (rintro w' ⟨x, rfl⟩; go_simp; try with_reducible rfl)); simp only [Act.put, List.setIfInBounds_toArray, List.set_cons_succ, List.set_cons_zero])
        first | go_big_quiet_step (fail) | (refine sq_val (v := ?_) (by rfl) ?_ ?_; rotate_left; (focus (rintro w' ⟨x, rfl⟩; go_simp; try with_reducible rfl)); simp only [Act.put, List.setIfInBounds_toArray, List.set_cons_succ, List.set_cons_zero])
        refine sq_val (by rfl) (fun w' hw' => load_place rfl rfl Place.zero (hPp2 w' hw')) ?_
        simp only [Act.put, List.setIfInBounds_toArray, List.set_cons_succ, List.set_cons_zero]
        first | go_big_quiet_step (fail) | (refine sq_val (v := ?_) (by rfl) ?_ ?_; rotate_left; (focus (rintro w' ⟨x, rfl⟩; go_simp; try with_reducible rfl)); simp only [Act.put, List.setIfInBounds_toArray, List.set_cons_succ, List.set_cons_zero])
        refine sq_val (by rfl) (fun w' hw' => neq_place_f (p := Place.zero) (q := Place.zero) rfl rfl rfl rfl) ?_
        simp only [Act.put, List.setIfInBounds_toArray, List.set_cons_succ, List.set_cons_zero]
        first | go_big_quiet_step (fail) | (refine sq_val (v := ?_) (by rfl) ?_ ?_; rotate_left; (focus (rintro w' ⟨x, rfl⟩; go_simp; try with_reducible rfl)); simp only [Act.put, List.setIfInBounds_toArray, List.set_cons_succ, List.set_cons_zero])
        first | go_big_quiet_step (fail) | (refine sq_val (v := ?_) (by rfl) ?_ ?_; rotate_left; (focus (rintro w' ⟨x, rfl⟩; go_simp; try with_reducible rfl)); simp only [Act.put, List.setIfInBounds_toArray, List.set_cons_succ, List.set_cons_zero])
        first | go_big_quiet_step (fail) | (refine sq_val (v := ?_) (by rfl) ?_ ?_; rotate_left; (focus (rintro w' ⟨x, rfl⟩; go_simp; try with_reducible rfl)); simp only [Act.put, List.setIfInBounds_toArray, List.set_cons_succ, List.set_cons_zero])
        first | go_big_quiet_step (fail) | (refine sq_val (v := ?_) (by rfl) ?_ ?_; rotate_left; (focus (rintro w' ⟨x, rfl⟩; go_simp; try with_reducible rfl)); simp only [Act.put, List.setIfInBounds_toArray, List.set_cons_succ, List.set_cons_zero])
        refine sq_val (by rfl) (fun w' hw' => run_elem 73 54 _ _ rfl Try.underlying73 1 sptr rfl k rfl hlt) ?_
        simp only [Act.put, List.setIfInBounds_toArray, List.set_cons_succ, List.set_cons_zero]
        refine sq_val (by rfl) (fun w' hw' => run_load1 54 _ rfl rfl (hXd w' hw') _ Try.underlying54 rfl) ?_
        simp only [Act.put, List.setIfInBounds_toArray, List.set_cons_succ, List.set_cons_zero]
        refine sq_call (by rfl) 37 [.tmp 72] _ rfl [X k] rfl enter_len (fr_call (fun w' hw' => len_none_b _ _ ((hXv.fresh hw').noix k hlt))) ?_
        simp only [Act.put, List.setIfInBounds_toArray, List.set_cons_succ, List.set_cons_zero]
        first | go_big_quiet_step (fail) | (refine sq_val (v := ?_) (by rfl) ?_ ?_; rotate_left; (focus (rintro w' ⟨x, rfl⟩; go_simp; try with_reducible rfl)); simp only [Act.put, List.setIfInBounds_toArray, List.set_cons_succ, List.set_cons_zero])
        first | go_big_quiet_step (fail) | (refine sq_val (v := ?_) (by rfl) ?_ ?_; rotate_left; (focus (rintro w' ⟨x, rfl⟩; go_simp; try with_reducible rfl)); simp only [Act.put, List.setIfInBounds_toArray, List.set_cons_succ, List.set_cons_zero])
        first | go_big_quiet_step (fail) | (refine sq_val (v := ?_) (by rfl) ?_ ?_; rotate_left; (focus (rintro w' ⟨x, rfl⟩; go_simp; try with_reducible rfl)); simp only [Act.put, List.setIfInBounds_toArray, List.set_cons_succ, List.set_cons_zero])
        first | go_big_quiet_step (fail) | (refine sq_val (v := ?_) (by rfl) ?_ ?_; rotate_left; (focus (rintro w' ⟨x, rfl⟩; go_simp; try with_reducible rfl)); simp only [Act.put, List.setIfInBounds_toArray, List.set_cons_succ, List.set_cons_zero])
        first | go_big_quiet_step (fail) | (refine sq_val (v := ?_) (by rfl) ?_ ?_; rotate_left; (focus (rintro w' ⟨x, rfl⟩; go_simp; try with_reducible rfl)); simp only [Act.put, List.setIfInBounds_toArray, List.set_cons_succ, List.set_cons_zero])
        refine sq_val (by rfl) (fun w' hw' => run_elem 73 54 _ _ rfl Try.underlying73 1 sptr rfl k rfl hlt) ?_
        simp only [Act.put, List.setIfInBounds_toArray, List.set_cons_succ, List.set_cons_zero]
        refine sq_val (by rfl) (fun w' hw' => run_load1 54 _ rfl rfl (hXd w' hw') _ Try.underlying54 rfl) ?_
        simp only [Act.put, List.setIfInBounds_toArray, List.set_cons_succ, List.set_cons_zero]
        refine sq_call (by rfl) 36 [.tmp 80] _ rfl [X k] rfl enter_items (fr_call (fun w' hw' => items_none_b _ _ ((hXv.fresh hw').noix k hlt))) ?_
        simp only [Act.put, List.setIfInBounds_toArray, List.set_cons_succ, List.set_cons_zero]
        first | go_big_quiet_step (fail) | (refine sq_val (v := ?_) (by rfl) ?_ ?_; rotate_left; (focus (rintro w' ⟨x, rfl⟩; go_simp; try with_reducible rfl)); simp only [Act.put, List.setIfInBounds_toArray, List.set_cons_succ, List.set_cons_zero])
        first | go_big_quiet_step (fail) | (refine sq_val (v := ?_) (by rfl) ?_ ?_; rotate_left; (focus (rintro w' ⟨x, rfl⟩; go_simp; try with_reducible rfl)); simp only [Act.put, List.setIfInBounds_toArray, List.set_cons_succ, List.set_cons_zero])
        first | go_big_quiet_step (fail) | (refine sq_val (v := ?_) (by rfl) ?_ ?_; rotate_left; (focus (rintro w' ⟨x, rfl⟩; go_simp; try with_reducible rfl)); simp only [Act.put, List.setIfInBounds_toArray, List.set_cons_succ, List.set_cons_zero])
        refine wpQuiet_nil ?_
        rintro _ ⟨v3, rfl⟩
        have hend := fresh_trans (fresh_trans hbr hS2) v3.2
        clear hXd hDk2 hDp2 hDn2 hPp2
        go_wp2
        go_roundw
        case rel => exact ⟨k + 1, by omega, by go_num, hend⟩
        case measure => simp [intOf]; omega
      · refine hs_val rfl (by rfl) (run_alloc 38 Place.zero zero38 rfl) (fresh_alloc hS0 _) ?_
        simp only [Act.put, List.setIfInBounds_toArray, List.set_cons_succ, List.set_cons_zero]
        have hA : Below wr.heap.size wr (wr.drew.alloc (.cells (Enc.enc Place.zero).toArray 38)) := fresh_alloc hS0 _
        refine hl_one 6 (by kernel_rfl) (hs_call rfl (by rfl) 44 [.tmp 20, .tmp 22] _ rfl [X k, agg d.key] rfl enter_get (get_none_ok _ d.key _ ((hXr.fresh hA).noix k hlt)) (fun e v1 he => ?_))
        obtain ⟨rfl, hv1⟩ := he
        have hS1 := fresh_trans hA hv1
        refine ⟨_, rfl, hS1, ?_⟩
        simp only [Act.put, List.setIfInBounds_toArray, List.set_cons_succ, List.set_cons_zero]
        refine hl_take (v := ?_) 7 rfl (by kernel_rfl) (by rfl) ?_ hS1 (fun _ _ _ h => h) ?_
        rotate_left
        · (intro w' hw'; go_simp; try with_reducible rfl)
        simp only [Act.put, List.setIfInBounds_toArray, List.set_cons_succ, List.set_cons_zero]
        refine hl_take (v := ?_) 8 rfl (by kernel_rfl) (by rfl) ?_ hS1 (fun _ _ _ h => h) ?_
        rotate_left
        · (intro w' hw'; go_simp; try with_reducible rfl)
        simp only [Act.put, List.setIfInBounds_toArray, List.set_cons_succ, List.set_cons_zero]
        refine hl_take (v := ?_) 9 rfl (by kernel_rfl) (by rfl) ?_ hS1 (fun _ _ _ h => h) ?_
        rotate_left
        · (intro w' hw'; go_simp; try with_reducible rfl)
        simp only [Act.put, List.setIfInBounds_toArray, List.set_cons_succ, List.set_cons_zero]
        have hp1 : v1.heap[wr.drew.heap.size]? = some (.cells (Enc.enc Place.zero).toArray 38) := by rw [hv1.block _ (by simp)]; exact heap_alloc_new _ _
        have hS2 := fresh_setRow hS1 (g := wr.drew.heap.size) (Nat.le_refl _) (Enc.enc Place.zero).toArray
        refine hl_one 11 (by kernel_rfl) (hs_skip rfl (by rfl) (run_store_all 38 _ _ rfl rfl Place.zero rfl _ 38 hp1 rfl s38) hS2 ?_)
        simp only [Act.put, List.setIfInBounds_toArray, List.set_cons_succ, List.set_cons_zero]
        have hp2 := range_block (setRow_heap _ _ _ (Enc.enc Place.zero).toArray _ _ hp1)
        generalize hgp : wr.drew.heap.size = gp at hp2
        generalize hv2 : v1.setRow gp (Enc.enc Place.zero).toArray = v2 at hp2
        rw [hgp, hv2] at hS2
        refine hl_take (v := ?_) 12 rfl (by kernel_rfl) (by rfl) ?_ hS2 (fun _ _ _ h => h) ?_
        rotate_left
        · (intro w' hw'; go_simp; try with_reducible rfl)
        simp only [Act.put, List.setIfInBounds_toArray, List.set_cons_succ, List.set_cons_zero]
        refine hl_done (by kernel_rfl) ?_
        clear hv1 hS1 hA hp1 hv2 hgp
        go_wp2
        have hXv := hXr.fresh hS2
        have hdv := range_fresh hdr hS2
        have hXd : ∀ w', (∃ x : Fr v2, w' = x.1) → w'.cell? ⟨w1.heap.size + 1, 0 + k * 1, none⟩ = some (X k) := by rintro _ ⟨x, rfl⟩; simpa using (hXv.fresh x.2).cells k hlt
        have hDk2 : ∀ w', (∃ x : Fr v2, w' = x.1) → w'.rangeAt w.heap.size (0 + 1) (Enc.enc d.key) := by rintro _ ⟨x, rfl⟩; exact (deed_parts (range_fresh hdv x.2)).2.1
        have hDp2 : ∀ w', (∃ x : Fr v2, w' = x.1) → w'.rangeAt w.heap.size (0 + 33) (Enc.enc d.place) := by rintro _ ⟨x, rfl⟩; exact (deed_parts (range_fresh hdv x.2)).2.2.1
        have hDn2 : ∀ w', (∃ x : Fr v2, w' = x.1) → w'.cell? ⟨w.heap.size, 0 + 37, none⟩ = some (.int .i64 d.n) := by rintro _ ⟨x, rfl⟩; exact (deed_parts (range_fresh hdv x.2)).2.2.2
        have hPp2 : ∀ w', (∃ x : Fr v2, w' = x.1) → w'.rangeAt gp 0 (Enc.enc Place.zero) := by rintro _ ⟨x, rfl⟩; exact range_fresh hp2 x.2
        refine wp_region_fresh_lit (by kernel_rfl) (by kernel_rfl) ?_
        first | go_big_quiet_step (fail) | (refine sq_val (v := ?_) (by rfl) ?_ ?_; rotate_left; (focus (rintro w' ⟨x, rfl⟩; go_simp; try with_reducible rfl)); simp only [Act.put, List.setIfInBounds_toArray, List.set_cons_succ, List.set_cons_zero])
        first | go_big_quiet_step (fail) | (refine sq_val (v := ?_) (by rfl) ?_ ?_; rotate_left; (focus (rintro w' ⟨x, rfl⟩; go_simp; try with_reducible rfl)); simp only [Act.put, List.setIfInBounds_toArray, List.set_cons_succ, List.set_cons_zero])
        refine sq_val (by rfl) (fun w' hw' => run_elem 73 54 _ _ rfl Try.underlying73 1 sptr rfl k rfl hlt) ?_
        simp only [Act.put, List.setIfInBounds_toArray, List.set_cons_succ, List.set_cons_zero]
        refine sq_val (by rfl) (fun w' hw' => run_load1 54 _ rfl rfl (hXd w' hw') _ Try.underlying54 rfl) ?_
        simp only [Act.put, List.setIfInBounds_toArray, List.set_cons_succ, List.set_cons_zero]
        refine sq_val (by rfl) (fun w' hw' => run_faddr 53 _ 1 rfl rfl _ Try.underlying53 1 _ rfl rfl 31 s35) ?_
        simp only [Act.put, List.setIfInBounds_toArray, List.set_cons_succ, List.set_cons_zero]
        refine sq_val (by rfl) (fun w' hw' => load_key rfl rfl d.key (hDk2 w' hw')) ?_
        simp only [Act.put, List.setIfInBounds_toArray, List.set_cons_succ, List.set_cons_zero]
        refine sq_val (by rfl) (fun w' hw' => run_faddr 53 _ 2 rfl rfl _ Try.underlying53 33 _ rfl rfl 3 s38) ?_
        simp only [Act.put, List.setIfInBounds_toArray, List.set_cons_succ, List.set_cons_zero]
        refine sq_val (by rfl) (fun w' hw' => load_place rfl rfl d.place (hDp2 w' hw')) ?_
        simp only [Act.put, List.setIfInBounds_toArray, List.set_cons_succ, List.set_cons_zero]
        refine sq_call (by rfl) 35 [.tmp 29, .tmp 31, .tmp 33] _ rfl [X k, agg d.key, agg d.place] rfl enter_add (fr_call (fun w' hw' => add_none_ok _ d.key d.place _ ((hXv.fresh hw').noix k hlt))) ?_
        simp only [Act.put, List.setIfInBounds_toArray, List.set_cons_succ, List.set_cons_zero]
        first | go_big_quiet_step (fail) | (refine sq_val (v := ?_) (by rfl) ?_ ?_; rotate_left; (focus (rintro w' ⟨x, rfl⟩; go_simp; try with_reducible rfl)); simp only [Act.put, List.setIfInBounds_toArray, List.set_cons_succ, List.set_cons_zero])
        first | go_big_quiet_step (fail) | (refine sq_val (v := ?_) (by rfl) ?_ ?_; rotate_left; (focus (rintro w' ⟨x, rfl⟩; go_simp; try with_reducible rfl)); simp only [Act.put, List.setIfInBounds_toArray, List.set_cons_succ, List.set_cons_zero])
        first | go_big_quiet_step (fail) | (refine sq_val (v := ?_) (by rfl) ?_ ?_; rotate_left; (focus (rintro w' ⟨x, rfl⟩; go_simp; try with_reducible rfl)); simp only [Act.put, List.setIfInBounds_toArray, List.set_cons_succ, List.set_cons_zero])
        first | go_big_quiet_step (fail) | (refine sq_val (v := ?_) (by rfl) ?_ ?_; rotate_left; (focus (rintro w' ⟨x, rfl⟩; go_simp; try with_reducible rfl)); simp only [Act.put, List.setIfInBounds_toArray, List.set_cons_succ, List.set_cons_zero])
        refine sq_val (by rfl) (fun w' hw' => run_elem 73 54 _ _ rfl Try.underlying73 1 sptr rfl k rfl hlt) ?_
        simp only [Act.put, List.setIfInBounds_toArray, List.set_cons_succ, List.set_cons_zero]
        refine sq_val (by rfl) (fun w' hw' => run_load1 54 _ rfl rfl (hXd w' hw') _ Try.underlying54 rfl) ?_
        simp only [Act.put, List.setIfInBounds_toArray, List.set_cons_succ, List.set_cons_zero]
        refine sq_val (by rfl) (fun w' hw' => run_faddr 53 _ 1 rfl rfl _ Try.underlying53 1 _ rfl rfl 31 s35) ?_
        simp only [Act.put, List.setIfInBounds_toArray, List.set_cons_succ, List.set_cons_zero]
        refine sq_val (by rfl) (fun w' hw' => load_key rfl rfl d.key (hDk2 w' hw')) ?_
        simp only [Act.put, List.setIfInBounds_toArray, List.set_cons_succ, List.set_cons_zero]
        refine sq_val (by rfl) (fun w' hw' => run_faddr 53 _ 3 rfl rfl _ Try.underlying53 37 _ rfl rfl 0 sint) ?_
        simp only [Act.put, List.setIfInBounds_toArray, List.set_cons_succ, List.set_cons_zero]
        refine sq_val (by rfl) (fun w' hw' => run_load1 3 _ rfl rfl (hDn2 w' hw') _ Try.underlying3 rfl) ?_
        simp only [Act.put, List.setIfInBounds_toArray, List.set_cons_succ, List.set_cons_zero]
        refine sq_call (by rfl) 40 [.tmp 40, .tmp 42, .tmp 44] _ rfl [X k, agg d.key, .int .i64 d.n] rfl enter_move (fr_call (fun w' hw' => move_none_ok _ d.key d.n _ ((hXv.fresh hw').noix k hlt))) ?_
        simp only [Act.put, List.setIfInBounds_toArray, List.set_cons_succ, List.set_cons_zero]
        first | go_big_quiet_step (fail) | (refine sq_val (v := ?_) (by rfl) ?_ ?_; rotate_left; (focus (rintro w' ⟨x, rfl⟩; go_simp; try with_reducible rfl)); simp only [Act.put, List.setIfInBounds_toArray, List.set_cons_succ, List.set_cons_zero])
        first | go_big_quiet_step (fail) | (refine sq_val (v := ?_) (by rfl) ?_ ?_; rotate_left; (focus (rintro w' ⟨x, rfl⟩; go_simp; try with_reducible rfl)); simp only [Act.put, List.setIfInBounds_toArray, List.set_cons_succ, List.set_cons_zero])
        first | go_big_quiet_step (fail) | (refine sq_val (v := ?_) (by rfl) ?_ ?_; rotate_left; (focus (rintro w' ⟨x, rfl⟩; go_simp; try with_reducible rfl)); simp only [Act.put, List.setIfInBounds_toArray, List.set_cons_succ, List.set_cons_zero])
        first | go_big_quiet_step (fail) | (refine sq_val (v := ?_) (by rfl) ?_ ?_; rotate_left; (focus (rintro w' ⟨x, rfl⟩; go_simp; try with_reducible rfl)); simp only [Act.put, List.setIfInBounds_toArray, List.set_cons_succ, List.set_cons_zero])
        first | go_big_quiet_step (fail) | (refine sq_val (v := ?_) (by rfl) ?_ ?_; rotate_left; (focus (rintro w' ⟨x, rfl⟩; go_simp; try with_reducible rfl)); simp only [Act.put, List.setIfInBounds_toArray, List.set_cons_succ, List.set_cons_zero])
        refine sq_val (by rfl) (fun w' hw' => run_elem 73 54 _ _ rfl Try.underlying73 1 sptr rfl k rfl hlt) ?_
        simp only [Act.put, List.setIfInBounds_toArray, List.set_cons_succ, List.set_cons_zero]
        refine sq_val (by rfl) (fun w' hw' => run_load1 54 _ rfl rfl (hXd w' hw') _ Try.underlying54 rfl) ?_
        simp only [Act.put, List.setIfInBounds_toArray, List.set_cons_succ, List.set_cons_zero]
        refine sq_val (by rfl) (fun w' hw' => run_faddr 53 _ 1 rfl rfl _ Try.underlying53 1 _ rfl rfl 31 s35) ?_
        simp only [Act.put, List.setIfInBounds_toArray, List.set_cons_succ, List.set_cons_zero]
        refine sq_val (by rfl) (fun w' hw' => load_key rfl rfl d.key (hDk2 w' hw')) ?_
        simp only [Act.put, List.setIfInBounds_toArray, List.set_cons_succ, List.set_cons_zero]
        refine sq_val (by rfl) (fun w' hw' => run_faddr 53 _ 3 rfl rfl _ Try.underlying53 37 _ rfl rfl 0 sint) ?_
        simp only [Act.put, List.setIfInBounds_toArray, List.set_cons_succ, List.set_cons_zero]
        refine sq_val (by rfl) (fun w' hw' => run_load1 3 _ rfl rfl (hDn2 w' hw') _ Try.underlying3 rfl) ?_
        simp only [Act.put, List.setIfInBounds_toArray, List.set_cons_succ, List.set_cons_zero]
        refine sq_call (by rfl) 42 [.tmp 52, .tmp 54, .tmp 56] _ rfl [X k, agg d.key, .int .i64 d.n] rfl enter_want (fr_call (fun w' hw' => want_none_ok _ d.key d.n _ ((hXv.fresh hw').noix k hlt))) ?_
        simp only [Act.put, List.setIfInBounds_toArray, List.set_cons_succ, List.set_cons_zero]
        first | go_big_quiet_step (fail) | (refine sq_val (v := ?_) (by rfl) ?_ ?_; rotate_left; (focus (rintro w' ⟨x, rfl⟩; go_simp; try with_reducible rfl)); simp only [Act.put, List.setIfInBounds_toArray, List.set_cons_succ, List.set_cons_zero])
        first | go_big_quiet_step (fail) | (refine sq_val (v := ?_) (by rfl) ?_ ?_; rotate_left; (focus (rintro w' ⟨x, rfl⟩; go_simp; try with_reducible rfl)); simp only [Act.put, List.setIfInBounds_toArray, List.set_cons_succ, List.set_cons_zero])
        first | go_big_quiet_step (fail) | (refine sq_val (v := ?_) (by rfl) ?_ ?_; rotate_left; (focus (rintro w' ⟨x, rfl⟩; go_simp; try with_reducible rfl)); simp only [Act.put, List.setIfInBounds_toArray, List.set_cons_succ, List.set_cons_zero])
        first | go_big_quiet_step (fail) | (refine sq_val (v := ?_) (by rfl) ?_ ?_; rotate_left; (focus (rintro w' ⟨x, rfl⟩; go_simp; try with_reducible rfl)); simp only [Act.put, List.setIfInBounds_toArray, List.set_cons_succ, List.set_cons_zero])
        first | go_big_quiet_step (fail) | (refine sq_val (v := ?_) (by rfl) ?_ ?_; rotate_left; (focus (rintro w' ⟨x, rfl⟩; go_simp; try with_reducible rfl)); simp only [Act.put, List.setIfInBounds_toArray, List.set_cons_succ, List.set_cons_zero])
        first | go_big_quiet_step (fail) | (refine sq_val (v := ?_) (by rfl) ?_ ?_; rotate_left; (focus (rintro w' ⟨x, rfl⟩; go_simp; try with_reducible rfl)); simp only [Act.put, List.setIfInBounds_toArray, List.set_cons_succ, List.set_cons_zero])
        refine sq_val (by rfl) (fun w' hw' => load_place rfl rfl Place.zero (hPp2 w' hw')) ?_
        simp only [Act.put, List.setIfInBounds_toArray, List.set_cons_succ, List.set_cons_zero]
        first | go_big_quiet_step (fail) | (refine sq_val (v := ?_) (by rfl) ?_ ?_; rotate_left; (focus (rintro w' ⟨x, rfl⟩; go_simp; try with_reducible rfl)); simp only [Act.put, List.setIfInBounds_toArray, List.set_cons_succ, List.set_cons_zero])
        refine sq_val (by rfl) (fun w' hw' => neq_place_f (p := Place.zero) (q := Place.zero) rfl rfl rfl rfl) ?_
        simp only [Act.put, List.setIfInBounds_toArray, List.set_cons_succ, List.set_cons_zero]
        first | go_big_quiet_step (fail) | (refine sq_val (v := ?_) (by rfl) ?_ ?_; rotate_left; (focus (rintro w' ⟨x, rfl⟩; go_simp; try with_reducible rfl)); simp only [Act.put, List.setIfInBounds_toArray, List.set_cons_succ, List.set_cons_zero])
        first | go_big_quiet_step (fail) | (refine sq_val (v := ?_) (by rfl) ?_ ?_; rotate_left; (focus (rintro w' ⟨x, rfl⟩; go_simp; try with_reducible rfl)); simp only [Act.put, List.setIfInBounds_toArray, List.set_cons_succ, List.set_cons_zero])
        first | go_big_quiet_step (fail) | (refine sq_val (v := ?_) (by rfl) ?_ ?_; rotate_left; (focus (rintro w' ⟨x, rfl⟩; go_simp; try with_reducible rfl)); simp only [Act.put, List.setIfInBounds_toArray, List.set_cons_succ, List.set_cons_zero])
        first | go_big_quiet_step (fail) | (refine sq_val (v := ?_) (by rfl) ?_ ?_; rotate_left; (focus (rintro w' ⟨x, rfl⟩; go_simp; try with_reducible rfl)); simp only [Act.put, List.setIfInBounds_toArray, List.set_cons_succ, List.set_cons_zero])
        refine sq_val (by rfl) (fun w' hw' => run_elem 73 54 _ _ rfl Try.underlying73 1 sptr rfl k rfl hlt) ?_
        simp only [Act.put, List.setIfInBounds_toArray, List.set_cons_succ, List.set_cons_zero]
        refine sq_val (by rfl) (fun w' hw' => run_load1 54 _ rfl rfl (hXd w' hw') _ Try.underlying54 rfl) ?_
        simp only [Act.put, List.setIfInBounds_toArray, List.set_cons_succ, List.set_cons_zero]
        refine sq_call (by rfl) 37 [.tmp 72] _ rfl [X k] rfl enter_len (fr_call (fun w' hw' => len_none_b _ _ ((hXv.fresh hw').noix k hlt))) ?_
        simp only [Act.put, List.setIfInBounds_toArray, List.set_cons_succ, List.set_cons_zero]
        first | go_big_quiet_step (fail) | (refine sq_val (v := ?_) (by rfl) ?_ ?_; rotate_left; (focus (rintro w' ⟨x, rfl⟩; go_simp; try with_reducible rfl)); simp only [Act.put, List.setIfInBounds_toArray, List.set_cons_succ, List.set_cons_zero])
        first | go_big_quiet_step (fail) | (refine sq_val (v := ?_) (by rfl) ?_ ?_; rotate_left; (focus (rintro w' ⟨x, rfl⟩; go_simp; try with_reducible rfl)); simp only [Act.put, List.setIfInBounds_toArray, List.set_cons_succ, List.set_cons_zero])
        first | go_big_quiet_step (fail) | (refine sq_val (v := ?_) (by rfl) ?_ ?_; rotate_left; (focus (rintro w' ⟨x, rfl⟩; go_simp; try with_reducible rfl)); simp only [Act.put, List.setIfInBounds_toArray, List.set_cons_succ, List.set_cons_zero])
        first | go_big_quiet_step (fail) | (refine sq_val (v := ?_) (by rfl) ?_ ?_; rotate_left; (focus (rintro w' ⟨x, rfl⟩; go_simp; try with_reducible rfl)); simp only [Act.put, List.setIfInBounds_toArray, List.set_cons_succ, List.set_cons_zero])
        first | go_big_quiet_step (fail) | (refine sq_val (v := ?_) (by rfl) ?_ ?_; rotate_left; (focus (rintro w' ⟨x, rfl⟩; go_simp; try with_reducible rfl)); simp only [Act.put, List.setIfInBounds_toArray, List.set_cons_succ, List.set_cons_zero])
        refine sq_val (by rfl) (fun w' hw' => run_elem 73 54 _ _ rfl Try.underlying73 1 sptr rfl k rfl hlt) ?_
        simp only [Act.put, List.setIfInBounds_toArray, List.set_cons_succ, List.set_cons_zero]
        refine sq_val (by rfl) (fun w' hw' => run_load1 54 _ rfl rfl (hXd w' hw') _ Try.underlying54 rfl) ?_
        simp only [Act.put, List.setIfInBounds_toArray, List.set_cons_succ, List.set_cons_zero]
        refine sq_call (by rfl) 36 [.tmp 80] _ rfl [X k] rfl enter_items (fr_call (fun w' hw' => items_none_b _ _ ((hXv.fresh hw').noix k hlt))) ?_
        simp only [Act.put, List.setIfInBounds_toArray, List.set_cons_succ, List.set_cons_zero]
        first | go_big_quiet_step (fail) | (refine sq_val (v := ?_) (by rfl) ?_ ?_; rotate_left; (focus (rintro w' ⟨x, rfl⟩; go_simp; try with_reducible rfl)); simp only [Act.put, List.setIfInBounds_toArray, List.set_cons_succ, List.set_cons_zero])
        first | go_big_quiet_step (fail) | (refine sq_val (v := ?_) (by rfl) ?_ ?_; rotate_left; (focus (rintro w' ⟨x, rfl⟩; go_simp; try with_reducible rfl)); simp only [Act.put, List.setIfInBounds_toArray, List.set_cons_succ, List.set_cons_zero])
        first | go_big_quiet_step (fail) | (refine sq_val (v := ?_) (by rfl) ?_ ?_; rotate_left; (focus (rintro w' ⟨x, rfl⟩; go_simp; try with_reducible rfl)); simp only [Act.put, List.setIfInBounds_toArray, List.set_cons_succ, List.set_cons_zero])
        refine wpQuiet_nil ?_
        rintro _ ⟨v3, rfl⟩
        have hend := fresh_trans (fresh_trans hbr hS2) v3.2
        clear hXd hDk2 hDp2 hDn2 hPp2
        go_wp2
        go_roundw
        case rel => exact ⟨k + 1, by omega, by go_num, hend⟩
        case measure => simp [intOf]; omega
    · go_wp2
      go_ret
      exact ⟨rfl, fresh_trans hbw hbr⟩
end Go.Pb
