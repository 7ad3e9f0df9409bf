/- IndexDoes, the walk: whatever is done to an index, it tells just what the document tells. -/
import Derived.Test.YteablbficakfcaaIndexBackW
import Derived.Test.YteablbficakfcaaOrdW
import Derived.Test.YteablbficakfcaaRef22E
import Derived.Test.YteablbficakfcaaRef22G
set_option linter.unusedVariables false
set_option linter.unusedSimpArgs false
set_option linter.unusedSectionVars false
namespace Go.Pb
open Go.RowKit Go.Proofs Go.BigFrame

theorem enter_add22 (args : Array Value) (w : World) : (callFunc 32 args).run Try.prog w = .ok (.enter 32 args) w := run_enter Try.func32 (by kernel_rfl) rfl args w
theorem enter_move22 (args : Array Value) (w : World) : (callFunc 34 args).run Try.prog w = .ok (.enter 34 args) w := run_enter Try.func34 (by kernel_rfl) rfl args w
theorem enter_want22 (args : Array Value) (w : World) : (callFunc 36 args).run Try.prog w = .ok (.enter 36 args) w := run_enter Try.func36 (by kernel_rfl) rfl args w
theorem enter_ilen (args : Array Value) (w : World) : (callFunc 30 args).run Try.prog w = .ok (.enter 30 args) w := run_enter Try.func30 (by kernel_rfl) rfl args w
theorem enter_iitems (args : Array Value) (w : World) : (callFunc 29 args).run Try.prog w = .ok (.enter 29 args) w := run_enter Try.func29 (by kernel_rfl) rfl args w
theorem enter_samei (args : Array Value) (w : World) : (callFunc 31 args).run Try.prog w = .ok (.enter 31 args) w := run_enter Try.func31 (by kernel_rfl) rfl args w

theorem op_neq_bool {P : Program} {o : Oper} {ρ : Operand → Value} {w : World} (t ty : TypeId) (x y : Operand) (c : Bool) (ho : o.op = .binOp .neq t x y ty) (ht : P.underlying t = some .bool) (hx : ρ x = .bool c) (hy : ρ y = .bool c) : (execOp ρ o).run P w = .ok (.value (.bool false)) w := by
  unfold execOp
  simp [ho, hx, hy, go_sem, ht]
theorem op_neq_int {P : Program} {o : Oper} {ρ : Operand → Value} {w : World} (t ty : TypeId) (x y : Operand) (c : Int) (ho : o.op = .binOp .neq t x y ty) (ht : P.underlying t = some (.int .i64)) (hx : ρ x = .int .i64 c) (hy : ρ y = .int .i64 c) : (execOp ρ o).run P w = .ok (.value (.bool false)) w := by
  unfold execOp
  simp [ho, hx, hy, go_sem, ht]
/-- Both of them, at one place. -/
structure Both (w : World) (gx b gy : Nat) (m : List (Key × Place)) (L : List Item) : Prop where
  ix : IxIs w (.pointer (some ⟨gx, 0, none⟩)) b m
  row : ListAt w gy L
  tells : Tells m L
  xy : gx < gy
  by_ : b < gy
theorem Both.fresh {w w' : World} {gx b gy : Nat} {m : List (Key × Place)} {L : List Item} (h : Both w gx b gy m L) (hb : Below w.heap.size w w') : Both w' gx b gy m L := ⟨h.ix.fresh hb, h.row.fresh hb, h.tells, h.xy, h.by_⟩
abbrev Two (b gy : Nat) : Nat → Prop := fun k => k = b ∨ k = gy
theorem add_len {m : List (Key × Place)} {L : List Item} (h : Tells m L) : L.length = m.length := TellsK.len h

/-- What the three deeds say and do, both of them. -/
theorem both_add {w : World} {gx b gy : Nat} {m : List (Key × Place)} {L : List Item} (h : Both w gx b gy m L) (hm : m.length ≤ 1000) (k : Key) (p : Place) :
    Calls Try.prog 28 #[.pointer (some ⟨gx, 0, none⟩), agg k, agg p] w fun e w' => e = .returned (.int .i64 (ixAdd m k p).1) ∧ Keep (Two b gy) w w' ∧
      Calls Try.prog 32 #[.pointer (some ⟨gy, 0, none⟩), agg k, agg p] w' fun e w2 => e = .returned (.int .i64 (ixAdd m k p).1) ∧ Keep (Two b gy) w' w2 ∧ Both w2 gx b gy (ixAdd m k p).2 (add22 L k p).2 := by
  refine (add_ok _ k p b m w h.ix).mono ?_
  rintro e w' ⟨rfl, hg, hI⟩
  refine ⟨rfl, (Keep.grown hg).mono (fun _ _ h => .inl h), ?_⟩
  have hr := h.row.grown hg h.by_
  obtain ⟨t1, t2⟩ := tells_add h.tells k p
  refine (add22_ok gy L k p w' hr (by rw [add_len h.tells]; omega)).mono ?_
  rintro e w2 ⟨rfl, hk, hl⟩
  exact ⟨by rw [t1], hk.mono (fun _ _ h => .inr h), ⟨hI.keep hk (fun e => by have := h.by_; omega) (fun g hg e => by have := ptr_inj hg; have := h.xy; omega), hl, t2, h.xy, h.by_⟩⟩
theorem both_move {w : World} {gx b gy : Nat} {m : List (Key × Place)} {L : List Item} (h : Both w gx b gy m L) (hm : m.length ≤ 1000) (k : Key) (n : Int) :
    Calls Try.prog 33 #[.pointer (some ⟨gx, 0, none⟩), agg k, .int .i64 n] w fun e w' => e = .returned (.int .i64 (ixMove m k n).1) ∧ Keep (Two b gy) w w' ∧
      Calls Try.prog 34 #[.pointer (some ⟨gy, 0, none⟩), agg k, .int .i64 n] w' fun e w2 => e = .returned (.int .i64 (ixMove m k n).1) ∧ Keep (Two b gy) w' w2 ∧ Both w2 gx b gy (ixMove m k n).2 (move22 L k n).2 := by
  refine (move_ok _ k n b m w h.ix).mono ?_
  rintro e w' ⟨rfl, hg, hI⟩
  refine ⟨rfl, (Keep.grown hg).mono (fun _ _ h => .inl h), ?_⟩
  have hr := h.row.grown hg h.by_
  obtain ⟨t1, t2⟩ := tells_move h.tells k n
  refine (move22_ok gy L k n w' hr (by rw [add_len h.tells]; omega)).mono ?_
  rintro e w2 ⟨rfl, hk, hl⟩
  exact ⟨by rw [t1], hk.mono (fun _ _ h => .inr h), ⟨hI.keep hk (fun e => by have := h.by_; omega) (fun g hg e => by have := ptr_inj hg; have := h.xy; omega), hl, t2, h.xy, h.by_⟩⟩
theorem both_want {w : World} {gx b gy : Nat} {m : List (Key × Place)} {L : List Item} (h : Both w gx b gy m L) (hm : m.length ≤ 1000) (k : Key) (n : Int) :
    Calls Try.prog 35 #[.pointer (some ⟨gx, 0, none⟩), agg k, .int .i64 n] w fun e w' => e = .returned (.int .i64 (ixWant m k n).1) ∧ Keep (Two b gy) w w' ∧
      Calls Try.prog 36 #[.pointer (some ⟨gy, 0, none⟩), agg k, .int .i64 n] w' fun e w2 => e = .returned (.int .i64 (ixWant m k n).1) ∧ Keep (Two b gy) w' w2 ∧ Both w2 gx b gy (ixWant m k n).2 (want22 L k n).2 := by
  refine (want_ok _ k n b m w h.ix).mono ?_
  rintro e w' ⟨rfl, hg, hI⟩
  refine ⟨rfl, (Keep.grown hg).mono (fun _ _ h => .inl h), ?_⟩
  have hr := h.row.grown hg h.by_
  obtain ⟨t1, t2⟩ := tells_want h.tells k n
  refine (want22_ok gy L k n w' hr (by rw [add_len h.tells]; omega)).mono ?_
  rintro e w2 ⟨rfl, hk, hl⟩
  exact ⟨by rw [t1], hk.mono (fun _ _ h => .inr h), ⟨hI.keep hk (fun e => by have := h.by_; omega) (fun g hg e => by have := ptr_inj hg; have := h.xy; omega), hl, t2, h.xy, h.by_⟩⟩
theorem want_length (m : List (Key × Place)) (k : Key) (n : Int) : (ixWant m k n).2.length ≤ m.length + 1 := by
  have hp : ∀ (q : Place), (put m k q).length ≤ m.length + 1 := fun q => by rw [put_length]; split <;> omega
  have hd : ∀ (l : List (Key × Place)), (del l k).length ≤ l.length := fun l => List.length_filter_le _ _
  unfold ixWant ixWant0
  cases look m k with
  | none => simp
  | some q =>
    cases hb : ixBears q n with
    | true =>
      simp only [hb, if_true]
      split
      · exact Nat.le_trans (hd _) (hp _)
      · exact hp _
    | false => simp [hb]
theorem move_length (m : List (Key × Place)) (k : Key) (n : Int) : (ixMove m k n).2.length ≤ m.length + 1 := by
  have hp : ∀ (q : Place), (put m k q).length ≤ m.length + 1 := fun q => by rw [put_length]; split <;> omega
  unfold ixMove
  cases look m k with
  | none => simp
  | some q =>
    simp only []
    split
    · exact hp _
    · simp

set_option maxRecDepth 100000 in
set_option maxHeartbeats 20000000 in
theorem indexDoes_ok (HI : ItemsCon) (A : Option Addr) (c : Nat) (l : List Deed) (w : World) (hA : Reads w A l) :
    Calls Try.prog 9 #[.slice A l.length c] w fun e w' => e = .returned (.bool true) ∧ Below w.heap.size w w' := by
  have HITEMS := Lib.hid HI
  clear HI
  by_cases hlen : 150 < l.length
  · go_enter Try.func9, Try.ntmps9
    go_wp2_with (go_at_call 25; refine (awake22_ok _).mono ?_; rintro e w1 ⟨rfl, hb1⟩)
    go_ret
    exact ⟨rfl, hb1⟩
  go_enter Try.func9, Try.ntmps9
  go_wp2_with (first
    | (go_at_call 25; refine (awake22_ok _).mono ?_; rintro e w1 ⟨rfl, hb1⟩)
    | (go_at_call 26; refine (new_ok w1).mono ?_; rintro e B ⟨x, b, rfl, hI, hbge, hb2, gx, rfl, hg⟩))
  have hgxB : gx < B.heap.size := by
    obtain ⟨⟨g', h1, _, hc⟩, _⟩ := hI
    have := ptr_inj h1
    subst this
    exact World.block_lt_of_cell? B _ hc
  have hB0 : Both (B.alloc (.cells #[.slice none 0 0] 65)) gx b B.heap.size [] [] :=
    ⟨hI.fresh (fresh_alloc (fresh_refl B) _), ⟨none, 0, heap_alloc_new B _, Reads.nil _ _, (fun a h => by cases h), Nat.le_refl _⟩, TellsK.nil (fun _ => rfl), hgxB, hI.2.lt⟩
  have hbw : Below w.heap.size w (B.alloc (.cells #[.slice none 0 0] 65)) := fresh_trans (fresh_trans hb1 hb2) (fresh_alloc (fresh_refl B) _)
  have hwb : w.heap.size ≤ b := Nat.le_trans hb1.size hbge
  have hwy : w.heap.size ≤ B.heap.size := Nat.le_trans hb1.size hb2.size
  generalize B.alloc (.cells #[.slice none 0 0] 65) = B1 at hB0 hbw ⊢
  generalize B.heap.size = gy at hB0 hwy ⊢
  clear hI hb1 hb2 hbge hg hgxB
  go_loopw [5] (fun i wr => ∃ (k : Nat) (m : List (Key × Place)) (L : List Item), k ≤ l.length ∧ i = .int .i64 k ∧ m.length ≤ k ∧ Both wr gx b gy m L ∧ Below w.heap.size w wr) (fun i _ => l.length - (RowKit.intOf i).toNat)
  case atStart => exact ⟨0, [], [], by omega, rfl, by simp, hB0, hbw⟩
  case round =>
    obtain ⟨k, m, L, hk, rfl, hml, hBo, hbr⟩ := hrel
    by_cases hlt : k < l.length
    · obtain ⟨b1, o1, rfl, hr1⟩ := hA.at_n hlt 38 rfl
      have hr2 := range_fresh hr1 hbr
      generalize (l[k]'hlt) = d at hr1 hr2
      have hpr := pick_range d.kind 6 (by omega)
      have hpick := fun w => pick_ok d.kind 6 w (by omega) (by omega)
      generalize pickOf d.kind 6 = r at hpr hpick
      have hbV : Below wr.heap.size wr (wr.alloc (.cells (Enc.enc d).toArray 53)) := fresh_alloc (fresh_refl wr) _
      have hdV := range_block (heap_alloc_new wr (.cells (Enc.enc d).toArray 53))
      have hdc : (wr.alloc (.cells (Enc.enc d).toArray 53)).cell? ⟨wr.heap.size, 0, none⟩ = some (.int .i64 d.kind) := (deed_parts hdV).1
      have hBV := hBo.fresh hbV
      have hby : b < wr.heap.size ∧ gy < wr.heap.size := ⟨hBo.ix.2.lt, by obtain ⟨A, c, h1, _⟩ := hBo.row; exact (Array.getElem?_eq_some_iff.1 h1).1⟩
      have hm1000 : m.length ≤ 1000 := by omega
      have HPICK := Lib.hid hpick
      clear hpick
      go_wp2_with (first
        | (refine st_val rfl (run_elem 50 53 _ _ rfl Try.underlying50 38 sdeed rfl k rfl hlt) ?_)
        | (refine st_val rfl (load_deed rfl rfl d ?_) ?_; (with_reducible exact hr2))
        | (refine st_val rfl (run_alloc 53 Deed.zero zero53 rfl) ?_)
        | (refine st_skip rfl (run_store_new 53 _ _ rfl rfl rfl d Deed.zero rfl 53 sdeed) ?_))
      refine (HPICK.out _).mono ?_
      rintro e w' ⟨rfl, rfl⟩
      generalize wr.alloc (.cells (Enc.enc d).toArray 53) = V at hbV hdV hBV hdc ⊢
      generalize wr.heap.size = gd at hdV hby hdc ⊢
      have hbV2 : Below w.heap.size w V := fresh_trans hbr hbV
      have hS0 : Keep (Two b gy) V V.drew := Keep.below (fresh_drew (fresh_refl V))
      have hSV : Keep (Two b gy) V V := Keep.refl V
      have hnt : ¬ Two b gy gd := by rintro (h | h) <;> omega
      have hdk : ∀ w', Keep (Two b gy) V w' → w'.rangeAt gd (0 + 1) (Enc.enc d.key) := fun w' hw => (deed_parts (hw.range hdV hnt)).2.1
      have hdp : ∀ w', Keep (Two b gy) V w' → w'.rangeAt gd (0 + 33) (Enc.enc d.place) := fun w' hw => (deed_parts (hw.range hdV hnt)).2.2.1
      have hdn : ∀ w', Keep (Two b gy) V w' → w'.cell? ⟨gd, 0 + 37, none⟩ = some (.int .i64 d.n) := fun w' hw => (deed_parts (hw.range hdV hnt)).2.2.2
      have hBd := hBV.fresh (fresh_drew (fresh_refl V))
      clear hdc hr1 hr2 hdV
      obtain rfl | rfl | rfl | rfl | rfl | rfl : r = 0 ∨ r = 1 ∨ r = 2 ∨ r = 3 ∨ r = 4 ∨ r = 5 := by omega
      · have hcon := both_add hBd hm1000 d.key d.place
        have CON := Lib.hid hcon
        clear hcon
        go_wp2
        refine held_lit (fun w' => Keep (Two b gy) V w') 13 rfl (by kernel_rfl) ?_
        refine hl_take (v := ?_) 0 rfl (by kernel_rfl) (by rfl) ?_ hS0 (fun _ _ _ h => h) ?_
        rotate_left
        · (intro w' hw'; go_simp; try with_reducible rfl)
        simp only [Act.put, List.setIfInBounds_toArray, List.set_cons_succ, List.set_cons_zero]
        refine hl_take 1 rfl (by kernel_rfl) (by rfl) (fun w' hw' => run_faddr 53 _ 1 rfl rfl _ Try.underlying53 1 _ rfl rfl 31 s35) hS0 (fun _ _ _ h => h) ?_
        simp only [Act.put, List.setIfInBounds_toArray, List.set_cons_succ, List.set_cons_zero]
        refine hl_take 2 rfl (by kernel_rfl) (by rfl) (fun w' hw' => load_key rfl rfl d.key (hdk w' hw')) hS0 (fun _ _ _ h => h) ?_
        simp only [Act.put, List.setIfInBounds_toArray, List.set_cons_succ, List.set_cons_zero]
        refine hl_take 3 rfl (by kernel_rfl) (by rfl) (fun w' hw' => run_faddr 53 _ 2 rfl rfl _ Try.underlying53 33 _ rfl rfl 3 s38) hS0 (fun _ _ _ h => h) ?_
        simp only [Act.put, List.setIfInBounds_toArray, List.set_cons_succ, List.set_cons_zero]
        refine hl_take 4 rfl (by kernel_rfl) (by rfl) (fun w' hw' => load_place rfl rfl d.place (hdp w' hw')) hS0 (fun _ _ _ h => h) ?_
        simp only [Act.put, List.setIfInBounds_toArray, List.set_cons_succ, List.set_cons_zero]
        refine hl_take (v := ?_) 6 rfl (by kernel_rfl) (by rfl) ?_ hS0 (fun _ _ _ h => h) ?_
        rotate_left
        · (intro w' hw'; go_simp; try with_reducible rfl)
        simp only [Act.put, List.setIfInBounds_toArray, List.set_cons_succ, List.set_cons_zero]
        refine hl_take 7 rfl (by kernel_rfl) (by rfl) (fun w' hw' => run_faddr 53 _ 1 rfl rfl _ Try.underlying53 1 _ rfl rfl 31 s35) hS0 (fun _ _ _ h => h) ?_
        simp only [Act.put, List.setIfInBounds_toArray, List.set_cons_succ, List.set_cons_zero]
        refine hl_take 8 rfl (by kernel_rfl) (by rfl) (fun w' hw' => load_key rfl rfl d.key (hdk w' hw')) hS0 (fun _ _ _ h => h) ?_
        simp only [Act.put, List.setIfInBounds_toArray, List.set_cons_succ, List.set_cons_zero]
        refine hl_take 9 rfl (by kernel_rfl) (by rfl) (fun w' hw' => run_faddr 53 _ 2 rfl rfl _ Try.underlying53 33 _ rfl rfl 3 s38) hS0 (fun _ _ _ h => h) ?_
        simp only [Act.put, List.setIfInBounds_toArray, List.set_cons_succ, List.set_cons_zero]
        refine hl_take 10 rfl (by kernel_rfl) (by rfl) (fun w' hw' => load_place rfl rfl d.place (hdp w' hw')) hS0 (fun _ _ _ h => h) ?_
        simp only [Act.put, List.setIfInBounds_toArray, List.set_cons_succ, List.set_cons_zero]
        refine hl_one 5 (by kernel_rfl) (hs_call rfl (by rfl) 28 [.tmp 35, .tmp 37, .tmp 39] _ rfl [.pointer (some ⟨gx, 0, none⟩), agg d.key, agg d.place] rfl enter_add (CON.out) (fun e x1 he => ?_))
        obtain ⟨rfl, hk1, hcon2⟩ := he
        refine ⟨_, rfl, hS0.trans hk1, ?_⟩
        simp only [Act.put, List.setIfInBounds_toArray, List.set_cons_succ, List.set_cons_zero]
        have CON2 := Lib.hid hcon2
        clear hcon2
        refine hl_one 11 (by kernel_rfl) (hs_call rfl (by rfl) 32 [.tmp 41, .tmp 43, .tmp 45] _ rfl [.pointer (some ⟨gy, 0, none⟩), agg d.key, agg d.place] rfl enter_add22 (CON2.out) (fun e x2 he => ?_))
        obtain ⟨rfl, hk2, hB2⟩ := he
        have hS2 := (hS0.trans hk1).trans hk2
        refine ⟨_, rfl, hS2, ?_⟩
        simp only [Act.put, List.setIfInBounds_toArray, List.set_cons_succ, List.set_cons_zero]
        refine hl_take (v := ?_) 12 rfl (by kernel_rfl) (by rfl) ?_ hS2 (fun _ _ _ h => h) ?_
        rotate_left
        · (intro w' hw'; go_simp; try with_reducible rfl)
        simp only [Act.put, List.setIfInBounds_toArray, List.set_cons_succ, List.set_cons_zero]
        refine hl_done (by kernel_rfl) ?_
        clear CON CON2
        have hdk2 := hdk _ hS2
        have hbx2 : Below w.heap.size w x2 := fresh_keep hbV2 hS2 (fun i hi => by rcases hi with rfl | rfl <;> omega)
        have hml2 : ((ixAdd m d.key d.place).2).length ≤ k + 1 := by have := add_length m d.key d.place; omega
        have hB3 := hB2
        generalize (ixAdd m d.key d.place).2 = mm at hB3 hml2
        generalize (add22 L d.key d.place).2 = LL at hB3
        have htel := hB3.tells
        have hget := get_ok _ d.key b mm _ hB3.ix
        have hg22 := Tells.get htel d.key
        generalize (look mm d.key).getD Place.zero = p at hget hg22
        generalize (look mm d.key).isSome = bb at hget hg22
        have hLm : LL.length = mm.length := htel.len
        have HGET := Lib.hid hget
        clear hget
        have HLM := Lib.hid hLm
        clear hLm
        go_wp2_with (first
          | (refine st_val rfl (run_faddr 53 _ 1 rfl rfl _ Try.underlying53 1 _ rfl rfl 31 s35) ?_)
          | (refine st_val rfl (load_key rfl rfl d.key ?_) ?_; (with_reducible exact hdk2)))
        refine HGET.out.mono ?_
        rintro e x3 ⟨rfl, hb3⟩
        have hp3 := range_block (heap_alloc_new x3 (.cells (Enc.enc p).toArray 38))
        have hB4 := hB3.fresh (fresh_alloc hb3 (.cells (Enc.enc p).toArray 38))
        have hdk4 := range_fresh hdk2 (fresh_alloc hb3 (.cells (Enc.enc p).toArray 38))
        have hbx4 := fresh_trans hbx2 (fresh_alloc hb3 (.cells (Enc.enc p).toArray 38))
        have hget2 := get22_ok gy LL d.key _ hB4.row (by rw [HLM.out]; omega)
        rw [hg22] at hget2
        clear hg22
        have HGET2 := Lib.hid hget2
        clear hget2
        go_wp2_with (first
          | (refine st_val rfl (run_alloc 38 Place.zero zero38 rfl) ?_)
          | (refine st_skip rfl (run_store_new 38 _ _ rfl rfl rfl p Place.zero rfl 38 s38) ?_)
          | (refine st_val rfl (run_faddr 53 _ 1 rfl rfl _ Try.underlying53 1 _ rfl rfl 31 s35) ?_)
          | (refine st_val rfl (load_key rfl rfl d.key ?_) ?_; (with_reducible exact hdk4)))
        refine HGET2.out.mono ?_
        rintro e x5 ⟨rfl, hb5⟩
        generalize x3.alloc (.cells (Enc.enc p).toArray 38) = x4 at hp3 hB4 hdk4 hbx4 hb5
        generalize x3.heap.size = g3 at hp3 ⊢
        have hp5 := range_fresh hp3 (fresh_alloc hb5 (.cells (Enc.enc p).toArray 38))
        have hq5 := range_block (heap_alloc_new x5 (.cells (Enc.enc p).toArray 38))
        have hB6 := hB4.fresh (fresh_alloc hb5 (.cells (Enc.enc p).toArray 38))
        have hbx6 := fresh_trans hbx4 (fresh_alloc hb5 (.cells (Enc.enc p).toArray 38))
        go_wp2_with (first
          | (refine st_val rfl (run_alloc 38 Place.zero zero38 rfl) ?_)
          | (refine st_skip rfl (run_store_new 38 _ _ rfl rfl rfl p Place.zero rfl 38 s38) ?_))
        generalize x5.alloc (.cells (Enc.enc p).toArray 38) = x6 at hp5 hq5 hB6 hbx6 ⊢
        generalize x5.heap.size = g5 at hq5 ⊢
        have hS6 : Below x6.heap.size x6 x6.drew := fresh_drew (fresh_refl x6)
        have hPF : ∀ w', Below x6.heap.size x6 w' → w'.rangeAt g3 0 (Enc.enc p) := fun w' hw => range_fresh hp5 hw
        have hQF : ∀ w', Below x6.heap.size x6 w' → w'.rangeAt g5 0 (Enc.enc p) := fun w' hw => range_fresh hq5 hw
        obtain ⟨Ay, cy, hgy, hRy, hney⟩ := hB6.row
        have hyF : ∀ w', Below x6.heap.size x6 w' → w'.cell? ⟨gy, 0, none⟩ = some (.slice Ay LL.length cy) := fun w' hw => range_block (by rw [hw.block gy (Array.getElem?_eq_some_iff.1 hgy).1]; exact hgy) 0 _ rfl
        have hlenc := len_ok _ b mm _ (hB6.ix.fresh hS6)
        rw [← HLM.out] at hlenc
        refine held_lit (fun w' => Below x6.heap.size x6 w') 28 rfl (by kernel_rfl) ?_
        refine hl_take 0 rfl (by kernel_rfl) (by rfl) (fun w' hw' => load_place rfl rfl p (hPF w' hw')) hS6 (fun _ _ _ h => h) ?_
        simp only [Act.put, List.setIfInBounds_toArray, List.set_cons_succ, List.set_cons_zero]
        refine hl_take 1 rfl (by kernel_rfl) (by rfl) (fun w' hw' => load_place rfl rfl p (hQF w' hw')) hS6 (fun _ _ _ h => h) ?_
        simp only [Act.put, List.setIfInBounds_toArray, List.set_cons_succ, List.set_cons_zero]
        refine hl_take 2 rfl (by kernel_rfl) (by rfl) (fun w' hw' => neq_place_f (p := p) (q := p) rfl rfl rfl rfl) hS6 (fun _ _ _ h => h) ?_
        simp only [Act.put, List.setIfInBounds_toArray, List.set_cons_succ, List.set_cons_zero]
        refine hl_take (v := ?_) 3 rfl (by kernel_rfl) (by rfl) ?_ hS6 (fun _ _ _ h => h) ?_
        rotate_left
        · (intro w' hw'; go_simp; try with_reducible rfl)
        simp only [Act.put, List.setIfInBounds_toArray, List.set_cons_succ, List.set_cons_zero]
        refine hl_take (v := ?_) 4 rfl (by kernel_rfl) (by rfl) ?_ hS6 (fun _ _ _ h => h) ?_
        rotate_left
        · (intro w' hw'; go_simp; try with_reducible rfl)
        simp only [Act.put, List.setIfInBounds_toArray, List.set_cons_succ, List.set_cons_zero]
        refine hl_take (v := ?_) 5 rfl (by kernel_rfl) (by rfl) ?_ hS6 (fun _ _ _ h => h) ?_
        rotate_left
        · (intro w' hw'; go_simp; try with_reducible rfl)
        simp only [Act.put, List.setIfInBounds_toArray, List.set_cons_succ, List.set_cons_zero]
        refine hl_take 6 rfl (by kernel_rfl) (by rfl) (fun w' hw' => op_neq_bool 4 _ _ _ bb rfl Try.underlying4 rfl rfl) hS6 (fun _ _ _ h => h) ?_
        simp only [Act.put, List.setIfInBounds_toArray, List.set_cons_succ, List.set_cons_zero]
        refine hl_take (v := ?_) 7 rfl (by kernel_rfl) (by rfl) ?_ hS6 (fun _ _ _ h => h) ?_
        rotate_left
        · (intro w' hw'; go_simp; try with_reducible rfl)
        simp only [Act.put, List.setIfInBounds_toArray, List.set_cons_succ, List.set_cons_zero]
        refine hl_take (v := ?_) 8 rfl (by kernel_rfl) (by rfl) ?_ hS6 (fun _ _ _ h => h) ?_
        rotate_left
        · (intro w' hw'; go_simp; try with_reducible rfl)
        simp only [Act.put, List.setIfInBounds_toArray, List.set_cons_succ, List.set_cons_zero]
        refine hl_take (v := ?_) 9 rfl (by kernel_rfl) (by rfl) ?_ hS6 (fun _ _ _ h => h) ?_
        rotate_left
        · (intro w' hw'; go_simp; try with_reducible rfl)
        simp only [Act.put, List.setIfInBounds_toArray, List.set_cons_succ, List.set_cons_zero]
        refine hl_take (v := ?_) 11 rfl (by kernel_rfl) (by rfl) ?_ hS6 (fun _ _ _ h => h) ?_
        rotate_left
        · (intro w' hw'; go_simp; try with_reducible rfl)
        simp only [Act.put, List.setIfInBounds_toArray, List.set_cons_succ, List.set_cons_zero]
        refine hl_take (v := ?_) 12 rfl (by kernel_rfl) (by rfl) ?_ hS6 (fun _ _ _ h => h) ?_
        rotate_left
        · (intro w' hw'; go_simp; try with_reducible rfl)
        simp only [Act.put, List.setIfInBounds_toArray, List.set_cons_succ, List.set_cons_zero]
        refine hl_take 13 rfl (by kernel_rfl) (by rfl) (fun w' hw' => run_faddr 65 _ 0 rfl rfl _ Try.underlying65 0 _ rfl rfl 0 sitems) hS6 (fun _ _ _ h => h) ?_
        simp only [Act.put, List.setIfInBounds_toArray, List.set_cons_succ, List.set_cons_zero]
        refine hl_take 14 rfl (by kernel_rfl) (by rfl) (fun w' hw' => run_load1 22 _ rfl rfl (hyF w' hw') _ Try.underlying22 rfl) hS6 (fun _ _ _ h => h) ?_
        simp only [Act.put, List.setIfInBounds_toArray, List.set_cons_succ, List.set_cons_zero]
        refine hl_take (v := ?_) 15 rfl (by kernel_rfl) (by rfl) ?_ hS6 (fun _ _ _ h => h) ?_
        rotate_left
        · (intro w' hw'; go_simp; try with_reducible rfl)
        simp only [Act.put, List.setIfInBounds_toArray, List.set_cons_succ, List.set_cons_zero]
        refine hl_one 10 (by kernel_rfl) (hs_call rfl (by rfl) 30 [.tmp 102] _ rfl [.pointer (some ⟨gx, 0, none⟩)] rfl enter_ilen (hlenc) (fun e x7 he => ?_))
        obtain ⟨rfl, rfl⟩ := he
        refine ⟨_, rfl, hS6, ?_⟩
        simp only [Act.put, List.setIfInBounds_toArray, List.set_cons_succ, List.set_cons_zero]
        refine hl_take 16 rfl (by kernel_rfl) (by rfl) (fun w' hw' => op_neq_int 3 _ _ _ (LL.length : Int) rfl Try.underlying3 rfl rfl) hS6 (fun _ _ _ h => h) ?_
        simp only [Act.put, List.setIfInBounds_toArray, List.set_cons_succ, List.set_cons_zero]
        refine hl_take (v := ?_) 17 rfl (by kernel_rfl) (by rfl) ?_ hS6 (fun _ _ _ h => h) ?_
        rotate_left
        · (intro w' hw'; go_simp; try with_reducible rfl)
        simp only [Act.put, List.setIfInBounds_toArray, List.set_cons_succ, List.set_cons_zero]
        refine hl_take (v := ?_) 18 rfl (by kernel_rfl) (by rfl) ?_ hS6 (fun _ _ _ h => h) ?_
        rotate_left
        · (intro w' hw'; go_simp; try with_reducible rfl)
        simp only [Act.put, List.setIfInBounds_toArray, List.set_cons_succ, List.set_cons_zero]
        refine hl_take (v := ?_) 19 rfl (by kernel_rfl) (by rfl) ?_ hS6 (fun _ _ _ h => h) ?_
        rotate_left
        · (intro w' hw'; go_simp; try with_reducible rfl)
        simp only [Act.put, List.setIfInBounds_toArray, List.set_cons_succ, List.set_cons_zero]
        refine hl_take (v := ?_) 21 rfl (by kernel_rfl) (by rfl) ?_ hS6 (fun _ _ _ h => h) ?_
        rotate_left
        · (intro w' hw'; go_simp; try with_reducible rfl)
        simp only [Act.put, List.setIfInBounds_toArray, List.set_cons_succ, List.set_cons_zero]
        refine hl_take (v := ?_) 22 rfl (by kernel_rfl) (by rfl) ?_ hS6 (fun _ _ _ h => h) ?_
        rotate_left
        · (intro w' hw'; go_simp; try with_reducible rfl)
        simp only [Act.put, List.setIfInBounds_toArray, List.set_cons_succ, List.set_cons_zero]
        refine hl_take 23 rfl (by kernel_rfl) (by rfl) (fun w' hw' => run_faddr 65 _ 0 rfl rfl _ Try.underlying65 0 _ rfl rfl 0 sitems) hS6 (fun _ _ _ h => h) ?_
        simp only [Act.put, List.setIfInBounds_toArray, List.set_cons_succ, List.set_cons_zero]
        refine hl_take 24 rfl (by kernel_rfl) (by rfl) (fun w' hw' => run_load1 22 _ rfl rfl (hyF w' hw') _ Try.underlying22 rfl) hS6 (fun _ _ _ h => h) ?_
        simp only [Act.put, List.setIfInBounds_toArray, List.set_cons_succ, List.set_cons_zero]
        have hmml : mm.length ≤ 1000000000 := by omega
        refine hl_one 20 (by kernel_rfl) (hs_call rfl (by rfl) 29 [.tmp 112] _ rfl [.pointer (some ⟨gx, 0, none⟩)] rfl enter_iitems (HITEMS.out _ b mm _ (hB6.ix.fresh hS6) hmml) (fun e x8 he => ?_))
        obtain ⟨v8, L8, rfl, hO8, hT8, hb8⟩ := he
        have hS8 := fresh_trans hS6 hb8
        refine ⟨_, rfl, hS8, ?_⟩
        simp only [Act.put, List.setIfInBounds_toArray, List.set_cons_succ, List.set_cons_zero]
        have hLL : L8 = LL := htel.one hT8.perm hT8.rising
        subst hLL
        have hl8 := hO8.len_max
        simp only [maxLen] at hl8
        obtain ⟨A8, c8, rfl, hR8, _⟩ := hO8.shape
        have hsame := SameItems_ok A8 Ay c8 cy L8 L8 _ hR8 (hRy.fresh hS8) (by omega) (by omega)
        refine hl_one 25 (by kernel_rfl) (hs_call rfl (by rfl) 31 [.tmp 113, .tmp 117] _ rfl [.slice A8 L8.length c8, .slice Ay L8.length cy] rfl enter_samei (hsame) (fun e x9 he => ?_))
        obtain ⟨rfl, n9, rfl⟩ := he
        have hS9 := fresh_trans hS8 (fresh_drewN (fresh_refl x8) n9)
        refine ⟨_, rfl, hS9, ?_⟩
        simp only [Act.put, List.setIfInBounds_toArray, List.set_cons_succ, List.set_cons_zero]
        simp only [decide_true]
        refine hl_take (v := ?_) 26 rfl (by kernel_rfl) (by rfl) ?_ hS9 (fun _ _ _ h => h) ?_
        rotate_left
        · (intro w' hw'; go_simp; try with_reducible rfl)
        simp only [Act.put, List.setIfInBounds_toArray, List.set_cons_succ, List.set_cons_zero]
        refine hl_take (v := ?_) 27 rfl (by kernel_rfl) (by rfl) ?_ hS9 (fun _ _ _ h => h) ?_
        rotate_left
        · (intro w' hw'; go_simp; try with_reducible rfl)
        simp only [Act.put, List.setIfInBounds_toArray, List.set_cons_succ, List.set_cons_zero]
        refine hl_done (by kernel_rfl) ?_
        have hB9 := hB6.fresh hS9
        have hbx9 := fresh_trans hbx6 hS9
        clear hPF hQF hyF
        go_wp2
        go_roundw
        case rel => exact ⟨k + 1, mm, _, by omega, by go_num, hml2, hB9, hbx9⟩
        case measure => simp [RowKit.intOf]; omega
      · have hcon := both_add hBd hm1000 d.key d.place
        have CON := Lib.hid hcon
        clear hcon
        go_wp2
        refine held_lit (fun w' => Keep (Two b gy) V w') 13 rfl (by kernel_rfl) ?_
        refine hl_take (v := ?_) 0 rfl (by kernel_rfl) (by rfl) ?_ hS0 (fun _ _ _ h => h) ?_
        rotate_left
        · (intro w' hw'; go_simp; try with_reducible rfl)
        simp only [Act.put, List.setIfInBounds_toArray, List.set_cons_succ, List.set_cons_zero]
        refine hl_take 1 rfl (by kernel_rfl) (by rfl) (fun w' hw' => run_faddr 53 _ 1 rfl rfl _ Try.underlying53 1 _ rfl rfl 31 s35) hS0 (fun _ _ _ h => h) ?_
        simp only [Act.put, List.setIfInBounds_toArray, List.set_cons_succ, List.set_cons_zero]
        refine hl_take 2 rfl (by kernel_rfl) (by rfl) (fun w' hw' => load_key rfl rfl d.key (hdk w' hw')) hS0 (fun _ _ _ h => h) ?_
        simp only [Act.put, List.setIfInBounds_toArray, List.set_cons_succ, List.set_cons_zero]
        refine hl_take 3 rfl (by kernel_rfl) (by rfl) (fun w' hw' => run_faddr 53 _ 2 rfl rfl _ Try.underlying53 33 _ rfl rfl 3 s38) hS0 (fun _ _ _ h => h) ?_
        simp only [Act.put, List.setIfInBounds_toArray, List.set_cons_succ, List.set_cons_zero]
        refine hl_take 4 rfl (by kernel_rfl) (by rfl) (fun w' hw' => load_place rfl rfl d.place (hdp w' hw')) hS0 (fun _ _ _ h => h) ?_
        simp only [Act.put, List.setIfInBounds_toArray, List.set_cons_succ, List.set_cons_zero]
        refine hl_take (v := ?_) 6 rfl (by kernel_rfl) (by rfl) ?_ hS0 (fun _ _ _ h => h) ?_
        rotate_left
        · (intro w' hw'; go_simp; try with_reducible rfl)
        simp only [Act.put, List.setIfInBounds_toArray, List.set_cons_succ, List.set_cons_zero]
        refine hl_take 7 rfl (by kernel_rfl) (by rfl) (fun w' hw' => run_faddr 53 _ 1 rfl rfl _ Try.underlying53 1 _ rfl rfl 31 s35) hS0 (fun _ _ _ h => h) ?_
        simp only [Act.put, List.setIfInBounds_toArray, List.set_cons_succ, List.set_cons_zero]
        refine hl_take 8 rfl (by kernel_rfl) (by rfl) (fun w' hw' => load_key rfl rfl d.key (hdk w' hw')) hS0 (fun _ _ _ h => h) ?_
        simp only [Act.put, List.setIfInBounds_toArray, List.set_cons_succ, List.set_cons_zero]
        refine hl_take 9 rfl (by kernel_rfl) (by rfl) (fun w' hw' => run_faddr 53 _ 2 rfl rfl _ Try.underlying53 33 _ rfl rfl 3 s38) hS0 (fun _ _ _ h => h) ?_
        simp only [Act.put, List.setIfInBounds_toArray, List.set_cons_succ, List.set_cons_zero]
        refine hl_take 10 rfl (by kernel_rfl) (by rfl) (fun w' hw' => load_place rfl rfl d.place (hdp w' hw')) hS0 (fun _ _ _ h => h) ?_
        simp only [Act.put, List.setIfInBounds_toArray, List.set_cons_succ, List.set_cons_zero]
        refine hl_one 5 (by kernel_rfl) (hs_call rfl (by rfl) 28 [.tmp 35, .tmp 37, .tmp 39] _ rfl [.pointer (some ⟨gx, 0, none⟩), agg d.key, agg d.place] rfl enter_add (CON.out) (fun e x1 he => ?_))
        obtain ⟨rfl, hk1, hcon2⟩ := he
        refine ⟨_, rfl, hS0.trans hk1, ?_⟩
        simp only [Act.put, List.setIfInBounds_toArray, List.set_cons_succ, List.set_cons_zero]
        have CON2 := Lib.hid hcon2
        clear hcon2
        refine hl_one 11 (by kernel_rfl) (hs_call rfl (by rfl) 32 [.tmp 41, .tmp 43, .tmp 45] _ rfl [.pointer (some ⟨gy, 0, none⟩), agg d.key, agg d.place] rfl enter_add22 (CON2.out) (fun e x2 he => ?_))
        obtain ⟨rfl, hk2, hB2⟩ := he
        have hS2 := (hS0.trans hk1).trans hk2
        refine ⟨_, rfl, hS2, ?_⟩
        simp only [Act.put, List.setIfInBounds_toArray, List.set_cons_succ, List.set_cons_zero]
        refine hl_take (v := ?_) 12 rfl (by kernel_rfl) (by rfl) ?_ hS2 (fun _ _ _ h => h) ?_
        rotate_left
        · (intro w' hw'; go_simp; try with_reducible rfl)
        simp only [Act.put, List.setIfInBounds_toArray, List.set_cons_succ, List.set_cons_zero]
        refine hl_done (by kernel_rfl) ?_
        clear CON CON2
        have hdk2 := hdk _ hS2
        have hbx2 : Below w.heap.size w x2 := fresh_keep hbV2 hS2 (fun i hi => by rcases hi with rfl | rfl <;> omega)
        have hml2 : ((ixAdd m d.key d.place).2).length ≤ k + 1 := by have := add_length m d.key d.place; omega
        have hB3 := hB2
        generalize (ixAdd m d.key d.place).2 = mm at hB3 hml2
        generalize (add22 L d.key d.place).2 = LL at hB3
        have htel := hB3.tells
        have hget := get_ok _ d.key b mm _ hB3.ix
        have hg22 := Tells.get htel d.key
        generalize (look mm d.key).getD Place.zero = p at hget hg22
        generalize (look mm d.key).isSome = bb at hget hg22
        have hLm : LL.length = mm.length := htel.len
        have HGET := Lib.hid hget
        clear hget
        have HLM := Lib.hid hLm
        clear hLm
        go_wp2_with (first
          | (refine st_val rfl (run_faddr 53 _ 1 rfl rfl _ Try.underlying53 1 _ rfl rfl 31 s35) ?_)
          | (refine st_val rfl (load_key rfl rfl d.key ?_) ?_; (with_reducible exact hdk2)))
        refine HGET.out.mono ?_
        rintro e x3 ⟨rfl, hb3⟩
        have hp3 := range_block (heap_alloc_new x3 (.cells (Enc.enc p).toArray 38))
        have hB4 := hB3.fresh (fresh_alloc hb3 (.cells (Enc.enc p).toArray 38))
        have hdk4 := range_fresh hdk2 (fresh_alloc hb3 (.cells (Enc.enc p).toArray 38))
        have hbx4 := fresh_trans hbx2 (fresh_alloc hb3 (.cells (Enc.enc p).toArray 38))
        have hget2 := get22_ok gy LL d.key _ hB4.row (by rw [HLM.out]; omega)
        rw [hg22] at hget2
        clear hg22
        have HGET2 := Lib.hid hget2
        clear hget2
        go_wp2_with (first
          | (refine st_val rfl (run_alloc 38 Place.zero zero38 rfl) ?_)
          | (refine st_skip rfl (run_store_new 38 _ _ rfl rfl rfl p Place.zero rfl 38 s38) ?_)
          | (refine st_val rfl (run_faddr 53 _ 1 rfl rfl _ Try.underlying53 1 _ rfl rfl 31 s35) ?_)
          | (refine st_val rfl (load_key rfl rfl d.key ?_) ?_; (with_reducible exact hdk4)))
        refine HGET2.out.mono ?_
        rintro e x5 ⟨rfl, hb5⟩
        generalize x3.alloc (.cells (Enc.enc p).toArray 38) = x4 at hp3 hB4 hdk4 hbx4 hb5
        generalize x3.heap.size = g3 at hp3 ⊢
        have hp5 := range_fresh hp3 (fresh_alloc hb5 (.cells (Enc.enc p).toArray 38))
        have hq5 := range_block (heap_alloc_new x5 (.cells (Enc.enc p).toArray 38))
        have hB6 := hB4.fresh (fresh_alloc hb5 (.cells (Enc.enc p).toArray 38))
        have hbx6 := fresh_trans hbx4 (fresh_alloc hb5 (.cells (Enc.enc p).toArray 38))
        go_wp2_with (first
          | (refine st_val rfl (run_alloc 38 Place.zero zero38 rfl) ?_)
          | (refine st_skip rfl (run_store_new 38 _ _ rfl rfl rfl p Place.zero rfl 38 s38) ?_))
        generalize x5.alloc (.cells (Enc.enc p).toArray 38) = x6 at hp5 hq5 hB6 hbx6 ⊢
        generalize x5.heap.size = g5 at hq5 ⊢
        have hS6 : Below x6.heap.size x6 x6.drew := fresh_drew (fresh_refl x6)
        have hPF : ∀ w', Below x6.heap.size x6 w' → w'.rangeAt g3 0 (Enc.enc p) := fun w' hw => range_fresh hp5 hw
        have hQF : ∀ w', Below x6.heap.size x6 w' → w'.rangeAt g5 0 (Enc.enc p) := fun w' hw => range_fresh hq5 hw
        obtain ⟨Ay, cy, hgy, hRy, hney⟩ := hB6.row
        have hyF : ∀ w', Below x6.heap.size x6 w' → w'.cell? ⟨gy, 0, none⟩ = some (.slice Ay LL.length cy) := fun w' hw => range_block (by rw [hw.block gy (Array.getElem?_eq_some_iff.1 hgy).1]; exact hgy) 0 _ rfl
        have hlenc := len_ok _ b mm _ (hB6.ix.fresh hS6)
        rw [← HLM.out] at hlenc
        refine held_lit (fun w' => Below x6.heap.size x6 w') 28 rfl (by kernel_rfl) ?_
        refine hl_take 0 rfl (by kernel_rfl) (by rfl) (fun w' hw' => load_place rfl rfl p (hPF w' hw')) hS6 (fun _ _ _ h => h) ?_
        simp only [Act.put, List.setIfInBounds_toArray, List.set_cons_succ, List.set_cons_zero]
        refine hl_take 1 rfl (by kernel_rfl) (by rfl) (fun w' hw' => load_place rfl rfl p (hQF w' hw')) hS6 (fun _ _ _ h => h) ?_
        simp only [Act.put, List.setIfInBounds_toArray, List.set_cons_succ, List.set_cons_zero]
        refine hl_take 2 rfl (by kernel_rfl) (by rfl) (fun w' hw' => neq_place_f (p := p) (q := p) rfl rfl rfl rfl) hS6 (fun _ _ _ h => h) ?_
        simp only [Act.put, List.setIfInBounds_toArray, List.set_cons_succ, List.set_cons_zero]
        refine hl_take (v := ?_) 3 rfl (by kernel_rfl) (by rfl) ?_ hS6 (fun _ _ _ h => h) ?_
        rotate_left
        · (intro w' hw'; go_simp; try with_reducible rfl)
        simp only [Act.put, List.setIfInBounds_toArray, List.set_cons_succ, List.set_cons_zero]
        refine hl_take (v := ?_) 4 rfl (by kernel_rfl) (by rfl) ?_ hS6 (fun _ _ _ h => h) ?_
        rotate_left
        · (intro w' hw'; go_simp; try with_reducible rfl)
        simp only [Act.put, List.setIfInBounds_toArray, List.set_cons_succ, List.set_cons_zero]
        refine hl_take (v := ?_) 5 rfl (by kernel_rfl) (by rfl) ?_ hS6 (fun _ _ _ h => h) ?_
        rotate_left
        · (intro w' hw'; go_simp; try with_reducible rfl)
        simp only [Act.put, List.setIfInBounds_toArray, List.set_cons_succ, List.set_cons_zero]
        refine hl_take 6 rfl (by kernel_rfl) (by rfl) (fun w' hw' => op_neq_bool 4 _ _ _ bb rfl Try.underlying4 rfl rfl) hS6 (fun _ _ _ h => h) ?_
        simp only [Act.put, List.setIfInBounds_toArray, List.set_cons_succ, List.set_cons_zero]
        refine hl_take (v := ?_) 7 rfl (by kernel_rfl) (by rfl) ?_ hS6 (fun _ _ _ h => h) ?_
        rotate_left
        · (intro w' hw'; go_simp; try with_reducible rfl)
        simp only [Act.put, List.setIfInBounds_toArray, List.set_cons_succ, List.set_cons_zero]
        refine hl_take (v := ?_) 8 rfl (by kernel_rfl) (by rfl) ?_ hS6 (fun _ _ _ h => h) ?_
        rotate_left
        · (intro w' hw'; go_simp; try with_reducible rfl)
        simp only [Act.put, List.setIfInBounds_toArray, List.set_cons_succ, List.set_cons_zero]
        refine hl_take (v := ?_) 9 rfl (by kernel_rfl) (by rfl) ?_ hS6 (fun _ _ _ h => h) ?_
        rotate_left
        · (intro w' hw'; go_simp; try with_reducible rfl)
        simp only [Act.put, List.setIfInBounds_toArray, List.set_cons_succ, List.set_cons_zero]
        refine hl_take (v := ?_) 11 rfl (by kernel_rfl) (by rfl) ?_ hS6 (fun _ _ _ h => h) ?_
        rotate_left
        · (intro w' hw'; go_simp; try with_reducible rfl)
        simp only [Act.put, List.setIfInBounds_toArray, List.set_cons_succ, List.set_cons_zero]
        refine hl_take (v := ?_) 12 rfl (by kernel_rfl) (by rfl) ?_ hS6 (fun _ _ _ h => h) ?_
        rotate_left
        · (intro w' hw'; go_simp; try with_reducible rfl)
        simp only [Act.put, List.setIfInBounds_toArray, List.set_cons_succ, List.set_cons_zero]
        refine hl_take 13 rfl (by kernel_rfl) (by rfl) (fun w' hw' => run_faddr 65 _ 0 rfl rfl _ Try.underlying65 0 _ rfl rfl 0 sitems) hS6 (fun _ _ _ h => h) ?_
        simp only [Act.put, List.setIfInBounds_toArray, List.set_cons_succ, List.set_cons_zero]
        refine hl_take 14 rfl (by kernel_rfl) (by rfl) (fun w' hw' => run_load1 22 _ rfl rfl (hyF w' hw') _ Try.underlying22 rfl) hS6 (fun _ _ _ h => h) ?_
        simp only [Act.put, List.setIfInBounds_toArray, List.set_cons_succ, List.set_cons_zero]
        refine hl_take (v := ?_) 15 rfl (by kernel_rfl) (by rfl) ?_ hS6 (fun _ _ _ h => h) ?_
        rotate_left
        · (intro w' hw'; go_simp; try with_reducible rfl)
        simp only [Act.put, List.setIfInBounds_toArray, List.set_cons_succ, List.set_cons_zero]
        refine hl_one 10 (by kernel_rfl) (hs_call rfl (by rfl) 30 [.tmp 102] _ rfl [.pointer (some ⟨gx, 0, none⟩)] rfl enter_ilen (hlenc) (fun e x7 he => ?_))
        obtain ⟨rfl, rfl⟩ := he
        refine ⟨_, rfl, hS6, ?_⟩
        simp only [Act.put, List.setIfInBounds_toArray, List.set_cons_succ, List.set_cons_zero]
        refine hl_take 16 rfl (by kernel_rfl) (by rfl) (fun w' hw' => op_neq_int 3 _ _ _ (LL.length : Int) rfl Try.underlying3 rfl rfl) hS6 (fun _ _ _ h => h) ?_
        simp only [Act.put, List.setIfInBounds_toArray, List.set_cons_succ, List.set_cons_zero]
        refine hl_take (v := ?_) 17 rfl (by kernel_rfl) (by rfl) ?_ hS6 (fun _ _ _ h => h) ?_
        rotate_left
        · (intro w' hw'; go_simp; try with_reducible rfl)
        simp only [Act.put, List.setIfInBounds_toArray, List.set_cons_succ, List.set_cons_zero]
        refine hl_take (v := ?_) 18 rfl (by kernel_rfl) (by rfl) ?_ hS6 (fun _ _ _ h => h) ?_
        rotate_left
        · (intro w' hw'; go_simp; try with_reducible rfl)
        simp only [Act.put, List.setIfInBounds_toArray, List.set_cons_succ, List.set_cons_zero]
        refine hl_take (v := ?_) 19 rfl (by kernel_rfl) (by rfl) ?_ hS6 (fun _ _ _ h => h) ?_
        rotate_left
        · (intro w' hw'; go_simp; try with_reducible rfl)
        simp only [Act.put, List.setIfInBounds_toArray, List.set_cons_succ, List.set_cons_zero]
        refine hl_take (v := ?_) 21 rfl (by kernel_rfl) (by rfl) ?_ hS6 (fun _ _ _ h => h) ?_
        rotate_left
        · (intro w' hw'; go_simp; try with_reducible rfl)
        simp only [Act.put, List.setIfInBounds_toArray, List.set_cons_succ, List.set_cons_zero]
        refine hl_take (v := ?_) 22 rfl (by kernel_rfl) (by rfl) ?_ hS6 (fun _ _ _ h => h) ?_
        rotate_left
        · (intro w' hw'; go_simp; try with_reducible rfl)
        simp only [Act.put, List.setIfInBounds_toArray, List.set_cons_succ, List.set_cons_zero]
        refine hl_take 23 rfl (by kernel_rfl) (by rfl) (fun w' hw' => run_faddr 65 _ 0 rfl rfl _ Try.underlying65 0 _ rfl rfl 0 sitems) hS6 (fun _ _ _ h => h) ?_
        simp only [Act.put, List.setIfInBounds_toArray, List.set_cons_succ, List.set_cons_zero]
        refine hl_take 24 rfl (by kernel_rfl) (by rfl) (fun w' hw' => run_load1 22 _ rfl rfl (hyF w' hw') _ Try.underlying22 rfl) hS6 (fun _ _ _ h => h) ?_
        simp only [Act.put, List.setIfInBounds_toArray, List.set_cons_succ, List.set_cons_zero]
        have hmml : mm.length ≤ 1000000000 := by omega
        refine hl_one 20 (by kernel_rfl) (hs_call rfl (by rfl) 29 [.tmp 112] _ rfl [.pointer (some ⟨gx, 0, none⟩)] rfl enter_iitems (HITEMS.out _ b mm _ (hB6.ix.fresh hS6) hmml) (fun e x8 he => ?_))
        obtain ⟨v8, L8, rfl, hO8, hT8, hb8⟩ := he
        have hS8 := fresh_trans hS6 hb8
        refine ⟨_, rfl, hS8, ?_⟩
        simp only [Act.put, List.setIfInBounds_toArray, List.set_cons_succ, List.set_cons_zero]
        have hLL : L8 = LL := htel.one hT8.perm hT8.rising
        subst hLL
        have hl8 := hO8.len_max
        simp only [maxLen] at hl8
        obtain ⟨A8, c8, rfl, hR8, _⟩ := hO8.shape
        have hsame := SameItems_ok A8 Ay c8 cy L8 L8 _ hR8 (hRy.fresh hS8) (by omega) (by omega)
        refine hl_one 25 (by kernel_rfl) (hs_call rfl (by rfl) 31 [.tmp 113, .tmp 117] _ rfl [.slice A8 L8.length c8, .slice Ay L8.length cy] rfl enter_samei (hsame) (fun e x9 he => ?_))
        obtain ⟨rfl, n9, rfl⟩ := he
        have hS9 := fresh_trans hS8 (fresh_drewN (fresh_refl x8) n9)
        refine ⟨_, rfl, hS9, ?_⟩
        simp only [Act.put, List.setIfInBounds_toArray, List.set_cons_succ, List.set_cons_zero]
        simp only [decide_true]
        refine hl_take (v := ?_) 26 rfl (by kernel_rfl) (by rfl) ?_ hS9 (fun _ _ _ h => h) ?_
        rotate_left
        · (intro w' hw'; go_simp; try with_reducible rfl)
        simp only [Act.put, List.setIfInBounds_toArray, List.set_cons_succ, List.set_cons_zero]
        refine hl_take (v := ?_) 27 rfl (by kernel_rfl) (by rfl) ?_ hS9 (fun _ _ _ h => h) ?_
        rotate_left
        · (intro w' hw'; go_simp; try with_reducible rfl)
        simp only [Act.put, List.setIfInBounds_toArray, List.set_cons_succ, List.set_cons_zero]
        refine hl_done (by kernel_rfl) ?_
        have hB9 := hB6.fresh hS9
        have hbx9 := fresh_trans hbx6 hS9
        clear hPF hQF hyF
        go_wp2
        go_roundw
        case rel => exact ⟨k + 1, mm, _, by omega, by go_num, hml2, hB9, hbx9⟩
        case measure => simp [RowKit.intOf]; omega
      · have hdk2 := hdk _ hSV
        have hbx2 : Below w.heap.size w V := fresh_keep hbV2 hSV (fun i hi => by rcases hi with rfl | rfl <;> omega)
        have hml2 : (m).length ≤ k + 1 := by omega
        have hB3 := hBV
        generalize m = mm at hB3 hml2
        generalize L = LL at hB3
        have htel := hB3.tells
        have hget := get_ok _ d.key b mm _ hB3.ix
        have hg22 := Tells.get htel d.key
        generalize (look mm d.key).getD Place.zero = p at hget hg22
        generalize (look mm d.key).isSome = bb at hget hg22
        have hLm : LL.length = mm.length := htel.len
        have HGET := Lib.hid hget
        clear hget
        have HLM := Lib.hid hLm
        clear hLm
        go_wp2_with (first
          | (refine st_val rfl (run_faddr 53 _ 1 rfl rfl _ Try.underlying53 1 _ rfl rfl 31 s35) ?_)
          | (refine st_val rfl (load_key rfl rfl d.key ?_) ?_; (with_reducible exact hdk2)))
        refine HGET.out.mono ?_
        rintro e x3 ⟨rfl, hb3⟩
        have hp3 := range_block (heap_alloc_new x3 (.cells (Enc.enc p).toArray 38))
        have hB4 := hB3.fresh (fresh_alloc hb3 (.cells (Enc.enc p).toArray 38))
        have hdk4 := range_fresh hdk2 (fresh_alloc hb3 (.cells (Enc.enc p).toArray 38))
        have hbx4 := fresh_trans hbx2 (fresh_alloc hb3 (.cells (Enc.enc p).toArray 38))
        have hget2 := get22_ok gy LL d.key _ hB4.row (by rw [HLM.out]; omega)
        rw [hg22] at hget2
        clear hg22
        have HGET2 := Lib.hid hget2
        clear hget2
        go_wp2_with (first
          | (refine st_val rfl (run_alloc 38 Place.zero zero38 rfl) ?_)
          | (refine st_skip rfl (run_store_new 38 _ _ rfl rfl rfl p Place.zero rfl 38 s38) ?_)
          | (refine st_val rfl (run_faddr 53 _ 1 rfl rfl _ Try.underlying53 1 _ rfl rfl 31 s35) ?_)
          | (refine st_val rfl (load_key rfl rfl d.key ?_) ?_; (with_reducible exact hdk4)))
        refine HGET2.out.mono ?_
        rintro e x5 ⟨rfl, hb5⟩
        generalize x3.alloc (.cells (Enc.enc p).toArray 38) = x4 at hp3 hB4 hdk4 hbx4 hb5
        generalize x3.heap.size = g3 at hp3 ⊢
        have hp5 := range_fresh hp3 (fresh_alloc hb5 (.cells (Enc.enc p).toArray 38))
        have hq5 := range_block (heap_alloc_new x5 (.cells (Enc.enc p).toArray 38))
        have hB6 := hB4.fresh (fresh_alloc hb5 (.cells (Enc.enc p).toArray 38))
        have hbx6 := fresh_trans hbx4 (fresh_alloc hb5 (.cells (Enc.enc p).toArray 38))
        go_wp2_with (first
          | (refine st_val rfl (run_alloc 38 Place.zero zero38 rfl) ?_)
          | (refine st_skip rfl (run_store_new 38 _ _ rfl rfl rfl p Place.zero rfl 38 s38) ?_))
        generalize x5.alloc (.cells (Enc.enc p).toArray 38) = x6 at hp5 hq5 hB6 hbx6 ⊢
        generalize x5.heap.size = g5 at hq5 ⊢
        have hS6 : Below x6.heap.size x6 x6.drew := fresh_drew (fresh_refl x6)
        have hPF : ∀ w', Below x6.heap.size x6 w' → w'.rangeAt g3 0 (Enc.enc p) := fun w' hw => range_fresh hp5 hw
        have hQF : ∀ w', Below x6.heap.size x6 w' → w'.rangeAt g5 0 (Enc.enc p) := fun w' hw => range_fresh hq5 hw
        obtain ⟨Ay, cy, hgy, hRy, hney⟩ := hB6.row
        have hyF : ∀ w', Below x6.heap.size x6 w' → w'.cell? ⟨gy, 0, none⟩ = some (.slice Ay LL.length cy) := fun w' hw => range_block (by rw [hw.block gy (Array.getElem?_eq_some_iff.1 hgy).1]; exact hgy) 0 _ rfl
        have hlenc := len_ok _ b mm _ (hB6.ix.fresh hS6)
        rw [← HLM.out] at hlenc
        refine held_lit (fun w' => Below x6.heap.size x6 w') 28 rfl (by kernel_rfl) ?_
        refine hl_take 0 rfl (by kernel_rfl) (by rfl) (fun w' hw' => load_place rfl rfl p (hPF w' hw')) hS6 (fun _ _ _ h => h) ?_
        simp only [Act.put, List.setIfInBounds_toArray, List.set_cons_succ, List.set_cons_zero]
        refine hl_take 1 rfl (by kernel_rfl) (by rfl) (fun w' hw' => load_place rfl rfl p (hQF w' hw')) hS6 (fun _ _ _ h => h) ?_
        simp only [Act.put, List.setIfInBounds_toArray, List.set_cons_succ, List.set_cons_zero]
        refine hl_take 2 rfl (by kernel_rfl) (by rfl) (fun w' hw' => neq_place_f (p := p) (q := p) rfl rfl rfl rfl) hS6 (fun _ _ _ h => h) ?_
        simp only [Act.put, List.setIfInBounds_toArray, List.set_cons_succ, List.set_cons_zero]
        refine hl_take (v := ?_) 3 rfl (by kernel_rfl) (by rfl) ?_ hS6 (fun _ _ _ h => h) ?_
        rotate_left
        · (intro w' hw'; go_simp; try with_reducible rfl)
        simp only [Act.put, List.setIfInBounds_toArray, List.set_cons_succ, List.set_cons_zero]
        refine hl_take (v := ?_) 4 rfl (by kernel_rfl) (by rfl) ?_ hS6 (fun _ _ _ h => h) ?_
        rotate_left
        · (intro w' hw'; go_simp; try with_reducible rfl)
        simp only [Act.put, List.setIfInBounds_toArray, List.set_cons_succ, List.set_cons_zero]
        refine hl_take (v := ?_) 5 rfl (by kernel_rfl) (by rfl) ?_ hS6 (fun _ _ _ h => h) ?_
        rotate_left
        · (intro w' hw'; go_simp; try with_reducible rfl)
        simp only [Act.put, List.setIfInBounds_toArray, List.set_cons_succ, List.set_cons_zero]
        refine hl_take 6 rfl (by kernel_rfl) (by rfl) (fun w' hw' => op_neq_bool 4 _ _ _ bb rfl Try.underlying4 rfl rfl) hS6 (fun _ _ _ h => h) ?_
        simp only [Act.put, List.setIfInBounds_toArray, List.set_cons_succ, List.set_cons_zero]
        refine hl_take (v := ?_) 7 rfl (by kernel_rfl) (by rfl) ?_ hS6 (fun _ _ _ h => h) ?_
        rotate_left
        · (intro w' hw'; go_simp; try with_reducible rfl)
        simp only [Act.put, List.setIfInBounds_toArray, List.set_cons_succ, List.set_cons_zero]
        refine hl_take (v := ?_) 8 rfl (by kernel_rfl) (by rfl) ?_ hS6 (fun _ _ _ h => h) ?_
        rotate_left
        · (intro w' hw'; go_simp; try with_reducible rfl)
        simp only [Act.put, List.setIfInBounds_toArray, List.set_cons_succ, List.set_cons_zero]
        refine hl_take (v := ?_) 9 rfl (by kernel_rfl) (by rfl) ?_ hS6 (fun _ _ _ h => h) ?_
        rotate_left
        · (intro w' hw'; go_simp; try with_reducible rfl)
        simp only [Act.put, List.setIfInBounds_toArray, List.set_cons_succ, List.set_cons_zero]
        refine hl_take (v := ?_) 11 rfl (by kernel_rfl) (by rfl) ?_ hS6 (fun _ _ _ h => h) ?_
        rotate_left
        · (intro w' hw'; go_simp; try with_reducible rfl)
        simp only [Act.put, List.setIfInBounds_toArray, List.set_cons_succ, List.set_cons_zero]
        refine hl_take (v := ?_) 12 rfl (by kernel_rfl) (by rfl) ?_ hS6 (fun _ _ _ h => h) ?_
        rotate_left
        · (intro w' hw'; go_simp; try with_reducible rfl)
        simp only [Act.put, List.setIfInBounds_toArray, List.set_cons_succ, List.set_cons_zero]
        refine hl_take 13 rfl (by kernel_rfl) (by rfl) (fun w' hw' => run_faddr 65 _ 0 rfl rfl _ Try.underlying65 0 _ rfl rfl 0 sitems) hS6 (fun _ _ _ h => h) ?_
        simp only [Act.put, List.setIfInBounds_toArray, List.set_cons_succ, List.set_cons_zero]
        refine hl_take 14 rfl (by kernel_rfl) (by rfl) (fun w' hw' => run_load1 22 _ rfl rfl (hyF w' hw') _ Try.underlying22 rfl) hS6 (fun _ _ _ h => h) ?_
        simp only [Act.put, List.setIfInBounds_toArray, List.set_cons_succ, List.set_cons_zero]
        refine hl_take (v := ?_) 15 rfl (by kernel_rfl) (by rfl) ?_ hS6 (fun _ _ _ h => h) ?_
        rotate_left
        · (intro w' hw'; go_simp; try with_reducible rfl)
        simp only [Act.put, List.setIfInBounds_toArray, List.set_cons_succ, List.set_cons_zero]
        refine hl_one 10 (by kernel_rfl) (hs_call rfl (by rfl) 30 [.tmp 102] _ rfl [.pointer (some ⟨gx, 0, none⟩)] rfl enter_ilen (hlenc) (fun e x7 he => ?_))
        obtain ⟨rfl, rfl⟩ := he
        refine ⟨_, rfl, hS6, ?_⟩
        simp only [Act.put, List.setIfInBounds_toArray, List.set_cons_succ, List.set_cons_zero]
        refine hl_take 16 rfl (by kernel_rfl) (by rfl) (fun w' hw' => op_neq_int 3 _ _ _ (LL.length : Int) rfl Try.underlying3 rfl rfl) hS6 (fun _ _ _ h => h) ?_
        simp only [Act.put, List.setIfInBounds_toArray, List.set_cons_succ, List.set_cons_zero]
        refine hl_take (v := ?_) 17 rfl (by kernel_rfl) (by rfl) ?_ hS6 (fun _ _ _ h => h) ?_
        rotate_left
        · (intro w' hw'; go_simp; try with_reducible rfl)
        simp only [Act.put, List.setIfInBounds_toArray, List.set_cons_succ, List.set_cons_zero]
        refine hl_take (v := ?_) 18 rfl (by kernel_rfl) (by rfl) ?_ hS6 (fun _ _ _ h => h) ?_
        rotate_left
        · (intro w' hw'; go_simp; try with_reducible rfl)
        simp only [Act.put, List.setIfInBounds_toArray, List.set_cons_succ, List.set_cons_zero]
        refine hl_take (v := ?_) 19 rfl (by kernel_rfl) (by rfl) ?_ hS6 (fun _ _ _ h => h) ?_
        rotate_left
        · (intro w' hw'; go_simp; try with_reducible rfl)
        simp only [Act.put, List.setIfInBounds_toArray, List.set_cons_succ, List.set_cons_zero]
        refine hl_take (v := ?_) 21 rfl (by kernel_rfl) (by rfl) ?_ hS6 (fun _ _ _ h => h) ?_
        rotate_left
        · (intro w' hw'; go_simp; try with_reducible rfl)
        simp only [Act.put, List.setIfInBounds_toArray, List.set_cons_succ, List.set_cons_zero]
        refine hl_take (v := ?_) 22 rfl (by kernel_rfl) (by rfl) ?_ hS6 (fun _ _ _ h => h) ?_
        rotate_left
        · (intro w' hw'; go_simp; try with_reducible rfl)
        simp only [Act.put, List.setIfInBounds_toArray, List.set_cons_succ, List.set_cons_zero]
        refine hl_take 23 rfl (by kernel_rfl) (by rfl) (fun w' hw' => run_faddr 65 _ 0 rfl rfl _ Try.underlying65 0 _ rfl rfl 0 sitems) hS6 (fun _ _ _ h => h) ?_
        simp only [Act.put, List.setIfInBounds_toArray, List.set_cons_succ, List.set_cons_zero]
        refine hl_take 24 rfl (by kernel_rfl) (by rfl) (fun w' hw' => run_load1 22 _ rfl rfl (hyF w' hw') _ Try.underlying22 rfl) hS6 (fun _ _ _ h => h) ?_
        simp only [Act.put, List.setIfInBounds_toArray, List.set_cons_succ, List.set_cons_zero]
        have hmml : mm.length ≤ 1000000000 := by omega
        refine hl_one 20 (by kernel_rfl) (hs_call rfl (by rfl) 29 [.tmp 112] _ rfl [.pointer (some ⟨gx, 0, none⟩)] rfl enter_iitems (HITEMS.out _ b mm _ (hB6.ix.fresh hS6) hmml) (fun e x8 he => ?_))
        obtain ⟨v8, L8, rfl, hO8, hT8, hb8⟩ := he
        have hS8 := fresh_trans hS6 hb8
        refine ⟨_, rfl, hS8, ?_⟩
        simp only [Act.put, List.setIfInBounds_toArray, List.set_cons_succ, List.set_cons_zero]
        have hLL : L8 = LL := htel.one hT8.perm hT8.rising
        subst hLL
        have hl8 := hO8.len_max
        simp only [maxLen] at hl8
        obtain ⟨A8, c8, rfl, hR8, _⟩ := hO8.shape
        have hsame := SameItems_ok A8 Ay c8 cy L8 L8 _ hR8 (hRy.fresh hS8) (by omega) (by omega)
        refine hl_one 25 (by kernel_rfl) (hs_call rfl (by rfl) 31 [.tmp 113, .tmp 117] _ rfl [.slice A8 L8.length c8, .slice Ay L8.length cy] rfl enter_samei (hsame) (fun e x9 he => ?_))
        obtain ⟨rfl, n9, rfl⟩ := he
        have hS9 := fresh_trans hS8 (fresh_drewN (fresh_refl x8) n9)
        refine ⟨_, rfl, hS9, ?_⟩
        simp only [Act.put, List.setIfInBounds_toArray, List.set_cons_succ, List.set_cons_zero]
        simp only [decide_true]
        refine hl_take (v := ?_) 26 rfl (by kernel_rfl) (by rfl) ?_ hS9 (fun _ _ _ h => h) ?_
        rotate_left
        · (intro w' hw'; go_simp; try with_reducible rfl)
        simp only [Act.put, List.setIfInBounds_toArray, List.set_cons_succ, List.set_cons_zero]
        refine hl_take (v := ?_) 27 rfl (by kernel_rfl) (by rfl) ?_ hS9 (fun _ _ _ h => h) ?_
        rotate_left
        · (intro w' hw'; go_simp; try with_reducible rfl)
        simp only [Act.put, List.setIfInBounds_toArray, List.set_cons_succ, List.set_cons_zero]
        refine hl_done (by kernel_rfl) ?_
        have hB9 := hB6.fresh hS9
        have hbx9 := fresh_trans hbx6 hS9
        clear hPF hQF hyF
        go_wp2
        go_roundw
        case rel => exact ⟨k + 1, mm, _, by omega, by go_num, hml2, hB9, hbx9⟩
        case measure => simp [RowKit.intOf]; omega
      · have hcon := both_move hBd hm1000 d.key d.n
        have CON := Lib.hid hcon
        clear hcon
        go_wp2
        refine held_lit (fun w' => Keep (Two b gy) V w') 13 rfl (by kernel_rfl) ?_
        refine hl_take (v := ?_) 0 rfl (by kernel_rfl) (by rfl) ?_ hS0 (fun _ _ _ h => h) ?_
        rotate_left
        · (intro w' hw'; go_simp; try with_reducible rfl)
        simp only [Act.put, List.setIfInBounds_toArray, List.set_cons_succ, List.set_cons_zero]
        refine hl_take 1 rfl (by kernel_rfl) (by rfl) (fun w' hw' => run_faddr 53 _ 1 rfl rfl _ Try.underlying53 1 _ rfl rfl 31 s35) hS0 (fun _ _ _ h => h) ?_
        simp only [Act.put, List.setIfInBounds_toArray, List.set_cons_succ, List.set_cons_zero]
        refine hl_take 2 rfl (by kernel_rfl) (by rfl) (fun w' hw' => load_key rfl rfl d.key (hdk w' hw')) hS0 (fun _ _ _ h => h) ?_
        simp only [Act.put, List.setIfInBounds_toArray, List.set_cons_succ, List.set_cons_zero]
        refine hl_take 3 rfl (by kernel_rfl) (by rfl) (fun w' hw' => run_faddr 53 _ 3 rfl rfl _ Try.underlying53 37 _ rfl rfl 0 sint) hS0 (fun _ _ _ h => h) ?_
        simp only [Act.put, List.setIfInBounds_toArray, List.set_cons_succ, List.set_cons_zero]
        refine hl_take 4 rfl (by kernel_rfl) (by rfl) (fun w' hw' => run_load1 3 _ rfl rfl (hdn w' hw') _ Try.underlying3 rfl) hS0 (fun _ _ _ h => h) ?_
        simp only [Act.put, List.setIfInBounds_toArray, List.set_cons_succ, List.set_cons_zero]
        refine hl_take (v := ?_) 6 rfl (by kernel_rfl) (by rfl) ?_ hS0 (fun _ _ _ h => h) ?_
        rotate_left
        · (intro w' hw'; go_simp; try with_reducible rfl)
        simp only [Act.put, List.setIfInBounds_toArray, List.set_cons_succ, List.set_cons_zero]
        refine hl_take 7 rfl (by kernel_rfl) (by rfl) (fun w' hw' => run_faddr 53 _ 1 rfl rfl _ Try.underlying53 1 _ rfl rfl 31 s35) hS0 (fun _ _ _ h => h) ?_
        simp only [Act.put, List.setIfInBounds_toArray, List.set_cons_succ, List.set_cons_zero]
        refine hl_take 8 rfl (by kernel_rfl) (by rfl) (fun w' hw' => load_key rfl rfl d.key (hdk w' hw')) hS0 (fun _ _ _ h => h) ?_
        simp only [Act.put, List.setIfInBounds_toArray, List.set_cons_succ, List.set_cons_zero]
        refine hl_take 9 rfl (by kernel_rfl) (by rfl) (fun w' hw' => run_faddr 53 _ 3 rfl rfl _ Try.underlying53 37 _ rfl rfl 0 sint) hS0 (fun _ _ _ h => h) ?_
        simp only [Act.put, List.setIfInBounds_toArray, List.set_cons_succ, List.set_cons_zero]
        refine hl_take 10 rfl (by kernel_rfl) (by rfl) (fun w' hw' => run_load1 3 _ rfl rfl (hdn w' hw') _ Try.underlying3 rfl) hS0 (fun _ _ _ h => h) ?_
        simp only [Act.put, List.setIfInBounds_toArray, List.set_cons_succ, List.set_cons_zero]
        refine hl_one 5 (by kernel_rfl) (hs_call rfl (by rfl) 33 [.tmp 50, .tmp 52, .tmp 54] _ rfl [.pointer (some ⟨gx, 0, none⟩), agg d.key, .int .i64 d.n] rfl enter_move (CON.out) (fun e x1 he => ?_))
        obtain ⟨rfl, hk1, hcon2⟩ := he
        refine ⟨_, rfl, hS0.trans hk1, ?_⟩
        simp only [Act.put, List.setIfInBounds_toArray, List.set_cons_succ, List.set_cons_zero]
        have CON2 := Lib.hid hcon2
        clear hcon2
        refine hl_one 11 (by kernel_rfl) (hs_call rfl (by rfl) 34 [.tmp 56, .tmp 58, .tmp 60] _ rfl [.pointer (some ⟨gy, 0, none⟩), agg d.key, .int .i64 d.n] rfl enter_move22 (CON2.out) (fun e x2 he => ?_))
        obtain ⟨rfl, hk2, hB2⟩ := he
        have hS2 := (hS0.trans hk1).trans hk2
        refine ⟨_, rfl, hS2, ?_⟩
        simp only [Act.put, List.setIfInBounds_toArray, List.set_cons_succ, List.set_cons_zero]
        refine hl_take (v := ?_) 12 rfl (by kernel_rfl) (by rfl) ?_ hS2 (fun _ _ _ h => h) ?_
        rotate_left
        · (intro w' hw'; go_simp; try with_reducible rfl)
        simp only [Act.put, List.setIfInBounds_toArray, List.set_cons_succ, List.set_cons_zero]
        refine hl_done (by kernel_rfl) ?_
        clear CON CON2
        have hdk2 := hdk _ hS2
        have hbx2 : Below w.heap.size w x2 := fresh_keep hbV2 hS2 (fun i hi => by rcases hi with rfl | rfl <;> omega)
        have hml2 : ((ixMove m d.key d.n).2).length ≤ k + 1 := by have := move_length m d.key d.n; omega
        have hB3 := hB2
        generalize (ixMove m d.key d.n).2 = mm at hB3 hml2
        generalize (move22 L d.key d.n).2 = LL at hB3
        have htel := hB3.tells
        have hget := get_ok _ d.key b mm _ hB3.ix
        have hg22 := Tells.get htel d.key
        generalize (look mm d.key).getD Place.zero = p at hget hg22
        generalize (look mm d.key).isSome = bb at hget hg22
        have hLm : LL.length = mm.length := htel.len
        have HGET := Lib.hid hget
        clear hget
        have HLM := Lib.hid hLm
        clear hLm
        go_wp2_with (first
          | (refine st_val rfl (run_faddr 53 _ 1 rfl rfl _ Try.underlying53 1 _ rfl rfl 31 s35) ?_)
          | (refine st_val rfl (load_key rfl rfl d.key ?_) ?_; (with_reducible exact hdk2)))
        refine HGET.out.mono ?_
        rintro e x3 ⟨rfl, hb3⟩
        have hp3 := range_block (heap_alloc_new x3 (.cells (Enc.enc p).toArray 38))
        have hB4 := hB3.fresh (fresh_alloc hb3 (.cells (Enc.enc p).toArray 38))
        have hdk4 := range_fresh hdk2 (fresh_alloc hb3 (.cells (Enc.enc p).toArray 38))
        have hbx4 := fresh_trans hbx2 (fresh_alloc hb3 (.cells (Enc.enc p).toArray 38))
        have hget2 := get22_ok gy LL d.key _ hB4.row (by rw [HLM.out]; omega)
        rw [hg22] at hget2
        clear hg22
        have HGET2 := Lib.hid hget2
        clear hget2
        go_wp2_with (first
          | (refine st_val rfl (run_alloc 38 Place.zero zero38 rfl) ?_)
          | (refine st_skip rfl (run_store_new 38 _ _ rfl rfl rfl p Place.zero rfl 38 s38) ?_)
          | (refine st_val rfl (run_faddr 53 _ 1 rfl rfl _ Try.underlying53 1 _ rfl rfl 31 s35) ?_)
          | (refine st_val rfl (load_key rfl rfl d.key ?_) ?_; (with_reducible exact hdk4)))
        refine HGET2.out.mono ?_
        rintro e x5 ⟨rfl, hb5⟩
        generalize x3.alloc (.cells (Enc.enc p).toArray 38) = x4 at hp3 hB4 hdk4 hbx4 hb5
        generalize x3.heap.size = g3 at hp3 ⊢
        have hp5 := range_fresh hp3 (fresh_alloc hb5 (.cells (Enc.enc p).toArray 38))
        have hq5 := range_block (heap_alloc_new x5 (.cells (Enc.enc p).toArray 38))
        have hB6 := hB4.fresh (fresh_alloc hb5 (.cells (Enc.enc p).toArray 38))
        have hbx6 := fresh_trans hbx4 (fresh_alloc hb5 (.cells (Enc.enc p).toArray 38))
        go_wp2_with (first
          | (refine st_val rfl (run_alloc 38 Place.zero zero38 rfl) ?_)
          | (refine st_skip rfl (run_store_new 38 _ _ rfl rfl rfl p Place.zero rfl 38 s38) ?_))
        generalize x5.alloc (.cells (Enc.enc p).toArray 38) = x6 at hp5 hq5 hB6 hbx6 ⊢
        generalize x5.heap.size = g5 at hq5 ⊢
        have hS6 : Below x6.heap.size x6 x6.drew := fresh_drew (fresh_refl x6)
        have hPF : ∀ w', Below x6.heap.size x6 w' → w'.rangeAt g3 0 (Enc.enc p) := fun w' hw => range_fresh hp5 hw
        have hQF : ∀ w', Below x6.heap.size x6 w' → w'.rangeAt g5 0 (Enc.enc p) := fun w' hw => range_fresh hq5 hw
        obtain ⟨Ay, cy, hgy, hRy, hney⟩ := hB6.row
        have hyF : ∀ w', Below x6.heap.size x6 w' → w'.cell? ⟨gy, 0, none⟩ = some (.slice Ay LL.length cy) := fun w' hw => range_block (by rw [hw.block gy (Array.getElem?_eq_some_iff.1 hgy).1]; exact hgy) 0 _ rfl
        have hlenc := len_ok _ b mm _ (hB6.ix.fresh hS6)
        rw [← HLM.out] at hlenc
        refine held_lit (fun w' => Below x6.heap.size x6 w') 28 rfl (by kernel_rfl) ?_
        refine hl_take 0 rfl (by kernel_rfl) (by rfl) (fun w' hw' => load_place rfl rfl p (hPF w' hw')) hS6 (fun _ _ _ h => h) ?_
        simp only [Act.put, List.setIfInBounds_toArray, List.set_cons_succ, List.set_cons_zero]
        refine hl_take 1 rfl (by kernel_rfl) (by rfl) (fun w' hw' => load_place rfl rfl p (hQF w' hw')) hS6 (fun _ _ _ h => h) ?_
        simp only [Act.put, List.setIfInBounds_toArray, List.set_cons_succ, List.set_cons_zero]
        refine hl_take 2 rfl (by kernel_rfl) (by rfl) (fun w' hw' => neq_place_f (p := p) (q := p) rfl rfl rfl rfl) hS6 (fun _ _ _ h => h) ?_
        simp only [Act.put, List.setIfInBounds_toArray, List.set_cons_succ, List.set_cons_zero]
        refine hl_take (v := ?_) 3 rfl (by kernel_rfl) (by rfl) ?_ hS6 (fun _ _ _ h => h) ?_
        rotate_left
        · (intro w' hw'; go_simp; try with_reducible rfl)
        simp only [Act.put, List.setIfInBounds_toArray, List.set_cons_succ, List.set_cons_zero]
        refine hl_take (v := ?_) 4 rfl (by kernel_rfl) (by rfl) ?_ hS6 (fun _ _ _ h => h) ?_
        rotate_left
        · (intro w' hw'; go_simp; try with_reducible rfl)
        simp only [Act.put, List.setIfInBounds_toArray, List.set_cons_succ, List.set_cons_zero]
        refine hl_take (v := ?_) 5 rfl (by kernel_rfl) (by rfl) ?_ hS6 (fun _ _ _ h => h) ?_
        rotate_left
        · (intro w' hw'; go_simp; try with_reducible rfl)
        simp only [Act.put, List.setIfInBounds_toArray, List.set_cons_succ, List.set_cons_zero]
        refine hl_take 6 rfl (by kernel_rfl) (by rfl) (fun w' hw' => op_neq_bool 4 _ _ _ bb rfl Try.underlying4 rfl rfl) hS6 (fun _ _ _ h => h) ?_
        simp only [Act.put, List.setIfInBounds_toArray, List.set_cons_succ, List.set_cons_zero]
        refine hl_take (v := ?_) 7 rfl (by kernel_rfl) (by rfl) ?_ hS6 (fun _ _ _ h => h) ?_
        rotate_left
        · (intro w' hw'; go_simp; try with_reducible rfl)
        simp only [Act.put, List.setIfInBounds_toArray, List.set_cons_succ, List.set_cons_zero]
        refine hl_take (v := ?_) 8 rfl (by kernel_rfl) (by rfl) ?_ hS6 (fun _ _ _ h => h) ?_
        rotate_left
        · (intro w' hw'; go_simp; try with_reducible rfl)
        simp only [Act.put, List.setIfInBounds_toArray, List.set_cons_succ, List.set_cons_zero]
        refine hl_take (v := ?_) 9 rfl (by kernel_rfl) (by rfl) ?_ hS6 (fun _ _ _ h => h) ?_
        rotate_left
        · (intro w' hw'; go_simp; try with_reducible rfl)
        simp only [Act.put, List.setIfInBounds_toArray, List.set_cons_succ, List.set_cons_zero]
        refine hl_take (v := ?_) 11 rfl (by kernel_rfl) (by rfl) ?_ hS6 (fun _ _ _ h => h) ?_
        rotate_left
        · (intro w' hw'; go_simp; try with_reducible rfl)
        simp only [Act.put, List.setIfInBounds_toArray, List.set_cons_succ, List.set_cons_zero]
        refine hl_take (v := ?_) 12 rfl (by kernel_rfl) (by rfl) ?_ hS6 (fun _ _ _ h => h) ?_
        rotate_left
        · (intro w' hw'; go_simp; try with_reducible rfl)
        simp only [Act.put, List.setIfInBounds_toArray, List.set_cons_succ, List.set_cons_zero]
        refine hl_take 13 rfl (by kernel_rfl) (by rfl) (fun w' hw' => run_faddr 65 _ 0 rfl rfl _ Try.underlying65 0 _ rfl rfl 0 sitems) hS6 (fun _ _ _ h => h) ?_
        simp only [Act.put, List.setIfInBounds_toArray, List.set_cons_succ, List.set_cons_zero]
        refine hl_take 14 rfl (by kernel_rfl) (by rfl) (fun w' hw' => run_load1 22 _ rfl rfl (hyF w' hw') _ Try.underlying22 rfl) hS6 (fun _ _ _ h => h) ?_
        simp only [Act.put, List.setIfInBounds_toArray, List.set_cons_succ, List.set_cons_zero]
        refine hl_take (v := ?_) 15 rfl (by kernel_rfl) (by rfl) ?_ hS6 (fun _ _ _ h => h) ?_
        rotate_left
        · (intro w' hw'; go_simp; try with_reducible rfl)
        simp only [Act.put, List.setIfInBounds_toArray, List.set_cons_succ, List.set_cons_zero]
        refine hl_one 10 (by kernel_rfl) (hs_call rfl (by rfl) 30 [.tmp 102] _ rfl [.pointer (some ⟨gx, 0, none⟩)] rfl enter_ilen (hlenc) (fun e x7 he => ?_))
        obtain ⟨rfl, rfl⟩ := he
        refine ⟨_, rfl, hS6, ?_⟩
        simp only [Act.put, List.setIfInBounds_toArray, List.set_cons_succ, List.set_cons_zero]
        refine hl_take 16 rfl (by kernel_rfl) (by rfl) (fun w' hw' => op_neq_int 3 _ _ _ (LL.length : Int) rfl Try.underlying3 rfl rfl) hS6 (fun _ _ _ h => h) ?_
        simp only [Act.put, List.setIfInBounds_toArray, List.set_cons_succ, List.set_cons_zero]
        refine hl_take (v := ?_) 17 rfl (by kernel_rfl) (by rfl) ?_ hS6 (fun _ _ _ h => h) ?_
        rotate_left
        · (intro w' hw'; go_simp; try with_reducible rfl)
        simp only [Act.put, List.setIfInBounds_toArray, List.set_cons_succ, List.set_cons_zero]
        refine hl_take (v := ?_) 18 rfl (by kernel_rfl) (by rfl) ?_ hS6 (fun _ _ _ h => h) ?_
        rotate_left
        · (intro w' hw'; go_simp; try with_reducible rfl)
        simp only [Act.put, List.setIfInBounds_toArray, List.set_cons_succ, List.set_cons_zero]
        refine hl_take (v := ?_) 19 rfl (by kernel_rfl) (by rfl) ?_ hS6 (fun _ _ _ h => h) ?_
        rotate_left
        · (intro w' hw'; go_simp; try with_reducible rfl)
        simp only [Act.put, List.setIfInBounds_toArray, List.set_cons_succ, List.set_cons_zero]
        refine hl_take (v := ?_) 21 rfl (by kernel_rfl) (by rfl) ?_ hS6 (fun _ _ _ h => h) ?_
        rotate_left
        · (intro w' hw'; go_simp; try with_reducible rfl)
        simp only [Act.put, List.setIfInBounds_toArray, List.set_cons_succ, List.set_cons_zero]
        refine hl_take (v := ?_) 22 rfl (by kernel_rfl) (by rfl) ?_ hS6 (fun _ _ _ h => h) ?_
        rotate_left
        · (intro w' hw'; go_simp; try with_reducible rfl)
        simp only [Act.put, List.setIfInBounds_toArray, List.set_cons_succ, List.set_cons_zero]
        refine hl_take 23 rfl (by kernel_rfl) (by rfl) (fun w' hw' => run_faddr 65 _ 0 rfl rfl _ Try.underlying65 0 _ rfl rfl 0 sitems) hS6 (fun _ _ _ h => h) ?_
        simp only [Act.put, List.setIfInBounds_toArray, List.set_cons_succ, List.set_cons_zero]
        refine hl_take 24 rfl (by kernel_rfl) (by rfl) (fun w' hw' => run_load1 22 _ rfl rfl (hyF w' hw') _ Try.underlying22 rfl) hS6 (fun _ _ _ h => h) ?_
        simp only [Act.put, List.setIfInBounds_toArray, List.set_cons_succ, List.set_cons_zero]
        have hmml : mm.length ≤ 1000000000 := by omega
        refine hl_one 20 (by kernel_rfl) (hs_call rfl (by rfl) 29 [.tmp 112] _ rfl [.pointer (some ⟨gx, 0, none⟩)] rfl enter_iitems (HITEMS.out _ b mm _ (hB6.ix.fresh hS6) hmml) (fun e x8 he => ?_))
        obtain ⟨v8, L8, rfl, hO8, hT8, hb8⟩ := he
        have hS8 := fresh_trans hS6 hb8
        refine ⟨_, rfl, hS8, ?_⟩
        simp only [Act.put, List.setIfInBounds_toArray, List.set_cons_succ, List.set_cons_zero]
        have hLL : L8 = LL := htel.one hT8.perm hT8.rising
        subst hLL
        have hl8 := hO8.len_max
        simp only [maxLen] at hl8
        obtain ⟨A8, c8, rfl, hR8, _⟩ := hO8.shape
        have hsame := SameItems_ok A8 Ay c8 cy L8 L8 _ hR8 (hRy.fresh hS8) (by omega) (by omega)
        refine hl_one 25 (by kernel_rfl) (hs_call rfl (by rfl) 31 [.tmp 113, .tmp 117] _ rfl [.slice A8 L8.length c8, .slice Ay L8.length cy] rfl enter_samei (hsame) (fun e x9 he => ?_))
        obtain ⟨rfl, n9, rfl⟩ := he
        have hS9 := fresh_trans hS8 (fresh_drewN (fresh_refl x8) n9)
        refine ⟨_, rfl, hS9, ?_⟩
        simp only [Act.put, List.setIfInBounds_toArray, List.set_cons_succ, List.set_cons_zero]
        simp only [decide_true]
        refine hl_take (v := ?_) 26 rfl (by kernel_rfl) (by rfl) ?_ hS9 (fun _ _ _ h => h) ?_
        rotate_left
        · (intro w' hw'; go_simp; try with_reducible rfl)
        simp only [Act.put, List.setIfInBounds_toArray, List.set_cons_succ, List.set_cons_zero]
        refine hl_take (v := ?_) 27 rfl (by kernel_rfl) (by rfl) ?_ hS9 (fun _ _ _ h => h) ?_
        rotate_left
        · (intro w' hw'; go_simp; try with_reducible rfl)
        simp only [Act.put, List.setIfInBounds_toArray, List.set_cons_succ, List.set_cons_zero]
        refine hl_done (by kernel_rfl) ?_
        have hB9 := hB6.fresh hS9
        have hbx9 := fresh_trans hbx6 hS9
        clear hPF hQF hyF
        go_wp2
        go_roundw
        case rel => exact ⟨k + 1, mm, _, by omega, by go_num, hml2, hB9, hbx9⟩
        case measure => simp [RowKit.intOf]; omega
      · have hcon := both_want hBd hm1000 d.key d.n
        have CON := Lib.hid hcon
        clear hcon
        go_wp2
        refine held_lit (fun w' => Keep (Two b gy) V w') 13 rfl (by kernel_rfl) ?_
        refine hl_take (v := ?_) 0 rfl (by kernel_rfl) (by rfl) ?_ hS0 (fun _ _ _ h => h) ?_
        rotate_left
        · (intro w' hw'; go_simp; try with_reducible rfl)
        simp only [Act.put, List.setIfInBounds_toArray, List.set_cons_succ, List.set_cons_zero]
        refine hl_take 1 rfl (by kernel_rfl) (by rfl) (fun w' hw' => run_faddr 53 _ 1 rfl rfl _ Try.underlying53 1 _ rfl rfl 31 s35) hS0 (fun _ _ _ h => h) ?_
        simp only [Act.put, List.setIfInBounds_toArray, List.set_cons_succ, List.set_cons_zero]
        refine hl_take 2 rfl (by kernel_rfl) (by rfl) (fun w' hw' => load_key rfl rfl d.key (hdk w' hw')) hS0 (fun _ _ _ h => h) ?_
        simp only [Act.put, List.setIfInBounds_toArray, List.set_cons_succ, List.set_cons_zero]
        refine hl_take 3 rfl (by kernel_rfl) (by rfl) (fun w' hw' => run_faddr 53 _ 3 rfl rfl _ Try.underlying53 37 _ rfl rfl 0 sint) hS0 (fun _ _ _ h => h) ?_
        simp only [Act.put, List.setIfInBounds_toArray, List.set_cons_succ, List.set_cons_zero]
        refine hl_take 4 rfl (by kernel_rfl) (by rfl) (fun w' hw' => run_load1 3 _ rfl rfl (hdn w' hw') _ Try.underlying3 rfl) hS0 (fun _ _ _ h => h) ?_
        simp only [Act.put, List.setIfInBounds_toArray, List.set_cons_succ, List.set_cons_zero]
        refine hl_take (v := ?_) 6 rfl (by kernel_rfl) (by rfl) ?_ hS0 (fun _ _ _ h => h) ?_
        rotate_left
        · (intro w' hw'; go_simp; try with_reducible rfl)
        simp only [Act.put, List.setIfInBounds_toArray, List.set_cons_succ, List.set_cons_zero]
        refine hl_take 7 rfl (by kernel_rfl) (by rfl) (fun w' hw' => run_faddr 53 _ 1 rfl rfl _ Try.underlying53 1 _ rfl rfl 31 s35) hS0 (fun _ _ _ h => h) ?_
        simp only [Act.put, List.setIfInBounds_toArray, List.set_cons_succ, List.set_cons_zero]
        refine hl_take 8 rfl (by kernel_rfl) (by rfl) (fun w' hw' => load_key rfl rfl d.key (hdk w' hw')) hS0 (fun _ _ _ h => h) ?_
        simp only [Act.put, List.setIfInBounds_toArray, List.set_cons_succ, List.set_cons_zero]
        refine hl_take 9 rfl (by kernel_rfl) (by rfl) (fun w' hw' => run_faddr 53 _ 3 rfl rfl _ Try.underlying53 37 _ rfl rfl 0 sint) hS0 (fun _ _ _ h => h) ?_
        simp only [Act.put, List.setIfInBounds_toArray, List.set_cons_succ, List.set_cons_zero]
        refine hl_take 10 rfl (by kernel_rfl) (by rfl) (fun w' hw' => run_load1 3 _ rfl rfl (hdn w' hw') _ Try.underlying3 rfl) hS0 (fun _ _ _ h => h) ?_
        simp only [Act.put, List.setIfInBounds_toArray, List.set_cons_succ, List.set_cons_zero]
        refine hl_one 5 (by kernel_rfl) (hs_call rfl (by rfl) 35 [.tmp 66, .tmp 68, .tmp 70] _ rfl [.pointer (some ⟨gx, 0, none⟩), agg d.key, .int .i64 d.n] rfl enter_want (CON.out) (fun e x1 he => ?_))
        obtain ⟨rfl, hk1, hcon2⟩ := he
        refine ⟨_, rfl, hS0.trans hk1, ?_⟩
        simp only [Act.put, List.setIfInBounds_toArray, List.set_cons_succ, List.set_cons_zero]
        have CON2 := Lib.hid hcon2
        clear hcon2
        refine hl_one 11 (by kernel_rfl) (hs_call rfl (by rfl) 36 [.tmp 72, .tmp 74, .tmp 76] _ rfl [.pointer (some ⟨gy, 0, none⟩), agg d.key, .int .i64 d.n] rfl enter_want22 (CON2.out) (fun e x2 he => ?_))
        obtain ⟨rfl, hk2, hB2⟩ := he
        have hS2 := (hS0.trans hk1).trans hk2
        refine ⟨_, rfl, hS2, ?_⟩
        simp only [Act.put, List.setIfInBounds_toArray, List.set_cons_succ, List.set_cons_zero]
        refine hl_take (v := ?_) 12 rfl (by kernel_rfl) (by rfl) ?_ hS2 (fun _ _ _ h => h) ?_
        rotate_left
        · (intro w' hw'; go_simp; try with_reducible rfl)
        simp only [Act.put, List.setIfInBounds_toArray, List.set_cons_succ, List.set_cons_zero]
        refine hl_done (by kernel_rfl) ?_
        clear CON CON2
        have hdk2 := hdk _ hS2
        have hbx2 : Below w.heap.size w x2 := fresh_keep hbV2 hS2 (fun i hi => by rcases hi with rfl | rfl <;> omega)
        have hml2 : ((ixWant m d.key d.n).2).length ≤ k + 1 := by have := want_length m d.key d.n; omega
        have hB3 := hB2
        generalize (ixWant m d.key d.n).2 = mm at hB3 hml2
        generalize (want22 L d.key d.n).2 = LL at hB3
        have htel := hB3.tells
        have hget := get_ok _ d.key b mm _ hB3.ix
        have hg22 := Tells.get htel d.key
        generalize (look mm d.key).getD Place.zero = p at hget hg22
        generalize (look mm d.key).isSome = bb at hget hg22
        have hLm : LL.length = mm.length := htel.len
        have HGET := Lib.hid hget
        clear hget
        have HLM := Lib.hid hLm
        clear hLm
        go_wp2_with (first
          | (refine st_val rfl (run_faddr 53 _ 1 rfl rfl _ Try.underlying53 1 _ rfl rfl 31 s35) ?_)
          | (refine st_val rfl (load_key rfl rfl d.key ?_) ?_; (with_reducible exact hdk2)))
        refine HGET.out.mono ?_
        rintro e x3 ⟨rfl, hb3⟩
        have hp3 := range_block (heap_alloc_new x3 (.cells (Enc.enc p).toArray 38))
        have hB4 := hB3.fresh (fresh_alloc hb3 (.cells (Enc.enc p).toArray 38))
        have hdk4 := range_fresh hdk2 (fresh_alloc hb3 (.cells (Enc.enc p).toArray 38))
        have hbx4 := fresh_trans hbx2 (fresh_alloc hb3 (.cells (Enc.enc p).toArray 38))
        have hget2 := get22_ok gy LL d.key _ hB4.row (by rw [HLM.out]; omega)
        rw [hg22] at hget2
        clear hg22
        have HGET2 := Lib.hid hget2
        clear hget2
        go_wp2_with (first
          | (refine st_val rfl (run_alloc 38 Place.zero zero38 rfl) ?_)
          | (refine st_skip rfl (run_store_new 38 _ _ rfl rfl rfl p Place.zero rfl 38 s38) ?_)
          | (refine st_val rfl (run_faddr 53 _ 1 rfl rfl _ Try.underlying53 1 _ rfl rfl 31 s35) ?_)
          | (refine st_val rfl (load_key rfl rfl d.key ?_) ?_; (with_reducible exact hdk4)))
        refine HGET2.out.mono ?_
        rintro e x5 ⟨rfl, hb5⟩
        generalize x3.alloc (.cells (Enc.enc p).toArray 38) = x4 at hp3 hB4 hdk4 hbx4 hb5
        generalize x3.heap.size = g3 at hp3 ⊢
        have hp5 := range_fresh hp3 (fresh_alloc hb5 (.cells (Enc.enc p).toArray 38))
        have hq5 := range_block (heap_alloc_new x5 (.cells (Enc.enc p).toArray 38))
        have hB6 := hB4.fresh (fresh_alloc hb5 (.cells (Enc.enc p).toArray 38))
        have hbx6 := fresh_trans hbx4 (fresh_alloc hb5 (.cells (Enc.enc p).toArray 38))
        go_wp2_with (first
          | (refine st_val rfl (run_alloc 38 Place.zero zero38 rfl) ?_)
          | (refine st_skip rfl (run_store_new 38 _ _ rfl rfl rfl p Place.zero rfl 38 s38) ?_))
        generalize x5.alloc (.cells (Enc.enc p).toArray 38) = x6 at hp5 hq5 hB6 hbx6 ⊢
        generalize x5.heap.size = g5 at hq5 ⊢
        have hS6 : Below x6.heap.size x6 x6.drew := fresh_drew (fresh_refl x6)
        have hPF : ∀ w', Below x6.heap.size x6 w' → w'.rangeAt g3 0 (Enc.enc p) := fun w' hw => range_fresh hp5 hw
        have hQF : ∀ w', Below x6.heap.size x6 w' → w'.rangeAt g5 0 (Enc.enc p) := fun w' hw => range_fresh hq5 hw
        obtain ⟨Ay, cy, hgy, hRy, hney⟩ := hB6.row
        have hyF : ∀ w', Below x6.heap.size x6 w' → w'.cell? ⟨gy, 0, none⟩ = some (.slice Ay LL.length cy) := fun w' hw => range_block (by rw [hw.block gy (Array.getElem?_eq_some_iff.1 hgy).1]; exact hgy) 0 _ rfl
        have hlenc := len_ok _ b mm _ (hB6.ix.fresh hS6)
        rw [← HLM.out] at hlenc
        refine held_lit (fun w' => Below x6.heap.size x6 w') 28 rfl (by kernel_rfl) ?_
        refine hl_take 0 rfl (by kernel_rfl) (by rfl) (fun w' hw' => load_place rfl rfl p (hPF w' hw')) hS6 (fun _ _ _ h => h) ?_
        simp only [Act.put, List.setIfInBounds_toArray, List.set_cons_succ, List.set_cons_zero]
        refine hl_take 1 rfl (by kernel_rfl) (by rfl) (fun w' hw' => load_place rfl rfl p (hQF w' hw')) hS6 (fun _ _ _ h => h) ?_
        simp only [Act.put, List.setIfInBounds_toArray, List.set_cons_succ, List.set_cons_zero]
        refine hl_take 2 rfl (by kernel_rfl) (by rfl) (fun w' hw' => neq_place_f (p := p) (q := p) rfl rfl rfl rfl) hS6 (fun _ _ _ h => h) ?_
        simp only [Act.put, List.setIfInBounds_toArray, List.set_cons_succ, List.set_cons_zero]
        refine hl_take (v := ?_) 3 rfl (by kernel_rfl) (by rfl) ?_ hS6 (fun _ _ _ h => h) ?_
        rotate_left
        · (intro w' hw'; go_simp; try with_reducible rfl)
        simp only [Act.put, List.setIfInBounds_toArray, List.set_cons_succ, List.set_cons_zero]
        refine hl_take (v := ?_) 4 rfl (by kernel_rfl) (by rfl) ?_ hS6 (fun _ _ _ h => h) ?_
        rotate_left
        · (intro w' hw'; go_simp; try with_reducible rfl)
        simp only [Act.put, List.setIfInBounds_toArray, List.set_cons_succ, List.set_cons_zero]
        refine hl_take (v := ?_) 5 rfl (by kernel_rfl) (by rfl) ?_ hS6 (fun _ _ _ h => h) ?_
        rotate_left
        · (intro w' hw'; go_simp; try with_reducible rfl)
        simp only [Act.put, List.setIfInBounds_toArray, List.set_cons_succ, List.set_cons_zero]
        refine hl_take 6 rfl (by kernel_rfl) (by rfl) (fun w' hw' => op_neq_bool 4 _ _ _ bb rfl Try.underlying4 rfl rfl) hS6 (fun _ _ _ h => h) ?_
        simp only [Act.put, List.setIfInBounds_toArray, List.set_cons_succ, List.set_cons_zero]
        refine hl_take (v := ?_) 7 rfl (by kernel_rfl) (by rfl) ?_ hS6 (fun _ _ _ h => h) ?_
        rotate_left
        · (intro w' hw'; go_simp; try with_reducible rfl)
        simp only [Act.put, List.setIfInBounds_toArray, List.set_cons_succ, List.set_cons_zero]
        refine hl_take (v := ?_) 8 rfl (by kernel_rfl) (by rfl) ?_ hS6 (fun _ _ _ h => h) ?_
        rotate_left
        · (intro w' hw'; go_simp; try with_reducible rfl)
        simp only [Act.put, List.setIfInBounds_toArray, List.set_cons_succ, List.set_cons_zero]
        refine hl_take (v := ?_) 9 rfl (by kernel_rfl) (by rfl) ?_ hS6 (fun _ _ _ h => h) ?_
        rotate_left
        · (intro w' hw'; go_simp; try with_reducible rfl)
        simp only [Act.put, List.setIfInBounds_toArray, List.set_cons_succ, List.set_cons_zero]
        refine hl_take (v := ?_) 11 rfl (by kernel_rfl) (by rfl) ?_ hS6 (fun _ _ _ h => h) ?_
        rotate_left
        · (intro w' hw'; go_simp; try with_reducible rfl)
        simp only [Act.put, List.setIfInBounds_toArray, List.set_cons_succ, List.set_cons_zero]
        refine hl_take (v := ?_) 12 rfl (by kernel_rfl) (by rfl) ?_ hS6 (fun _ _ _ h => h) ?_
        rotate_left
        · (intro w' hw'; go_simp; try with_reducible rfl)
        simp only [Act.put, List.setIfInBounds_toArray, List.set_cons_succ, List.set_cons_zero]
        refine hl_take 13 rfl (by kernel_rfl) (by rfl) (fun w' hw' => run_faddr 65 _ 0 rfl rfl _ Try.underlying65 0 _ rfl rfl 0 sitems) hS6 (fun _ _ _ h => h) ?_
        simp only [Act.put, List.setIfInBounds_toArray, List.set_cons_succ, List.set_cons_zero]
        refine hl_take 14 rfl (by kernel_rfl) (by rfl) (fun w' hw' => run_load1 22 _ rfl rfl (hyF w' hw') _ Try.underlying22 rfl) hS6 (fun _ _ _ h => h) ?_
        simp only [Act.put, List.setIfInBounds_toArray, List.set_cons_succ, List.set_cons_zero]
        refine hl_take (v := ?_) 15 rfl (by kernel_rfl) (by rfl) ?_ hS6 (fun _ _ _ h => h) ?_
        rotate_left
        · (intro w' hw'; go_simp; try with_reducible rfl)
        simp only [Act.put, List.setIfInBounds_toArray, List.set_cons_succ, List.set_cons_zero]
        refine hl_one 10 (by kernel_rfl) (hs_call rfl (by rfl) 30 [.tmp 102] _ rfl [.pointer (some ⟨gx, 0, none⟩)] rfl enter_ilen (hlenc) (fun e x7 he => ?_))
        obtain ⟨rfl, rfl⟩ := he
        refine ⟨_, rfl, hS6, ?_⟩
        simp only [Act.put, List.setIfInBounds_toArray, List.set_cons_succ, List.set_cons_zero]
        refine hl_take 16 rfl (by kernel_rfl) (by rfl) (fun w' hw' => op_neq_int 3 _ _ _ (LL.length : Int) rfl Try.underlying3 rfl rfl) hS6 (fun _ _ _ h => h) ?_
        simp only [Act.put, List.setIfInBounds_toArray, List.set_cons_succ, List.set_cons_zero]
        refine hl_take (v := ?_) 17 rfl (by kernel_rfl) (by rfl) ?_ hS6 (fun _ _ _ h => h) ?_
        rotate_left
        · (intro w' hw'; go_simp; try with_reducible rfl)
        simp only [Act.put, List.setIfInBounds_toArray, List.set_cons_succ, List.set_cons_zero]
        refine hl_take (v := ?_) 18 rfl (by kernel_rfl) (by rfl) ?_ hS6 (fun _ _ _ h => h) ?_
        rotate_left
        · (intro w' hw'; go_simp; try with_reducible rfl)
        simp only [Act.put, List.setIfInBounds_toArray, List.set_cons_succ, List.set_cons_zero]
        refine hl_take (v := ?_) 19 rfl (by kernel_rfl) (by rfl) ?_ hS6 (fun _ _ _ h => h) ?_
        rotate_left
        · (intro w' hw'; go_simp; try with_reducible rfl)
        simp only [Act.put, List.setIfInBounds_toArray, List.set_cons_succ, List.set_cons_zero]
        refine hl_take (v := ?_) 21 rfl (by kernel_rfl) (by rfl) ?_ hS6 (fun _ _ _ h => h) ?_
        rotate_left
        · (intro w' hw'; go_simp; try with_reducible rfl)
        simp only [Act.put, List.setIfInBounds_toArray, List.set_cons_succ, List.set_cons_zero]
        refine hl_take (v := ?_) 22 rfl (by kernel_rfl) (by rfl) ?_ hS6 (fun _ _ _ h => h) ?_
        rotate_left
        · (intro w' hw'; go_simp; try with_reducible rfl)
        simp only [Act.put, List.setIfInBounds_toArray, List.set_cons_succ, List.set_cons_zero]
        refine hl_take 23 rfl (by kernel_rfl) (by rfl) (fun w' hw' => run_faddr 65 _ 0 rfl rfl _ Try.underlying65 0 _ rfl rfl 0 sitems) hS6 (fun _ _ _ h => h) ?_
        simp only [Act.put, List.setIfInBounds_toArray, List.set_cons_succ, List.set_cons_zero]
        refine hl_take 24 rfl (by kernel_rfl) (by rfl) (fun w' hw' => run_load1 22 _ rfl rfl (hyF w' hw') _ Try.underlying22 rfl) hS6 (fun _ _ _ h => h) ?_
        simp only [Act.put, List.setIfInBounds_toArray, List.set_cons_succ, List.set_cons_zero]
        have hmml : mm.length ≤ 1000000000 := by omega
        refine hl_one 20 (by kernel_rfl) (hs_call rfl (by rfl) 29 [.tmp 112] _ rfl [.pointer (some ⟨gx, 0, none⟩)] rfl enter_iitems (HITEMS.out _ b mm _ (hB6.ix.fresh hS6) hmml) (fun e x8 he => ?_))
        obtain ⟨v8, L8, rfl, hO8, hT8, hb8⟩ := he
        have hS8 := fresh_trans hS6 hb8
        refine ⟨_, rfl, hS8, ?_⟩
        simp only [Act.put, List.setIfInBounds_toArray, List.set_cons_succ, List.set_cons_zero]
        have hLL : L8 = LL := htel.one hT8.perm hT8.rising
        subst hLL
        have hl8 := hO8.len_max
        simp only [maxLen] at hl8
        obtain ⟨A8, c8, rfl, hR8, _⟩ := hO8.shape
        have hsame := SameItems_ok A8 Ay c8 cy L8 L8 _ hR8 (hRy.fresh hS8) (by omega) (by omega)
        refine hl_one 25 (by kernel_rfl) (hs_call rfl (by rfl) 31 [.tmp 113, .tmp 117] _ rfl [.slice A8 L8.length c8, .slice Ay L8.length cy] rfl enter_samei (hsame) (fun e x9 he => ?_))
        obtain ⟨rfl, n9, rfl⟩ := he
        have hS9 := fresh_trans hS8 (fresh_drewN (fresh_refl x8) n9)
        refine ⟨_, rfl, hS9, ?_⟩
        simp only [Act.put, List.setIfInBounds_toArray, List.set_cons_succ, List.set_cons_zero]
        simp only [decide_true]
        refine hl_take (v := ?_) 26 rfl (by kernel_rfl) (by rfl) ?_ hS9 (fun _ _ _ h => h) ?_
        rotate_left
        · (intro w' hw'; go_simp; try with_reducible rfl)
        simp only [Act.put, List.setIfInBounds_toArray, List.set_cons_succ, List.set_cons_zero]
        refine hl_take (v := ?_) 27 rfl (by kernel_rfl) (by rfl) ?_ hS9 (fun _ _ _ h => h) ?_
        rotate_left
        · (intro w' hw'; go_simp; try with_reducible rfl)
        simp only [Act.put, List.setIfInBounds_toArray, List.set_cons_succ, List.set_cons_zero]
        refine hl_done (by kernel_rfl) ?_
        have hB9 := hB6.fresh hS9
        have hbx9 := fresh_trans hbx6 hS9
        clear hPF hQF hyF
        go_wp2
        go_roundw
        case rel => exact ⟨k + 1, mm, _, by omega, by go_num, hml2, hB9, hbx9⟩
        case measure => simp [RowKit.intOf]; omega
      · have hcon := both_want hBd hm1000 d.key d.n
        have CON := Lib.hid hcon
        clear hcon
        go_wp2
        refine held_lit (fun w' => Keep (Two b gy) V w') 13 rfl (by kernel_rfl) ?_
        refine hl_take (v := ?_) 0 rfl (by kernel_rfl) (by rfl) ?_ hS0 (fun _ _ _ h => h) ?_
        rotate_left
        · (intro w' hw'; go_simp; try with_reducible rfl)
        simp only [Act.put, List.setIfInBounds_toArray, List.set_cons_succ, List.set_cons_zero]
        refine hl_take 1 rfl (by kernel_rfl) (by rfl) (fun w' hw' => run_faddr 53 _ 1 rfl rfl _ Try.underlying53 1 _ rfl rfl 31 s35) hS0 (fun _ _ _ h => h) ?_
        simp only [Act.put, List.setIfInBounds_toArray, List.set_cons_succ, List.set_cons_zero]
        refine hl_take 2 rfl (by kernel_rfl) (by rfl) (fun w' hw' => load_key rfl rfl d.key (hdk w' hw')) hS0 (fun _ _ _ h => h) ?_
        simp only [Act.put, List.setIfInBounds_toArray, List.set_cons_succ, List.set_cons_zero]
        refine hl_take 3 rfl (by kernel_rfl) (by rfl) (fun w' hw' => run_faddr 53 _ 3 rfl rfl _ Try.underlying53 37 _ rfl rfl 0 sint) hS0 (fun _ _ _ h => h) ?_
        simp only [Act.put, List.setIfInBounds_toArray, List.set_cons_succ, List.set_cons_zero]
        refine hl_take 4 rfl (by kernel_rfl) (by rfl) (fun w' hw' => run_load1 3 _ rfl rfl (hdn w' hw') _ Try.underlying3 rfl) hS0 (fun _ _ _ h => h) ?_
        simp only [Act.put, List.setIfInBounds_toArray, List.set_cons_succ, List.set_cons_zero]
        refine hl_take (v := ?_) 6 rfl (by kernel_rfl) (by rfl) ?_ hS0 (fun _ _ _ h => h) ?_
        rotate_left
        · (intro w' hw'; go_simp; try with_reducible rfl)
        simp only [Act.put, List.setIfInBounds_toArray, List.set_cons_succ, List.set_cons_zero]
        refine hl_take 7 rfl (by kernel_rfl) (by rfl) (fun w' hw' => run_faddr 53 _ 1 rfl rfl _ Try.underlying53 1 _ rfl rfl 31 s35) hS0 (fun _ _ _ h => h) ?_
        simp only [Act.put, List.setIfInBounds_toArray, List.set_cons_succ, List.set_cons_zero]
        refine hl_take 8 rfl (by kernel_rfl) (by rfl) (fun w' hw' => load_key rfl rfl d.key (hdk w' hw')) hS0 (fun _ _ _ h => h) ?_
        simp only [Act.put, List.setIfInBounds_toArray, List.set_cons_succ, List.set_cons_zero]
        refine hl_take 9 rfl (by kernel_rfl) (by rfl) (fun w' hw' => run_faddr 53 _ 3 rfl rfl _ Try.underlying53 37 _ rfl rfl 0 sint) hS0 (fun _ _ _ h => h) ?_
        simp only [Act.put, List.setIfInBounds_toArray, List.set_cons_succ, List.set_cons_zero]
        refine hl_take 10 rfl (by kernel_rfl) (by rfl) (fun w' hw' => run_load1 3 _ rfl rfl (hdn w' hw') _ Try.underlying3 rfl) hS0 (fun _ _ _ h => h) ?_
        simp only [Act.put, List.setIfInBounds_toArray, List.set_cons_succ, List.set_cons_zero]
        refine hl_one 5 (by kernel_rfl) (hs_call rfl (by rfl) 35 [.tmp 66, .tmp 68, .tmp 70] _ rfl [.pointer (some ⟨gx, 0, none⟩), agg d.key, .int .i64 d.n] rfl enter_want (CON.out) (fun e x1 he => ?_))
        obtain ⟨rfl, hk1, hcon2⟩ := he
        refine ⟨_, rfl, hS0.trans hk1, ?_⟩
        simp only [Act.put, List.setIfInBounds_toArray, List.set_cons_succ, List.set_cons_zero]
        have CON2 := Lib.hid hcon2
        clear hcon2
        refine hl_one 11 (by kernel_rfl) (hs_call rfl (by rfl) 36 [.tmp 72, .tmp 74, .tmp 76] _ rfl [.pointer (some ⟨gy, 0, none⟩), agg d.key, .int .i64 d.n] rfl enter_want22 (CON2.out) (fun e x2 he => ?_))
        obtain ⟨rfl, hk2, hB2⟩ := he
        have hS2 := (hS0.trans hk1).trans hk2
        refine ⟨_, rfl, hS2, ?_⟩
        simp only [Act.put, List.setIfInBounds_toArray, List.set_cons_succ, List.set_cons_zero]
        refine hl_take (v := ?_) 12 rfl (by kernel_rfl) (by rfl) ?_ hS2 (fun _ _ _ h => h) ?_
        rotate_left
        · (intro w' hw'; go_simp; try with_reducible rfl)
        simp only [Act.put, List.setIfInBounds_toArray, List.set_cons_succ, List.set_cons_zero]
        refine hl_done (by kernel_rfl) ?_
        clear CON CON2
        have hdk2 := hdk _ hS2
        have hbx2 : Below w.heap.size w x2 := fresh_keep hbV2 hS2 (fun i hi => by rcases hi with rfl | rfl <;> omega)
        have hml2 : ((ixWant m d.key d.n).2).length ≤ k + 1 := by have := want_length m d.key d.n; omega
        have hB3 := hB2
        generalize (ixWant m d.key d.n).2 = mm at hB3 hml2
        generalize (want22 L d.key d.n).2 = LL at hB3
        have htel := hB3.tells
        have hget := get_ok _ d.key b mm _ hB3.ix
        have hg22 := Tells.get htel d.key
        generalize (look mm d.key).getD Place.zero = p at hget hg22
        generalize (look mm d.key).isSome = bb at hget hg22
        have hLm : LL.length = mm.length := htel.len
        have HGET := Lib.hid hget
        clear hget
        have HLM := Lib.hid hLm
        clear hLm
        go_wp2_with (first
          | (refine st_val rfl (run_faddr 53 _ 1 rfl rfl _ Try.underlying53 1 _ rfl rfl 31 s35) ?_)
          | (refine st_val rfl (load_key rfl rfl d.key ?_) ?_; (with_reducible exact hdk2)))
        refine HGET.out.mono ?_
        rintro e x3 ⟨rfl, hb3⟩
        have hp3 := range_block (heap_alloc_new x3 (.cells (Enc.enc p).toArray 38))
        have hB4 := hB3.fresh (fresh_alloc hb3 (.cells (Enc.enc p).toArray 38))
        have hdk4 := range_fresh hdk2 (fresh_alloc hb3 (.cells (Enc.enc p).toArray 38))
        have hbx4 := fresh_trans hbx2 (fresh_alloc hb3 (.cells (Enc.enc p).toArray 38))
        have hget2 := get22_ok gy LL d.key _ hB4.row (by rw [HLM.out]; omega)
        rw [hg22] at hget2
        clear hg22
        have HGET2 := Lib.hid hget2
        clear hget2
        go_wp2_with (first
          | (refine st_val rfl (run_alloc 38 Place.zero zero38 rfl) ?_)
          | (refine st_skip rfl (run_store_new 38 _ _ rfl rfl rfl p Place.zero rfl 38 s38) ?_)
          | (refine st_val rfl (run_faddr 53 _ 1 rfl rfl _ Try.underlying53 1 _ rfl rfl 31 s35) ?_)
          | (refine st_val rfl (load_key rfl rfl d.key ?_) ?_; (with_reducible exact hdk4)))
        refine HGET2.out.mono ?_
        rintro e x5 ⟨rfl, hb5⟩
        generalize x3.alloc (.cells (Enc.enc p).toArray 38) = x4 at hp3 hB4 hdk4 hbx4 hb5
        generalize x3.heap.size = g3 at hp3 ⊢
        have hp5 := range_fresh hp3 (fresh_alloc hb5 (.cells (Enc.enc p).toArray 38))
        have hq5 := range_block (heap_alloc_new x5 (.cells (Enc.enc p).toArray 38))
        have hB6 := hB4.fresh (fresh_alloc hb5 (.cells (Enc.enc p).toArray 38))
        have hbx6 := fresh_trans hbx4 (fresh_alloc hb5 (.cells (Enc.enc p).toArray 38))
        go_wp2_with (first
          | (refine st_val rfl (run_alloc 38 Place.zero zero38 rfl) ?_)
          | (refine st_skip rfl (run_store_new 38 _ _ rfl rfl rfl p Place.zero rfl 38 s38) ?_))
        generalize x5.alloc (.cells (Enc.enc p).toArray 38) = x6 at hp5 hq5 hB6 hbx6 ⊢
        generalize x5.heap.size = g5 at hq5 ⊢
        have hS6 : Below x6.heap.size x6 x6.drew := fresh_drew (fresh_refl x6)
        have hPF : ∀ w', Below x6.heap.size x6 w' → w'.rangeAt g3 0 (Enc.enc p) := fun w' hw => range_fresh hp5 hw
        have hQF : ∀ w', Below x6.heap.size x6 w' → w'.rangeAt g5 0 (Enc.enc p) := fun w' hw => range_fresh hq5 hw
        obtain ⟨Ay, cy, hgy, hRy, hney⟩ := hB6.row
        have hyF : ∀ w', Below x6.heap.size x6 w' → w'.cell? ⟨gy, 0, none⟩ = some (.slice Ay LL.length cy) := fun w' hw => range_block (by rw [hw.block gy (Array.getElem?_eq_some_iff.1 hgy).1]; exact hgy) 0 _ rfl
        have hlenc := len_ok _ b mm _ (hB6.ix.fresh hS6)
        rw [← HLM.out] at hlenc
        refine held_lit (fun w' => Below x6.heap.size x6 w') 28 rfl (by kernel_rfl) ?_
        refine hl_take 0 rfl (by kernel_rfl) (by rfl) (fun w' hw' => load_place rfl rfl p (hPF w' hw')) hS6 (fun _ _ _ h => h) ?_
        simp only [Act.put, List.setIfInBounds_toArray, List.set_cons_succ, List.set_cons_zero]
        refine hl_take 1 rfl (by kernel_rfl) (by rfl) (fun w' hw' => load_place rfl rfl p (hQF w' hw')) hS6 (fun _ _ _ h => h) ?_
        simp only [Act.put, List.setIfInBounds_toArray, List.set_cons_succ, List.set_cons_zero]
        refine hl_take 2 rfl (by kernel_rfl) (by rfl) (fun w' hw' => neq_place_f (p := p) (q := p) rfl rfl rfl rfl) hS6 (fun _ _ _ h => h) ?_
        simp only [Act.put, List.setIfInBounds_toArray, List.set_cons_succ, List.set_cons_zero]
        refine hl_take (v := ?_) 3 rfl (by kernel_rfl) (by rfl) ?_ hS6 (fun _ _ _ h => h) ?_
        rotate_left
        · (intro w' hw'; go_simp; try with_reducible rfl)
        simp only [Act.put, List.setIfInBounds_toArray, List.set_cons_succ, List.set_cons_zero]
        refine hl_take (v := ?_) 4 rfl (by kernel_rfl) (by rfl) ?_ hS6 (fun _ _ _ h => h) ?_
        rotate_left
        · (intro w' hw'; go_simp; try with_reducible rfl)
        simp only [Act.put, List.setIfInBounds_toArray, List.set_cons_succ, List.set_cons_zero]
        refine hl_take (v := ?_) 5 rfl (by kernel_rfl) (by rfl) ?_ hS6 (fun _ _ _ h => h) ?_
        rotate_left
        · (intro w' hw'; go_simp; try with_reducible rfl)
        simp only [Act.put, List.setIfInBounds_toArray, List.set_cons_succ, List.set_cons_zero]
        refine hl_take 6 rfl (by kernel_rfl) (by rfl) (fun w' hw' => op_neq_bool 4 _ _ _ bb rfl Try.underlying4 rfl rfl) hS6 (fun _ _ _ h => h) ?_
        simp only [Act.put, List.setIfInBounds_toArray, List.set_cons_succ, List.set_cons_zero]
        refine hl_take (v := ?_) 7 rfl (by kernel_rfl) (by rfl) ?_ hS6 (fun _ _ _ h => h) ?_
        rotate_left
        · (intro w' hw'; go_simp; try with_reducible rfl)
        simp only [Act.put, List.setIfInBounds_toArray, List.set_cons_succ, List.set_cons_zero]
        refine hl_take (v := ?_) 8 rfl (by kernel_rfl) (by rfl) ?_ hS6 (fun _ _ _ h => h) ?_
        rotate_left
        · (intro w' hw'; go_simp; try with_reducible rfl)
        simp only [Act.put, List.setIfInBounds_toArray, List.set_cons_succ, List.set_cons_zero]
        refine hl_take (v := ?_) 9 rfl (by kernel_rfl) (by rfl) ?_ hS6 (fun _ _ _ h => h) ?_
        rotate_left
        · (intro w' hw'; go_simp; try with_reducible rfl)
        simp only [Act.put, List.setIfInBounds_toArray, List.set_cons_succ, List.set_cons_zero]
        refine hl_take (v := ?_) 11 rfl (by kernel_rfl) (by rfl) ?_ hS6 (fun _ _ _ h => h) ?_
        rotate_left
        · (intro w' hw'; go_simp; try with_reducible rfl)
        simp only [Act.put, List.setIfInBounds_toArray, List.set_cons_succ, List.set_cons_zero]
        refine hl_take (v := ?_) 12 rfl (by kernel_rfl) (by rfl) ?_ hS6 (fun _ _ _ h => h) ?_
        rotate_left
        · (intro w' hw'; go_simp; try with_reducible rfl)
        simp only [Act.put, List.setIfInBounds_toArray, List.set_cons_succ, List.set_cons_zero]
        refine hl_take 13 rfl (by kernel_rfl) (by rfl) (fun w' hw' => run_faddr 65 _ 0 rfl rfl _ Try.underlying65 0 _ rfl rfl 0 sitems) hS6 (fun _ _ _ h => h) ?_
        simp only [Act.put, List.setIfInBounds_toArray, List.set_cons_succ, List.set_cons_zero]
        refine hl_take 14 rfl (by kernel_rfl) (by rfl) (fun w' hw' => run_load1 22 _ rfl rfl (hyF w' hw') _ Try.underlying22 rfl) hS6 (fun _ _ _ h => h) ?_
        simp only [Act.put, List.setIfInBounds_toArray, List.set_cons_succ, List.set_cons_zero]
        refine hl_take (v := ?_) 15 rfl (by kernel_rfl) (by rfl) ?_ hS6 (fun _ _ _ h => h) ?_
        rotate_left
        · (intro w' hw'; go_simp; try with_reducible rfl)
        simp only [Act.put, List.setIfInBounds_toArray, List.set_cons_succ, List.set_cons_zero]
        refine hl_one 10 (by kernel_rfl) (hs_call rfl (by rfl) 30 [.tmp 102] _ rfl [.pointer (some ⟨gx, 0, none⟩)] rfl enter_ilen (hlenc) (fun e x7 he => ?_))
        obtain ⟨rfl, rfl⟩ := he
        refine ⟨_, rfl, hS6, ?_⟩
        simp only [Act.put, List.setIfInBounds_toArray, List.set_cons_succ, List.set_cons_zero]
        refine hl_take 16 rfl (by kernel_rfl) (by rfl) (fun w' hw' => op_neq_int 3 _ _ _ (LL.length : Int) rfl Try.underlying3 rfl rfl) hS6 (fun _ _ _ h => h) ?_
        simp only [Act.put, List.setIfInBounds_toArray, List.set_cons_succ, List.set_cons_zero]
        refine hl_take (v := ?_) 17 rfl (by kernel_rfl) (by rfl) ?_ hS6 (fun _ _ _ h => h) ?_
        rotate_left
        · (intro w' hw'; go_simp; try with_reducible rfl)
        simp only [Act.put, List.setIfInBounds_toArray, List.set_cons_succ, List.set_cons_zero]
        refine hl_take (v := ?_) 18 rfl (by kernel_rfl) (by rfl) ?_ hS6 (fun _ _ _ h => h) ?_
        rotate_left
        · (intro w' hw'; go_simp; try with_reducible rfl)
        simp only [Act.put, List.setIfInBounds_toArray, List.set_cons_succ, List.set_cons_zero]
        refine hl_take (v := ?_) 19 rfl (by kernel_rfl) (by rfl) ?_ hS6 (fun _ _ _ h => h) ?_
        rotate_left
        · (intro w' hw'; go_simp; try with_reducible rfl)
        simp only [Act.put, List.setIfInBounds_toArray, List.set_cons_succ, List.set_cons_zero]
        refine hl_take (v := ?_) 21 rfl (by kernel_rfl) (by rfl) ?_ hS6 (fun _ _ _ h => h) ?_
        rotate_left
        · (intro w' hw'; go_simp; try with_reducible rfl)
        simp only [Act.put, List.setIfInBounds_toArray, List.set_cons_succ, List.set_cons_zero]
        refine hl_take (v := ?_) 22 rfl (by kernel_rfl) (by rfl) ?_ hS6 (fun _ _ _ h => h) ?_
        rotate_left
        · (intro w' hw'; go_simp; try with_reducible rfl)
        simp only [Act.put, List.setIfInBounds_toArray, List.set_cons_succ, List.set_cons_zero]
        refine hl_take 23 rfl (by kernel_rfl) (by rfl) (fun w' hw' => run_faddr 65 _ 0 rfl rfl _ Try.underlying65 0 _ rfl rfl 0 sitems) hS6 (fun _ _ _ h => h) ?_
        simp only [Act.put, List.setIfInBounds_toArray, List.set_cons_succ, List.set_cons_zero]
        refine hl_take 24 rfl (by kernel_rfl) (by rfl) (fun w' hw' => run_load1 22 _ rfl rfl (hyF w' hw') _ Try.underlying22 rfl) hS6 (fun _ _ _ h => h) ?_
        simp only [Act.put, List.setIfInBounds_toArray, List.set_cons_succ, List.set_cons_zero]
        have hmml : mm.length ≤ 1000000000 := by omega
        refine hl_one 20 (by kernel_rfl) (hs_call rfl (by rfl) 29 [.tmp 112] _ rfl [.pointer (some ⟨gx, 0, none⟩)] rfl enter_iitems (HITEMS.out _ b mm _ (hB6.ix.fresh hS6) hmml) (fun e x8 he => ?_))
        obtain ⟨v8, L8, rfl, hO8, hT8, hb8⟩ := he
        have hS8 := fresh_trans hS6 hb8
        refine ⟨_, rfl, hS8, ?_⟩
        simp only [Act.put, List.setIfInBounds_toArray, List.set_cons_succ, List.set_cons_zero]
        have hLL : L8 = LL := htel.one hT8.perm hT8.rising
        subst hLL
        have hl8 := hO8.len_max
        simp only [maxLen] at hl8
        obtain ⟨A8, c8, rfl, hR8, _⟩ := hO8.shape
        have hsame := SameItems_ok A8 Ay c8 cy L8 L8 _ hR8 (hRy.fresh hS8) (by omega) (by omega)
        refine hl_one 25 (by kernel_rfl) (hs_call rfl (by rfl) 31 [.tmp 113, .tmp 117] _ rfl [.slice A8 L8.length c8, .slice Ay L8.length cy] rfl enter_samei (hsame) (fun e x9 he => ?_))
        obtain ⟨rfl, n9, rfl⟩ := he
        have hS9 := fresh_trans hS8 (fresh_drewN (fresh_refl x8) n9)
        refine ⟨_, rfl, hS9, ?_⟩
        simp only [Act.put, List.setIfInBounds_toArray, List.set_cons_succ, List.set_cons_zero]
        simp only [decide_true]
        refine hl_take (v := ?_) 26 rfl (by kernel_rfl) (by rfl) ?_ hS9 (fun _ _ _ h => h) ?_
        rotate_left
        · (intro w' hw'; go_simp; try with_reducible rfl)
        simp only [Act.put, List.setIfInBounds_toArray, List.set_cons_succ, List.set_cons_zero]
        refine hl_take (v := ?_) 27 rfl (by kernel_rfl) (by rfl) ?_ hS9 (fun _ _ _ h => h) ?_
        rotate_left
        · (intro w' hw'; go_simp; try with_reducible rfl)
        simp only [Act.put, List.setIfInBounds_toArray, List.set_cons_succ, List.set_cons_zero]
        refine hl_done (by kernel_rfl) ?_
        have hB9 := hB6.fresh hS9
        have hbx9 := fresh_trans hbx6 hS9
        clear hPF hQF hyF
        go_wp2
        go_roundw
        case rel => exact ⟨k + 1, mm, _, by omega, by go_num, hml2, hB9, hbx9⟩
        case measure => simp [RowKit.intOf]; omega
    · go_wp2
      go_ret
      exact ⟨rfl, hbr⟩
end Go.Pb
