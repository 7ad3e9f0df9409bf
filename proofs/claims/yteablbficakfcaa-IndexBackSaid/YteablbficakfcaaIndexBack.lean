/- IndexBack, the walk: what is wanted so often and let go so often again is as it was. -/
import Derived.Test.YteablbficakfcaaIndexLaw
import Derived.Test.YteablbficakfcaaIndexF
import Derived.Test.YteablbficakfcaaDeed
import Derived.Test.YteablbficakfcaaSame
import Derived.Test.YteablbficakfcaaPick
import Derived.Test.YteablbficakfcaaIndexBackW
set_option linter.unusedVariables false
set_option linter.unusedSimpArgs false
set_option linter.unusedSectionVars false
namespace Go.Pb
open Go.RowKit Go.Proofs Go.BigFrame

set_option maxRecDepth 100000 in
set_option maxHeartbeats 20000000 in
theorem indexBack_ok (HI : ItemsCon) (A : Option Addr) (c : Nat) (l : List Deed) (d : Deed) (n : Int) (w : World) (hA : Reads w A l) : 
    Calls Try.prog 10 #[.slice A l.length c, agg d, .int .i64 n] w fun e w' => e = .returned (.bool true) ∧ Below w.heap.size w w' := by
  have HITEMS := Lib.hid HI
  clear HI
  by_cases hlen : 100 < l.length
  · go_enter Try.func10, Try.ntmps10
    go_wp2_with (first
      | (refine st_val rfl (run_box 53 _ d rfl rfl) ?_)
      | (go_at_call 25; refine (awake22_ok _).mono ?_; rintro e w1 ⟨rfl, hb1⟩))
    go_ret
    exact ⟨rfl, (fresh_alloc (fresh_refl w) _).trans (hb1.mono (by simp))⟩
  go_enter Try.func10, Try.ntmps10
  go_wp2_with (first
    | (refine st_val rfl (run_box 53 _ d rfl rfl) ?_)
    | (go_at_call 25; refine (awake22_ok _).mono ?_; rintro e w1 ⟨rfl, hb1⟩)
    | (go_at_call 26; refine (new_ok w1).mono ?_; rintro e B ⟨x, b, rfl, hI, hbge, hb2, g, rfl, hg⟩))
  have hbw : Below w.heap.size w B := fresh_trans (fresh_trans (fresh_alloc (fresh_refl w) _) hb1) hb2
  have hdB : B.rangeAt w.heap.size 0 (Enc.enc d) := range_fresh (range_fresh (range_block (heap_alloc_new w _)) hb1) hb2
  have hwb : w.heap.size < b := by have := hb1.size; simp at this; omega
  clear hb1 hb2 hbge hg
  go_loopw [8] (fun i wr => ∃ (k : Nat) (m : List (Key × Place)), k ≤ l.length ∧ i = .int .i64 k ∧ m.length ≤ k ∧ IxFine m ∧ IxIs wr (.pointer (some ⟨g, 0, none⟩)) b m ∧ B.grownBy wr (some b)) (fun i _ => l.length - (RowKit.intOf i).toNat)
  case atStart => exact ⟨0, [], by omega, rfl, by simp, IxFine.nil, hI, World.grownBy.refl B _⟩
  case round =>
    obtain ⟨k, m, hk, rfl, hml, hfine, hI, hgr⟩ := hrel
    have hbr : Below w.heap.size w wr := fresh_grown hbw hgr (fun i hi => by injection hi with hi; omega)
    by_cases hlt : k < l.length
    · obtain ⟨b1, o1, rfl, hr1⟩ := hA.at_n hlt 38 rfl
      have hS0 : wr.grownBy wr.drew (some b) := grown_weak (fresh_drew (fresh_refl wr)) b
      have hI0 := hI.fresh (fresh_drew (fresh_refl wr))
      have hb1w : b1 < w.heap.size := range_lt hr1 (by intro h; have := congrArg List.length h; rw [Enc.len] at this; cases this)
      have hkF : ∀ w', wr.grownBy w' (some b) → w'.rangeAt b1 (o1 + k * 38 + 1) (Enc.enc (l[k]'hlt).key) := fun w' hw => (deed_parts (range_grown (range_fresh hr1 hbr) hw (by simp; omega))).2.1
      have hpF : ∀ w', wr.grownBy w' (some b) → w'.rangeAt b1 (o1 + k * 38 + 33) (Enc.enc (l[k]'hlt).place) := fun w' hw => (deed_parts (range_grown (range_fresh hr1 hbr) hw (by simp; omega))).2.2.1
      go_wp2
      refine held_lit (fun w' => wr.grownBy w' (some b)) 12 rfl (by kernel_rfl) ?_
      refine hl_take (v := ?_) 0 rfl (by kernel_rfl) (by rfl) ?_ hS0 (fun _ _ _ h => h) ?_
      rotate_left
      · (intro w' hw'; go_simp; try with_reducible rfl)
      simp only [Act.put, List.setIfInBounds_toArray, List.set_cons_succ, List.set_cons_zero]
      refine hl_take (v := ?_) 1 rfl (by kernel_rfl) (by rfl) ?_ hS0 (fun _ _ _ h => h) ?_
      rotate_left
      · (intro w' hw'; go_simp; try with_reducible rfl)
      simp only [Act.put, List.setIfInBounds_toArray, List.set_cons_succ, List.set_cons_zero]
      refine hl_take (v := ?_) 2 rfl (by kernel_rfl) (by rfl) ?_ hS0 (fun _ _ _ h => h) ?_
      rotate_left
      · (intro w' hw'; go_simp; try with_reducible rfl)
      simp only [Act.put, List.setIfInBounds_toArray, List.set_cons_succ, List.set_cons_zero]
      refine hl_take 3 rfl (by kernel_rfl) (by rfl) (fun w' hw' => run_elem 50 53 _ _ rfl Try.underlying50 38 sdeed rfl k rfl hlt) hS0 (fun _ _ _ h => h) ?_
      simp only [Act.put, List.setIfInBounds_toArray, List.set_cons_succ, List.set_cons_zero]
      refine hl_take 4 rfl (by kernel_rfl) (by rfl) (fun w' hw' => run_faddr 53 _ 1 rfl rfl _ Try.underlying53 1 _ rfl rfl 31 s35) hS0 (fun _ _ _ h => h) ?_
      simp only [Act.put, List.setIfInBounds_toArray, List.set_cons_succ, List.set_cons_zero]
      refine hl_take 5 rfl (by kernel_rfl) (by rfl) (fun w' hw' => load_key rfl rfl (l[k]'hlt).key (hkF w' hw')) hS0 (fun _ _ _ h => h) ?_
      simp only [Act.put, List.setIfInBounds_toArray, List.set_cons_succ, List.set_cons_zero]
      refine hl_take (v := ?_) 6 rfl (by kernel_rfl) (by rfl) ?_ hS0 (fun _ _ _ h => h) ?_
      rotate_left
      · (intro w' hw'; go_simp; try with_reducible rfl)
      simp only [Act.put, List.setIfInBounds_toArray, List.set_cons_succ, List.set_cons_zero]
      refine hl_take (v := ?_) 7 rfl (by kernel_rfl) (by rfl) ?_ hS0 (fun _ _ _ h => h) ?_
      rotate_left
      · (intro w' hw'; go_simp; try with_reducible rfl)
      simp only [Act.put, List.setIfInBounds_toArray, List.set_cons_succ, List.set_cons_zero]
      refine hl_take 8 rfl (by kernel_rfl) (by rfl) (fun w' hw' => run_elem 50 53 _ _ rfl Try.underlying50 38 sdeed rfl k rfl hlt) hS0 (fun _ _ _ h => h) ?_
      simp only [Act.put, List.setIfInBounds_toArray, List.set_cons_succ, List.set_cons_zero]
      refine hl_take 9 rfl (by kernel_rfl) (by rfl) (fun w' hw' => run_faddr 53 _ 2 rfl rfl _ Try.underlying53 33 _ rfl rfl 3 s38) hS0 (fun _ _ _ h => h) ?_
      simp only [Act.put, List.setIfInBounds_toArray, List.set_cons_succ, List.set_cons_zero]
      refine hl_take 10 rfl (by kernel_rfl) (by rfl) (fun w' hw' => load_place rfl rfl (l[k]'hlt).place (hpF w' hw')) hS0 (fun _ _ _ h => h) ?_
      simp only [Act.put, List.setIfInBounds_toArray, List.set_cons_succ, List.set_cons_zero]
      refine hl_one 11 (by kernel_rfl) (hs_call rfl (by rfl) 28 [.tmp 33, .tmp 38, .tmp 43] _ rfl [.pointer (some ⟨g, 0, none⟩), agg (l[k]'hlt).key, agg (l[k]'hlt).place] rfl enter_add (add_ok _ (l[k]'hlt).key (l[k]'hlt).place b _ _ hI0) (fun e u1 he => ?_))
      obtain ⟨rfl, hg1, hI1⟩ := he
      refine ⟨_, rfl, hS0.trans hg1, ?_⟩
      simp only [Act.put, List.setIfInBounds_toArray, List.set_cons_succ, List.set_cons_zero]
      refine hl_done (by kernel_rfl) ?_
      go_wp2
      go_roundw
      case rel => exact ⟨k + 1, _, by omega, by go_num, by have := add_length m (l[k]'hlt).key (l[k]'hlt).place; omega, hfine.add _ _, hI1, hgr.trans (hS0.trans hg1)⟩
      case measure => simp [RowKit.intOf]; omega
    · have hdr : wr.rangeAt w.heap.size 0 (Enc.enc d) := range_grown hdB hgr (by simp; omega)
      have hK : ∀ w', wr.grownBy w' (some b) → w'.rangeAt w.heap.size (0 + 1) (Enc.enc d.key) := fun w' hw => (deed_parts (range_grown hdr hw (by simp; omega))).2.1
      have hbwr : b < wr.heap.size := hI.2.lt
      have hmlen : m.length ≤ 1000000000 := by omega
      clear hA hdB hgr hbw
      go_wp2_with (fail)
      refine (HITEMS.out _ b m wr hI hmlen).mono ?_
      rintro e u1 ⟨v0, L0, rfl, hO0, hT0, hb1⟩
      have hI1 := hI.fresh hb1
      have hg1 : wr.grownBy u1 (some b) := grown_weak hb1 b
      obtain ⟨A0, c0, rfl, -, -⟩ := hO0.shape
      have hend : ∀ w', wr.grownBy w' (some b) → Below w.heap.size w w' := fun w' hg => fresh_grown hbr hg (fun i hi => by injection hi with hi; omega)
      cases hlk : look m d.key with
      | none =>
        have hget := get_ok _ d.key b m u1 hI1
        rw [hlk] at hget
        have hw1 := want_none hlk n
        have hm1 := move_none hlk n
        have HGET := Lib.hid hget
        clear hget
        have Hlk := Lib.hid hlk
        clear hlk
        have HW1 := Lib.hid hw1
        clear hw1
        have HM1 := Lib.hid hm1
        clear hm1
        go_wp2_with (first
                       | (refine st_val rfl (run_faddr 53 _ 1 rfl rfl _ Try.underlying53 1 _ rfl rfl 31 s35) ?_)
                       | (refine st_val rfl (load_key rfl rfl d.key ?_) ?_; (with_reducible exact (hK _ hg1))))
        refine HGET.out.mono ?_
        rintro e u2 ⟨rfl, hb2⟩
        have hI3 := hI1.fresh (fresh_alloc hb2 (.cells (Enc.enc Place.zero).toArray 38))
        have hg3 : wr.grownBy (u2.alloc (.cells (Enc.enc Place.zero).toArray 38)) (some b) := hg1.trans (grown_weak (fresh_alloc hb2 _) b)
        have hq3 := range_block (heap_alloc_new u2 (.cells (Enc.enc Place.zero).toArray 38))
        have hb3 : Below u2.heap.size u2 (u2.alloc (.cells (Enc.enc Place.zero).toArray 38)) := fresh_alloc (fresh_refl u2) _
        go_wp2_with (first
          | (refine st_val rfl (run_alloc 38 Place.zero zero38 rfl) ?_)
          | (refine st_skip rfl (run_store_new 38 _ _ rfl rfl rfl Place.zero Place.zero rfl 38 s38) ?_)
          | (first
               | (refine st_val rfl (run_faddr 53 _ 1 rfl rfl _ Try.underlying53 1 _ rfl rfl 31 s35) ?_)
               | (refine st_val rfl (load_key rfl rfl d.key ?_) ?_; (with_reducible exact (hK _ hg3)))))
        generalize u2.alloc (.cells (Enc.enc Place.zero).toArray 38) = u3 at hI3 hg3 hq3 hb3 ⊢
        have hO3 := hO0.fresh (fresh_trans hb2 hb3)
        have hw := want_ok _ d.key n b m u3 hI3
        rw [HW1.out] at hw
        refine hw.mono ?_
        rintro e u4 ⟨rfl, hg4, hI4⟩
        have hg4' := hg3.trans hg4
        go_wp2_with (first
                       | (refine st_val rfl (run_faddr 53 _ 1 rfl rfl _ Try.underlying53 1 _ rfl rfl 31 s35) ?_)
                       | (refine st_val rfl (load_key rfl rfl d.key ?_) ?_; (with_reducible exact (hK _ hg4'))))
        have hm := move_ok _ d.key n b m u4 hI4
        rw [HM1.out] at hm
        refine hm.mono ?_
        rintro e u5 ⟨rfl, hg5, hI5⟩
        go_wp2_with (fail)
        refine (HITEMS.out _ b m u5 hI5 hmlen).mono ?_
        rintro e u6 ⟨v1, L1, rfl, hO6, hT6, hb6⟩
        have hO0' := ((hO3.grown hg4 hbwr).grown hg5 hbwr).fresh hb6
        have hL : decide (L1 = L0) = true := by simpa using hT0.one hT6.perm hT6.rising
        go_wp2_with (fail)
        refine (samei_ok L1 L0 u6 hO6 hO0' true hL).mono ?_
        rintro e u7 ⟨rfl, hb7⟩
        go_wp2
        go_ret
        exact ⟨rfl, fresh_trans (hend _ ((hg4'.trans hg5).trans (grown_weak hb6 b))) hb7⟩
      | some q =>
        have hmay := hfine.2 _ _ hlk
        have hq := may_refs hmay
        have hget := get_ok _ d.key b m u1 hI1
        rw [hlk] at hget
        simp only [Option.getD_some, Option.isSome_some] at hget
        obtain ⟨r, hr0, hr1, hpick⟩ : ∃ r : Int, 0 ≤ r ∧ r < 1000 ∧ ∀ w : World, Calls Try.prog 27 #[.int .i64 n, .int .i64 1000] w fun e w' => e = .returned (.int .i64 r) ∧ w = w' :=
          ⟨pickOf n 1000, (pick_range n 1000 (by omega)).1, (pick_range n 1000 (by omega)).2, fun w => pick_ok n 1000 w (by omega) (by omega)⟩
        have HGET := Lib.hid hget
        clear hget
        have Hlk := Lib.hid hlk
        clear hlk
        have HPICK := Lib.hid hpick
        clear hpick
        have Hmay := Lib.hid hmay
        clear hmay
        go_wp2_with (first
                       | (refine st_val rfl (run_faddr 53 _ 1 rfl rfl _ Try.underlying53 1 _ rfl rfl 31 s35) ?_)
                       | (refine st_val rfl (load_key rfl rfl d.key ?_) ?_; (with_reducible exact (hK _ hg1))))
        refine HGET.out.mono ?_
        rintro e u2 ⟨rfl, hb2⟩
        have hI3 := hI1.fresh (fresh_alloc hb2 (.cells (Enc.enc q).toArray 38))
        have hg3 : wr.grownBy (u2.alloc (.cells (Enc.enc q).toArray 38)) (some b) := hg1.trans (grown_weak (fresh_alloc hb2 _) b)
        have hq3 := range_block (heap_alloc_new u2 (.cells (Enc.enc q).toArray 38))
        have hb3 : Below u2.heap.size u2 (u2.alloc (.cells (Enc.enc q).toArray 38)) := fresh_alloc (fresh_refl u2) _
        go_wp2_with (first
          | (refine st_val rfl (run_alloc 38 Place.zero zero38 rfl) ?_)
          | (refine st_skip rfl (run_store_new 38 _ _ rfl rfl rfl q Place.zero rfl 38 s38) ?_)
          | (go_at_call 27; refine (HPICK.out _).mono ?_; rintro e w' ⟨rfl, rfl⟩)
          | (first
               | (refine st_val rfl (run_faddr 53 _ 1 rfl rfl _ Try.underlying53 1 _ rfl rfl 31 s35) ?_)
               | (refine st_val rfl (load_key rfl rfl d.key ?_) ?_; (with_reducible exact (hK _ hg3)))))
        generalize u2.alloc (.cells (Enc.enc q).toArray 38) = u3 at hI3 hg3 hq3 hb3 ⊢
        have hO3 := hO0.fresh (fresh_trans hb2 hb3)
        have hgp : b < u2.heap.size := Nat.lt_of_lt_of_le hbwr (Nat.le_trans hb1.size hb2.size)
        have hQ : ∀ w', u3.grownBy w' (some b) → w'.rangeAt u2.heap.size 0 (Enc.enc q) := fun w' hw => range_grown hq3 hw (by simp; omega)
        have hw := want_ok _ d.key (1 + r) b m u3 hI3
        cases hbear : ixBears q (1 + r) with
        | false =>
          have hgt : 2147483647 - (1 + r) < q.refs := by
            have := (not_congr (bears_iff Hmay.out (1 + r))).1 (by rw [hbear]; decide)
            omega
          rw [want_bad Hlk.out hbear] at hw
          have HBEAR := Lib.hid hbear
          clear hbear
          refine hw.mono ?_
          rintro e u4 ⟨rfl, hg4, hI4⟩
          have c3 : u4.cell? ⟨u2.heap.size, 3, none⟩ = some (.int .i64 q.refs) := hQ _ hg4 3 _ rfl
          go_wp2_with (fail)
          refine (HITEMS.out _ b m u4 hI4 hmlen).mono ?_
          rintro e u5 ⟨v1, L1, rfl, hO5, hT5, hb5⟩
          have hO0' := (hO3.grown hg4 hbwr).fresh hb5
          have hL : decide (L1 = L0) = true := by simpa using hT0.one hT5.perm hT5.rising
          go_wp2_with (fail)
          refine (samei_ok L1 L0 u5 hO5 hO0' true hL).mono ?_
          rintro e u6 ⟨rfl, hb6⟩
          go_wp2
          go_ret
          exact ⟨rfl, fresh_trans (hend _ ((hg3.trans hg4).trans (grown_weak hb5 b))) hb6⟩
        | true =>
          have hfit := (bears_iff Hmay.out (1 + r)).1 hbear
          have hle : ¬ 2147483647 - (1 + r) < q.refs := by omega
          rw [want_put Hlk.out Hmay.out hbear (by omega)] at hw
          have HBEAR := Lib.hid hbear
          clear hbear
          refine hw.mono ?_
          rintro e u4 ⟨rfl, hg4, hI4⟩
          generalize hq1 : ({ q with refs := q.refs + (1 + r) } : Place) = q1 at hI4
          have hq1r : q1.refs = q.refs + (1 + r) := by rw [← hq1]
          have hlk1 : look (put m d.key q1) d.key = some q1 := look_put_same _ _ _
          have hm1len : (put m d.key q1).length = m.length := by rw [put_length, Hlk.out]; rfl
          have c3 : u4.cell? ⟨u2.heap.size, 3, none⟩ = some (.int .i64 q.refs) := hQ _ hg4 3 _ rfl
          have hg4' := hg3.trans hg4
          have hget1 := get_ok _ d.key b _ u4 hI4
          rw [hlk1] at hget1
          simp only [Option.getD_some, Option.isSome_some] at hget1
          have HGET1 := Lib.hid hget1
          clear hget1
          have Hlk1 := Lib.hid hlk1
          clear hlk1
          have Hq1r := Lib.hid hq1r
          clear hq1r
          have Hq1 := Lib.hid hq1
          clear hq1
          have Hm1 := Lib.hid hm1len
          clear hm1len
          go_wp2_with (first
                         | (refine st_val rfl (run_faddr 53 _ 1 rfl rfl _ Try.underlying53 1 _ rfl rfl 31 s35) ?_)
                         | (refine st_val rfl (load_key rfl rfl d.key ?_) ?_; (with_reducible exact (hK _ hg4'))))
          refine HGET1.out.mono ?_
          rintro e u5 ⟨rfl, hb5⟩
          have hI3 := hI4.fresh (fresh_alloc hb5 (.cells (Enc.enc q1).toArray 38))
          have hg3 : wr.grownBy (u5.alloc (.cells (Enc.enc q1).toArray 38)) (some b) := hg4'.trans (grown_weak (fresh_alloc hb5 _) b)
          have hq3 := range_block (heap_alloc_new u5 (.cells (Enc.enc q1).toArray 38))
          have hb3 : Below u5.heap.size u5 (u5.alloc (.cells (Enc.enc q1).toArray 38)) := fresh_alloc (fresh_refl u5) _
          have hO6 := (hO3.grown hg4 hbwr).fresh (fresh_trans hb5 hb3)
          have hq6 := hQ _ (hg4.trans (grown_weak (fresh_trans hb5 hb3) b))
          have c3a : (u5.alloc (.cells (Enc.enc q1).toArray 38)).cell? ⟨u5.heap.size, 3, none⟩ = some (.int .i64 (q.refs + (1 + r))) := by rw [← Hq1r.out]; exact hq3 3 _ rfl
          have c3b : (u5.alloc (.cells (Enc.enc q1).toArray 38)).cell? ⟨u2.heap.size, 3, none⟩ = some (.int .i64 q.refs) := hq6 3 _ rfl
          have hmay1 : ixMay q1 = true := by
            have h1 := Hmay.out
            rw [← Hq1.out]
            simp [ixMay, ixFrom] at h1 ⊢
            omega
          by_cases hpos : 0 < q.refs
          · have hw2 : ixWant (put m d.key q1) d.key (-(1 + r)) = (0, m) := by
              have hb2 : ixBears q1 (-(1 + r)) = true := (bears_iff hmay1 _).2 (by rw [Hq1r.out]; omega)
              rw [want_put Hlk1.out hmay1 hb2 (by rw [Hq1r.out]; omega)]
              have hqq : ({ q1 with refs := q1.refs + -(1 + r) } : Place) = q := by
                rw [Hq1r.out, ← Hq1.out]
                have : q.refs + (1 + r) + -(1 + r) = q.refs := by omega
                simp only [this]
              rw [hqq, put_put hfine.1 (by rw [Hlk.out]; rfl), put_same hfine.1 Hlk.out]
            have hwg : ixWant m d.key (-q.refs) = (0, del m d.key) := want_gone Hlk.out Hmay.out ((bears_iff Hmay.out _).2 (by omega)) (by omega)
            have HW2 := Lib.hid hw2
            clear hw2
            have HWG := Lib.hid hwg
            clear hwg
            have Hmay1 := Lib.hid hmay1
            clear hmay1
            go_wp2_with (first
              | (refine st_val rfl (run_alloc 38 Place.zero zero38 rfl) ?_)
              | (refine st_skip rfl (run_store_new 38 _ _ rfl rfl rfl q1 Place.zero rfl 38 s38) ?_)
              | (first
                   | (refine st_val rfl (run_faddr 53 _ 1 rfl rfl _ Try.underlying53 1 _ rfl rfl 31 s35) ?_)
                   | (refine st_val rfl (load_key rfl rfl d.key ?_) ?_; (with_reducible exact (hK _ hg3)))))
            generalize u5.alloc (.cells (Enc.enc q1).toArray 38) = u6 at hI3 hg3 hq3 hb3 hO6 hq6 c3a c3b ⊢
            have hw := want_ok _ d.key (-(1 + r)) b _ u6 hI3
            rw [HW2.out] at hw
            refine hw.mono ?_
            rintro e u7 ⟨rfl, hg7, hI7⟩
            go_wp2_with (fail)
            refine (HITEMS.out _ b m u7 hI7 hmlen).mono ?_
            rintro e u8 ⟨v1, L1, rfl, hO8, hT8, hb8⟩
            have hO0' := (hO6.grown hg7 hbwr).fresh hb8
            have hL : decide (L1 = L0) = true := by simpa using hT0.one hT8.perm hT8.rising
            go_wp2_with (fail)
            refine (samei_ok L1 L0 u8 hO8 hO0' true hL).mono ?_
            rintro e u9 ⟨rfl, hb9⟩
            have hI9 := hI7.fresh (fresh_trans hb8 hb9)
            have hg9 : wr.grownBy u9 (some b) := (hg3.trans hg7).trans (grown_weak (fresh_trans hb8 hb9) b)
            have hO9 := hO0'.fresh hb9
            have hq9 : u9.rangeAt u2.heap.size 0 (Enc.enc q) := range_grown hq6 (hg7.trans (grown_weak (fresh_trans hb8 hb9) b)) (by simp; omega)
            have hgetA := get_ok _ d.key b _ u9 hI9
            rw [Hlk.out] at hgetA
            simp only [Option.getD_some, Option.isSome_some] at hgetA
            have HGETA := Lib.hid hgetA
            clear hgetA
            go_wp2_with (first
                           | (refine st_val rfl (run_faddr 53 _ 1 rfl rfl _ Try.underlying53 1 _ rfl rfl 31 s35) ?_)
                           | (refine st_val rfl (load_key rfl rfl d.key ?_) ?_; (with_reducible exact (hK _ hg9))))
            refine HGETA.out.mono ?_
            rintro e uA ⟨rfl, hbA⟩
            have hI3 := hI9.fresh (fresh_alloc hbA (.cells (Enc.enc q).toArray 38))
            have hg3 : wr.grownBy (uA.alloc (.cells (Enc.enc q).toArray 38)) (some b) := hg9.trans (grown_weak (fresh_alloc hbA _) b)
            have hq3 := range_block (heap_alloc_new uA (.cells (Enc.enc q).toArray 38))
            have hb3 : Below uA.heap.size uA (uA.alloc (.cells (Enc.enc q).toArray 38)) := fresh_alloc (fresh_refl uA) _
            have cA : (uA.alloc (.cells (Enc.enc q).toArray 38)).cell? ⟨uA.heap.size, 3, none⟩ = some (.int .i64 q.refs) := hq3 3 _ rfl
            have hOB := hO9.fresh (fresh_trans hbA hb3)
            have hqB := range_fresh hq9 (fresh_trans hbA hb3)
            go_wp2_with (first
              | (refine st_val rfl (run_alloc 38 Place.zero zero38 rfl) ?_)
              | (refine st_skip rfl (run_store_new 38 _ _ rfl rfl rfl q Place.zero rfl 38 s38) ?_)
              | (first
                   | (refine st_val rfl (run_faddr 53 _ 1 rfl rfl _ Try.underlying53 1 _ rfl rfl 31 s35) ?_)
                   | (refine st_val rfl (load_key rfl rfl d.key ?_) ?_; (with_reducible exact (hK _ hg3)))))
            clear cA hq3 hb3
            generalize uA.alloc (.cells (Enc.enc q).toArray 38) = uB at hI3 hg3 hOB hqB ⊢
            have hw := want_ok _ d.key (-q.refs) b _ uB hI3
            rw [HWG.out] at hw
            refine hw.mono ?_
            rintro e uC ⟨rfl, hgC, hIC⟩
            have hgC' := hg3.trans hgC
            have hgetC := get_ok _ d.key b _ uC hIC
            rw [look_del_same] at hgetC
            simp only [Option.getD_none, Option.isSome_none] at hgetC
            have HGETC := Lib.hid hgetC
            clear hgetC
            go_wp2_with (first
                           | (refine st_val rfl (run_faddr 53 _ 1 rfl rfl _ Try.underlying53 1 _ rfl rfl 31 s35) ?_)
                           | (refine st_val rfl (load_key rfl rfl d.key ?_) ?_; (with_reducible exact (hK _ hgC'))))
            refine HGETC.out.mono ?_
            rintro e uD ⟨rfl, hbD⟩
            have hI3 := hIC.fresh (fresh_alloc hbD (.cells (Enc.enc Place.zero).toArray 38))
            have hg3 : wr.grownBy (uD.alloc (.cells (Enc.enc Place.zero).toArray 38)) (some b) := hgC'.trans (grown_weak (fresh_alloc hbD _) b)
            have hq3 := range_block (heap_alloc_new uD (.cells (Enc.enc Place.zero).toArray 38))
            have hb3 : Below uD.heap.size uD (uD.alloc (.cells (Enc.enc Place.zero).toArray 38)) := fresh_alloc (fresh_refl uD) _
            have hOE := (hOB.grown hgC hbwr).fresh (fresh_trans hbD hb3)
            have hqE := range_grown hqB (hgC.trans (grown_weak (fresh_trans hbD hb3) b)) (by simp; omega)
            have hlenok := len_ok _ b _ _ hI3
            have hdl : (del m d.key).length + 1 = m.length := del_length hfine.1 Hlk.out
            have hLl : L0.length = m.length := hT0.len
            have hdec : ((del m d.key).length : Int) = (L0.length : Int) - 1 := by omega
            rw [hdec] at hlenok
            have hLup : L0.length ≤ 1000000000 := by omega
            clear hdl hLl hdec
            have HLEN := Lib.hid hlenok
            clear hlenok
            go_wp2_with (first
              | (refine st_val rfl (run_alloc 38 Place.zero zero38 rfl) ?_)
              | (refine st_skip rfl (run_store_new 38 _ _ rfl rfl rfl Place.zero Place.zero rfl 38 s38) ?_)
              | (go_at_call 30; refine HLEN.out.mono ?_; rintro e w' ⟨rfl, rfl⟩)
              | (refine st_val rfl (load_place rfl rfl q ?_) ?_; (with_reducible exact hqE))
              | (first
                   | (refine st_val rfl (run_faddr 53 _ 1 rfl rfl _ Try.underlying53 1 _ rfl rfl 31 s35) ?_)
                   | (refine st_val rfl (load_key rfl rfl d.key ?_) ?_; (with_reducible exact (hK _ hg3)))))
            clear hq3 hb3
            generalize uD.alloc (.cells (Enc.enc Place.zero).toArray 38) = uE at hI3 hg3 hOE hqE ⊢
            have hadd := add_ok _ d.key q b _ uE hI3
            rw [add_fine (look_del_same _ _) Hmay.out] at hadd
            refine hadd.mono ?_
            rintro e uF ⟨rfl, hgF, hIF⟩
            go_wp2_with (fail)
            have hpm := put_del_perm hfine.1 Hlk.out
            refine (HITEMS.out _ b _ uF hIF (by rw [hpm.length_eq]; exact hmlen)).mono ?_
            rintro e uG ⟨v2, L2, rfl, hOG, hTG, hbG⟩
            have hTm := TellsK.of_perm hTG hpm
            have hL2 : decide (L2 = L0) = true := by simpa using hT0.one hTm.perm hTm.rising
            clear hpm
            go_wp2_with (fail)
            refine (samei_ok L2 L0 uG hOG ((hOE.grown hgF hbwr).fresh hbG) true hL2).mono ?_
            rintro e uH ⟨rfl, hbH⟩
            go_wp2
            go_ret
            exact ⟨rfl, fresh_trans (hend _ ((hg3.trans hgF).trans (grown_weak hbG b))) hbH⟩
          · have hz : q.refs = 0 := by omega
            have hwg : ixWant (put m d.key q1) d.key (-q1.refs) = (0, del m d.key) := by
              rw [want_gone Hlk1.out hmay1 ((bears_iff hmay1 _).2 (by rw [Hq1r.out]; omega)) (by omega), del_put (by rw [Hlk.out]; rfl)]
            have hq1b : 0 ≤ q1.refs ∧ q1.refs ≤ 2147483647 := may_refs hmay1
            rw [hz] at c3a c3b
            have hpos' : ¬ (0 : Int) < 0 := by omega
            clear hpos hfit hle hq
            have hrr : 0 + (1 + r) = 1 + r := by omega
            rw [hrr] at c3a
            have HZ := Lib.hid hz
            clear hz
            have HWG := Lib.hid hwg
            clear hwg
            have Hmay1 := Lib.hid hmay1
            clear hmay1
            have HRR := Lib.hid hrr
            clear hrr
            go_wp2_with (first
              | (refine st_val rfl (run_alloc 38 Place.zero zero38 rfl) ?_)
              | (refine st_skip rfl (run_store_new 38 _ _ rfl rfl rfl q1 Place.zero rfl 38 s38) ?_)
              | (first
                   | (refine st_val rfl (run_faddr 53 _ 1 rfl rfl _ Try.underlying53 1 _ rfl rfl 31 s35) ?_)
                   | (refine st_val rfl (load_key rfl rfl d.key ?_) ?_; (with_reducible exact (hK _ hg3)))))
            generalize u5.alloc (.cells (Enc.enc q1).toArray 38) = u6 at hI3 hg3 hq3 hb3 hO6 hq6 c3a c3b ⊢
            have hgetA := get_ok _ d.key b _ u6 hI3
            rw [Hlk1.out] at hgetA
            simp only [Option.getD_some, Option.isSome_some] at hgetA
            have HGETA := Lib.hid hgetA
            clear hgetA
            go_wp2_with (first
                           | (refine st_val rfl (run_faddr 53 _ 1 rfl rfl _ Try.underlying53 1 _ rfl rfl 31 s35) ?_)
                           | (refine st_val rfl (load_key rfl rfl d.key ?_) ?_; (with_reducible exact (hK _ hg3))))
            refine HGETA.out.mono ?_
            rintro e uA ⟨rfl, hbA⟩
            have hI3 := hI3.fresh (fresh_alloc hbA (.cells (Enc.enc q1).toArray 38))
            have hg3 : wr.grownBy (uA.alloc (.cells (Enc.enc q1).toArray 38)) (some b) := hg3.trans (grown_weak (fresh_alloc hbA _) b)
            have hq3 := range_block (heap_alloc_new uA (.cells (Enc.enc q1).toArray 38))
            have hb3 : Below uA.heap.size uA (uA.alloc (.cells (Enc.enc q1).toArray 38)) := fresh_alloc (fresh_refl uA) _
            have cA : (uA.alloc (.cells (Enc.enc q1).toArray 38)).cell? ⟨uA.heap.size, 3, none⟩ = some (.int .i64 q1.refs) := hq3 3 _ rfl
            have hOB := hO6.fresh (fresh_trans hbA hb3)
            have hqB := range_fresh hq6 (fresh_trans hbA hb3)
            go_wp2_with (first
              | (refine st_val rfl (run_alloc 38 Place.zero zero38 rfl) ?_)
              | (refine st_skip rfl (run_store_new 38 _ _ rfl rfl rfl q1 Place.zero rfl 38 s38) ?_)
              | (first
                   | (refine st_val rfl (run_faddr 53 _ 1 rfl rfl _ Try.underlying53 1 _ rfl rfl 31 s35) ?_)
                   | (refine st_val rfl (load_key rfl rfl d.key ?_) ?_; (with_reducible exact (hK _ hg3)))))
            clear cA hq3 hb3
            generalize uA.alloc (.cells (Enc.enc q1).toArray 38) = uB at hI3 hg3 hOB hqB ⊢
            have hw := want_ok _ d.key (-q1.refs) b _ uB hI3
            rw [HWG.out] at hw
            refine hw.mono ?_
            rintro e uC ⟨rfl, hgC, hIC⟩
            have hgC' := hg3.trans hgC
            have hgetC := get_ok _ d.key b _ uC hIC
            rw [look_del_same] at hgetC
            simp only [Option.getD_none, Option.isSome_none] at hgetC
            have HGETC := Lib.hid hgetC
            clear hgetC
            go_wp2_with (first
                           | (refine st_val rfl (run_faddr 53 _ 1 rfl rfl _ Try.underlying53 1 _ rfl rfl 31 s35) ?_)
                           | (refine st_val rfl (load_key rfl rfl d.key ?_) ?_; (with_reducible exact (hK _ hgC'))))
            refine HGETC.out.mono ?_
            rintro e uD ⟨rfl, hbD⟩
            have hI3 := hIC.fresh (fresh_alloc hbD (.cells (Enc.enc Place.zero).toArray 38))
            have hg3 : wr.grownBy (uD.alloc (.cells (Enc.enc Place.zero).toArray 38)) (some b) := hgC'.trans (grown_weak (fresh_alloc hbD _) b)
            have hq3 := range_block (heap_alloc_new uD (.cells (Enc.enc Place.zero).toArray 38))
            have hb3 : Below uD.heap.size uD (uD.alloc (.cells (Enc.enc Place.zero).toArray 38)) := fresh_alloc (fresh_refl uD) _
            have hOE := (hOB.grown hgC hbwr).fresh (fresh_trans hbD hb3)
            have hqE := range_grown hqB (hgC.trans (grown_weak (fresh_trans hbD hb3) b)) (by simp; omega)
            have hlenok := len_ok _ b _ _ hI3
            have hdl : (del m d.key).length + 1 = m.length := del_length hfine.1 Hlk.out
            have hLl : L0.length = m.length := hT0.len
            have hdec : ((del m d.key).length : Int) = (L0.length : Int) - 1 := by omega
            rw [hdec] at hlenok
            have hLup : L0.length ≤ 1000000000 := by omega
            clear hdl hLl hdec
            have HLEN := Lib.hid hlenok
            clear hlenok
            go_wp2_with (first
              | (refine st_val rfl (run_alloc 38 Place.zero zero38 rfl) ?_)
              | (refine st_skip rfl (run_store_new 38 _ _ rfl rfl rfl Place.zero Place.zero rfl 38 s38) ?_)
              | (go_at_call 30; refine HLEN.out.mono ?_; rintro e w' ⟨rfl, rfl⟩)
              | (refine st_val rfl (load_place rfl rfl q ?_) ?_; (with_reducible exact hqE))
              | (first
                   | (refine st_val rfl (run_faddr 53 _ 1 rfl rfl _ Try.underlying53 1 _ rfl rfl 31 s35) ?_)
                   | (refine st_val rfl (load_key rfl rfl d.key ?_) ?_; (with_reducible exact (hK _ hg3)))))
            clear hq3 hb3
            generalize uD.alloc (.cells (Enc.enc Place.zero).toArray 38) = uE at hI3 hg3 hOE hqE ⊢
            have hadd := add_ok _ d.key q b _ uE hI3
            rw [add_fine (look_del_same _ _) Hmay.out] at hadd
            refine hadd.mono ?_
            rintro e uF ⟨rfl, hgF, hIF⟩
            go_wp2_with (fail)
            have hpm := put_del_perm hfine.1 Hlk.out
            refine (HITEMS.out _ b _ uF hIF (by rw [hpm.length_eq]; exact hmlen)).mono ?_
            rintro e uG ⟨v2, L2, rfl, hOG, hTG, hbG⟩
            have hTm := TellsK.of_perm hTG hpm
            have hL2 : decide (L2 = L0) = true := by simpa using hT0.one hTm.perm hTm.rising
            clear hpm
            go_wp2_with (fail)
            refine (samei_ok L2 L0 uG hOG ((hOE.grown hgF hbwr).fresh hbG) true hL2).mono ?_
            rintro e uH ⟨rfl, hbH⟩
            go_wp2
            go_ret
            exact ⟨rfl, fresh_trans (hend _ ((hg3.trans hgF).trans (grown_weak hbG b))) hbH⟩
end Go.Pb
