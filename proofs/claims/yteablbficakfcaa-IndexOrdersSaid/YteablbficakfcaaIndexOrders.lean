/- IndexOrders, the walk: what is added in any order is told alike, rising. -/
import Derived.Test.YteablbficakfcaaIndexBackW
import Derived.Test.YteablbficakfcaaOrdLaw
import Derived.Test.YteablbficakfcaaRef22
import Derived.Test.YteablbficakfcaaArith
set_option linter.unusedVariables false
set_option linter.unusedSimpArgs false
set_option linter.unusedSectionVars false
namespace Go.Pb
open Go.RowKit Go.Proofs Go.BigFrame

abbrev setV : Unit → Value := fun _ => .bool true
def Deed.zero : Deed := ⟨0, Key.zero, Place.zero, 0⟩
theorem info53 : (Try.prog.info? 53).map (fun i => (i.zero, i.size, i.bytes)) = some (some (agg Deed.zero), 38, 80) := by kernel_rfl
theorem zero53 : (Try.prog.info? 53).map (·.zero) = some (some (agg Deed.zero)) := by kernel_rfl
theorem load_deed {o : Oper} {ρ : Operand → Value} {w : World} {x : Operand} {b f : Nat} (ho : o.op = .load 53 x) (hx : ρ x = .pointer (some ⟨b, f, none⟩)) (z : Deed) (hc : w.rangeAt b f (Enc.enc z)) : (execOp ρ o).run Try.prog w = .ok (.value (agg z)) w :=
  run_load 53 x ho hx z hc _ Try.underlying53 rfl sdeed
theorem zbv (w : World) : (zeroValue 4).run Try.prog w = .ok (.bool false) w := by
  obtain ⟨i, hi, hz⟩ := Option.map_eq_some_iff.1 zbool
  simp [zeroValue, typeInfo, hi, hz]
theorem look_set {K : Type} [DecidableEq K] (m : List (K × Unit)) (k : K) : (look m k).elim (.bool false) setV = .bool (look m k).isSome := by cases look m k <;> rfl

theorem ptr_inj {a b : Nat} (h : Value.pointer (some ⟨a, 0, none⟩) = .pointer (some ⟨b, 0, none⟩)) : a = b := by simpa using h
set_option maxRecDepth 100000 in
set_option maxHeartbeats 20000000 in
theorem indexOrders_ok (HI : ItemsCon) (A : Option Addr) (c : Nat) (l : List Deed) (n : Int) (w : World) (hA : Reads w A l) : 
    Calls Try.prog 8 #[.slice A l.length c, .int .i64 n] w fun e w' => e = .returned (.bool true) ∧ Below w.heap.size w w' := by
  have HITEMS := Lib.hid HI
  clear HI
  by_cases hlen : 100 < l.length
  · go_enter Try.func8, Try.ntmps8
    go_wp2_with (go_at_call 25; refine (awake22_ok _).mono ?_; rintro e w1 ⟨rfl, hb1⟩)
    go_ret
    exact ⟨rfl, hb1⟩
  go_enter Try.func8, Try.ntmps8
  go_wp2_with (first
    | (go_at_call 25; refine (awake22_ok _).mono ?_; rintro e w1 ⟨rfl, hb1⟩)
    | (refine st_val rfl (op_makeMap 51 rfl) ?_))
  have hM0 := MapIs.made w1 keyV setV
  have hbw : Below w.heap.size w (w1.alloc (.map #[] 0)) := fresh_trans hb1 (fresh_alloc (fresh_refl w1) _)
  have hwb : w.heap.size ≤ w1.heap.size := hb1.size
  have hs1 : w1.heap.size + 1 ≤ (w1.alloc (.map #[] 0)).heap.size := by simp
  generalize w1.alloc (.map #[] 0) = w2 at hM0 hbw hs1 ⊢
  generalize w1.heap.size = bm at hM0 hwb hs1 ⊢
  clear hb1
  go_loopw [5, 7] (fun v i wr => ∃ (k : Nat) (own : List Deed) (s : List (Key × Unit)), k ≤ l.length ∧ i = .int .i64 k ∧ own.length ≤ k ∧ KeysApart own ∧ (∀ x, (look s x).isSome = true ↔ x ∈ own.map (·.key)) ∧ MapIs wr bm keyV setV s ∧ Owns wr (bm + 1) 53 v own ∧ Below w.heap.size w wr ∧ bm + 1 ≤ wr.heap.size) (fun _ i _ => l.length - (RowKit.intOf i).toNat)
  case atStart => exact ⟨0, [], [], by omega, rfl, by simp, by simp [KeysApart], by simp [look_nil], hM0, Owns.nil _ _ _, hbw, hs1⟩
  case round =>
    obtain ⟨k, own, s, hk, rfl, hol, hap, hiff, hM, hO, hbr, hsr⟩ := hrel
    by_cases hlt : k < l.length
    · obtain ⟨b1, o1, rfl, hr1⟩ := hA.at_n hlt 38 rfl
      have hb1w : b1 < w.heap.size := range_lt hr1 (by intro h; have := congrArg List.length h; rw [Enc.len] at this; cases this)
      have hdr := range_fresh hr1 hbr
      have hkr := (deed_parts hdr).2.1
      cases hlk : look s (l[k]'hlt).key with
      | some u =>
        have hin : (look s (l[k]'hlt).key).isSome = true := by rw [hlk]; rfl
        have HIN := Lib.hid hin
        clear hin
        have HLK := Lib.hid hlk
        clear hlk
        have HIFF := Lib.hid hiff
        clear hiff
        go_wp2_with (first
          | (refine st_val rfl (run_elem 50 53 _ _ rfl Try.underlying50 38 sdeed rfl k rfl hlt) ?_)
          | (refine st_val rfl (run_faddr 53 _ 1 rfl rfl _ Try.underlying53 1 _ rfl rfl 31 s35) ?_)
          | (refine st_val rfl (load_key rfl rfl (l[k]'hlt).key ?_) ?_; (with_reducible exact hkr))
          | (refine st_val rfl (op_look1 keyCode 51 _ _ rfl Try.underlying51 (.bool false) zbv rfl (l[k]'hlt).key rfl hM) ?_; simp only [look_set, HIN.out]))
        go_roundw
        case rel => exact ⟨k + 1, own, s, by omega, by go_num, by omega, hap, HIFF.out, hM, hO, hbr, hsr⟩
        case measure => simp [RowKit.intOf]; omega
      | none =>
        have hin : (look s (l[k]'hlt).key).isSome = false := by rw [hlk]; rfl
        have hnk : (l[k]'hlt).key ∉ own.map (·.key) := fun hm => by rw [(hiff _).2 hm] at hin; cases hin
        have hown : ∀ i, u5.ownBlock = some i → bm + 1 ≤ i := fun i hi => (hO.block i hi).1
        have hbig : (own.length + 1) * 80 ≤ 140737488355328 := by omega
        have HIN := Lib.hid hin
        clear hin
        have HLK := Lib.hid hlk
        clear hlk
        have HIFF := Lib.hid hiff
        clear hiff
        have HNK := Lib.hid hnk
        clear hnk
        go_wp2_with (first
          | (refine st_val rfl (run_elem 50 53 _ _ rfl Try.underlying50 38 sdeed rfl k rfl hlt) ?_)
          | (refine st_val rfl (run_faddr 53 _ 1 rfl rfl _ Try.underlying53 1 _ rfl rfl 31 s35) ?_)
          | (refine st_val rfl (load_key rfl rfl (l[k]'hlt).key ?_) ?_; (with_reducible exact hkr))
          | (refine st_val rfl (load_deed rfl rfl (l[k]'hlt) hdr) ?_)
          | (refine st_val rfl (op_look1 keyCode 51 _ _ rfl Try.underlying51 (.bool false) zbv rfl (l[k]'hlt).key rfl hM) ?_; simp only [look_set, HIN.out])
          | (refine st_val rfl (run_row1 50 53 _ rfl Try.underlying50 Deed.zero (l[k]'hlt) 80 info53 rfl (by decide)) ?_)
          | (at_builtin; refine st_push (bm + 1) rfl _ _ 50 53 rfl Try.underlying50 Deed.zero 80 info53 (by decide) u5 own (l[k]'hlt) rfl rfl hO hbig hsr (fun v' w' hO' hg' hv' => ?_);
             have hM' := hM.grown hg' (fun e => by have := hown _ e.symm; omega);
             have hkr' := range_grown hkr hg' (fun e => by have := hown _ e.symm; omega);
             obtain ⟨W4, hrun, hM4, hg4, hs4⟩ := run_put keyCode 51 Try.underlying51 hM' (l[k]'hlt).key ();
             have HRUN := Lib.hid hrun; clear hrun)
          | (refine st_val rfl (load_key rfl rfl (l[k]'hlt).key ?_) ?_; (with_reducible exact hkr'))
          | (refine st_skip rfl (op_put' 51 _ _ _ rfl rfl rfl rfl HRUN.out) ?_))
        go_roundw
        case rel =>
          refine ⟨k + 1, own ++ [l[k]'hlt], put s (l[k]'hlt).key (), by omega, by go_num, by simp; omega, ?_, fun x => ?_, hM4, hO'.grown hg4 (by omega), ?_, ?_⟩
          · unfold KeysApart
            rw [List.map_append, List.nodup_append]
            refine ⟨hap, by simp, ?_⟩
            intro a ha b' hb'
            simp at hb'
            subst hb'
            intro e
            subst e
            exact HNK.out ha
          · rw [look_put]
            by_cases hx : x = (l[k]'hlt).key
            · simp [hx]
            · rw [if_neg hx, HIFF.out]
              simp [hx]
          · exact fresh_grown (fresh_grown hbr hg' (fun i hi => by have := hown i hi; omega)) hg4 (fun i hi => by injection hi with hi; omega)
          · have := hg'.size; have := hg4.size; omega
        case measure => simp [RowKit.intOf]; omega
    · obtain ⟨Ao, co, rfl, hRo, -⟩ := hO.shape
      have hol2 : own.length ≤ 100 := by omega
      clear hM hiff hA hM0
      go_wp2_with (fail)
      refine (new_ok wr).mono ?_
      rintro e u1 ⟨xa, ba, rfl, hIa, hbage, hb1, ga, rfl, hga⟩
      go_wp2_with (fail)
      refine (new_ok u1).mono ?_
      rintro e u2 ⟨xb, bb, rfl, hIb, hbbge, hb2, gb, rfl, hgb⟩
      obtain ⟨r, hr, hpick⟩ : ∃ r : Nat, r ≤ own.length ∧ ∀ w : World, Calls Try.prog 27 #[.int .i64 n, .int .i64 ((own.length : Int) + 1)] w fun e w' => e = .returned (.int .i64 (r : Int)) ∧ w = w' := by
        have h1 := pick_range n ((own.length : Int) + 1) (by omega)
        refine ⟨(pickOf n ((own.length : Int) + 1)).toNat, by omega, fun w => ?_⟩
        have h2 := pick_ok n ((own.length : Int) + 1) w (by omega) (by omega)
        rwa [show ((pickOf n ((own.length : Int) + 1)).toNat : Int) = pickOf n ((own.length : Int) + 1) by omega]
      have HPICK := Lib.hid hpick
      clear hpick
      have hIa2 := hIa.fresh hb2
      have hba : ba < u1.heap.size := hIa.2.lt
      have hga2 : ga < u1.heap.size := by
        obtain ⟨⟨g', h1, _, hc⟩, _⟩ := hIa
        injection h1 with h1
        injection h1 with h1
        injection h1 with h1
        subst h1
        exact World.block_lt_of_cell? u1 _ hc
      have hwa : w.heap.size ≤ wr.heap.size := hbr.size
      have hbu2 : Below w.heap.size w u2 := fresh_trans (fresh_trans hbr hb1) hb2
      have hAo : ∀ k (h : k < own.length), ∃ b1 o1, Ao = some ⟨b1, o1, none⟩ ∧ b1 < ba ∧ b1 < bb ∧ b1 < u1.heap.size ∧ u2.rangeAt b1 (o1 + k * 38) (Enc.enc own[k]) := fun k h => by
        obtain ⟨b1, o1, rfl, hr1⟩ := hRo.at_n h 38 rfl
        have hb1w : b1 < wr.heap.size := range_lt hr1 (by intro h; have := congrArg List.length h; rw [Enc.len] at this; cases this)
        have := hb1.size
        exact ⟨b1, o1, rfl, by omega, by omega, by omega, range_fresh (range_fresh hr1 hb1) hb2⟩
      have hwba : w.heap.size ≤ ba := by omega
      have hwbb : w.heap.size ≤ bb := by have := hb1.size; omega
      have hbab : ba ≠ bb := by omega
      have hgab : ga ≠ bb := by omega
      have hgbba : gb ≠ ba := by omega
      clear hIa hb1 hb2 hRo hO hbage hbbge hga hgb
      go_wp2_with (go_at_call 27; refine (HPICK.out _).mono ?_; rintro e w' ⟨rfl, rfl⟩)
      go_loopw [11] (fun i ur => ∃ (k : Nat), k ≤ own.length ∧ i = .int .i64 k ∧ IxIs ur (.pointer (some ⟨ga, 0, none⟩)) ba (addAll (own.take k)) ∧ u2.grownBy ur (some ba)) (fun i _ => own.length - (RowKit.intOf i).toNat)
      case atStart => exact ⟨0, by omega, rfl, hIa2, World.grownBy.refl u2 _⟩
      case round =>
        obtain ⟨k, hk, rfl, hI, hgr⟩ := hrel
        by_cases hlt : k < own.length
        · obtain ⟨b1, o1, rfl, hlo1, hlo2, hlo3, hr1⟩ := hAo k hlt
          have hr2 : wr.rangeAt b1 (o1 + k * 38) (Enc.enc (own[k]'hlt)) := range_grown hr1 hgr (by simp; omega)
          have hS0 : wr.grownBy wr.drew (some ba) := grown_weak (fresh_drew (fresh_refl wr)) ba
          have hI0 := hI.fresh (fresh_drew (fresh_refl wr))
          have hkF : ∀ w', wr.grownBy w' (some ba) → w'.rangeAt b1 (o1 + k * 38 + 1) (Enc.enc (own[k]'hlt).key) := fun w' hw => (deed_parts (range_grown hr2 hw (by simp; omega))).2.1
          have hpF : ∀ w', wr.grownBy w' (some ba) → w'.rangeAt b1 (o1 + k * 38 + 33) (Enc.enc (own[k]'hlt).place) := fun w' hw => (deed_parts (range_grown hr2 hw (by simp; omega))).2.2.1
          go_wp2
          refine held_lit (fun w' => wr.grownBy w' (some ba)) 12 rfl (by kernel_rfl) ?_
          refine hl_take (v := ?_) 0 rfl (by kernel_rfl) (by rfl) ?_ hS0 (fun _ _ _ h => h) ?_
          rotate_left
          · (intro w' hw'; go_simp; try with_reducible rfl)
          simp only [Act.put, List.setIfInBounds_toArray, List.set_cons_succ, List.set_cons_zero]
          refine hl_take (v := ?_) 1 rfl (by kernel_rfl) (by rfl) ?_ hS0 (fun _ _ _ h => h) ?_
          rotate_left
          · (intro w' hw'; go_simp; try with_reducible rfl)
          simp only [Act.put, List.setIfInBounds_toArray, List.set_cons_succ, List.set_cons_zero]
          refine hl_take (v := ?_) 2 rfl (by kernel_rfl) (by rfl) ?_ hS0 (fun _ _ _ h => h) ?_
          rotate_left
          · (intro w' hw'; go_simp; try with_reducible rfl)
          simp only [Act.put, List.setIfInBounds_toArray, List.set_cons_succ, List.set_cons_zero]
          refine hl_take 3 rfl (by kernel_rfl) (by rfl) (fun w' hw' => run_elem 50 53 _ _ rfl Try.underlying50 38 sdeed rfl k rfl hlt) hS0 (fun _ _ _ h => h) ?_
          simp only [Act.put, List.setIfInBounds_toArray, List.set_cons_succ, List.set_cons_zero]
          refine hl_take 4 rfl (by kernel_rfl) (by rfl) (fun w' hw' => run_faddr 53 _ 1 rfl rfl _ Try.underlying53 1 _ rfl rfl 31 s35) hS0 (fun _ _ _ h => h) ?_
          simp only [Act.put, List.setIfInBounds_toArray, List.set_cons_succ, List.set_cons_zero]
          refine hl_take 5 rfl (by kernel_rfl) (by rfl) (fun w' hw' => load_key rfl rfl (own[k]'hlt).key (hkF w' hw')) hS0 (fun _ _ _ h => h) ?_
          simp only [Act.put, List.setIfInBounds_toArray, List.set_cons_succ, List.set_cons_zero]
          refine hl_take (v := ?_) 6 rfl (by kernel_rfl) (by rfl) ?_ hS0 (fun _ _ _ h => h) ?_
          rotate_left
          · (intro w' hw'; go_simp; try with_reducible rfl)
          simp only [Act.put, List.setIfInBounds_toArray, List.set_cons_succ, List.set_cons_zero]
          refine hl_take (v := ?_) 7 rfl (by kernel_rfl) (by rfl) ?_ hS0 (fun _ _ _ h => h) ?_
          rotate_left
          · (intro w' hw'; go_simp; try with_reducible rfl)
          simp only [Act.put, List.setIfInBounds_toArray, List.set_cons_succ, List.set_cons_zero]
          refine hl_take 8 rfl (by kernel_rfl) (by rfl) (fun w' hw' => run_elem 50 53 _ _ rfl Try.underlying50 38 sdeed rfl k rfl hlt) hS0 (fun _ _ _ h => h) ?_
          simp only [Act.put, List.setIfInBounds_toArray, List.set_cons_succ, List.set_cons_zero]
          refine hl_take 9 rfl (by kernel_rfl) (by rfl) (fun w' hw' => run_faddr 53 _ 2 rfl rfl _ Try.underlying53 33 _ rfl rfl 3 s38) hS0 (fun _ _ _ h => h) ?_
          simp only [Act.put, List.setIfInBounds_toArray, List.set_cons_succ, List.set_cons_zero]
          refine hl_take 10 rfl (by kernel_rfl) (by rfl) (fun w' hw' => load_place rfl rfl (own[k]'hlt).place (hpF w' hw')) hS0 (fun _ _ _ h => h) ?_
          simp only [Act.put, List.setIfInBounds_toArray, List.set_cons_succ, List.set_cons_zero]
          refine hl_one 11 (by kernel_rfl) (hs_call rfl (by rfl) 28 [.tmp 62, .tmp 67, .tmp 72] _ rfl [.pointer (some ⟨ga, 0, none⟩), agg (own[k]'hlt).key, agg (own[k]'hlt).place] rfl enter_add (add_ok _ (own[k]'hlt).key (own[k]'hlt).place ba _ _ hI0) (fun e u1 he => ?_))
          obtain ⟨rfl, hg1, hI1⟩ := he
          refine ⟨_, rfl, hS0.trans hg1, ?_⟩
          simp only [Act.put, List.setIfInBounds_toArray, List.set_cons_succ, List.set_cons_zero]
          refine hl_done (by kernel_rfl) ?_
          go_wp2
          go_roundw
          case rel => exact ⟨k + 1, by omega, by go_num, by rw [addAll_take own k hlt]; exact hI1, hgr.trans (hS0.trans hg1)⟩
          case measure => simp [RowKit.intOf]; omega
        · have hkl : k = own.length := by omega
          rw [hkl, List.take_length] at hI
          have HKL := Lib.hid hkl
          clear hkl
          have hb3 : Below w.heap.size w wr := fresh_grown hbu2 hgr (fun i hi => by injection hi with hi; omega)
          have hIb3 : IxIs wr (.pointer (some ⟨gb, 0, none⟩)) bb (addAll ((turned own r).take 0)) := hIb.keep (Keep.grown hgr) (fun h => hbab h.symm) (fun g hg h => by have := ptr_inj hg; exact hgbba (this.trans h))
          have hAo3 : ∀ k (h : k < own.length), ∃ b1 o1, Ao = some ⟨b1, o1, none⟩ ∧ b1 < bb ∧ wr.rangeAt b1 (o1 + k * 38) (Enc.enc own[k]) := fun k h => by
            obtain ⟨b1, o1, rfl, hlo1, hlo2, hlo3, hr1⟩ := hAo k h
            exact ⟨b1, o1, rfl, hlo2, range_grown hr1 hgr (by simp; omega)⟩
          clear hAo hIa2
          go_wp2
          obtain ⟨w3, hw3⟩ : ∃ x, x = wr := ⟨_, rfl⟩
          rw [← hw3] at hb3 hIb3 hAo3 hI ⊢
          have HW3 := Lib.hid hw3
          clear hw3
          go_loopw [12] (fun i ur => ∃ (k : Nat), k ≤ own.length ∧ i = .int .i64 k ∧ IxIs ur (.pointer (some ⟨gb, 0, none⟩)) bb (addAll ((turned own r).take k)) ∧ w3.grownBy ur (some bb)) (fun i _ => own.length - (RowKit.intOf i).toNat)
          case atStart => exact ⟨0, by omega, rfl, hIb3, World.grownBy.refl w3 _⟩
          case round =>
            obtain ⟨k2, hk2, rfl, hIb, hgr2⟩ := hrel
            by_cases hlt2 : k2 < own.length
            · have hmod : (k2 + r) % own.length < own.length := Nat.mod_lt _ (by omega)
              obtain ⟨b1, o1, rfl, hlo2, hr1⟩ := hAo3 _ hmod
              have hr2 : wr.rangeAt b1 (o1 + ((k2 + r) % own.length) * 38) (Enc.enc (own[(k2 + r) % own.length]'hmod)) := range_grown hr1 hgr2 (by simp; omega)
              have hidx : (((k2 : Int) + (r : Int)) % (own.length : Int)) = (((k2 + r) % own.length : Nat) : Int) := by simp
              have hsum : (0 : Int) ≤ (k2 : Int) + (r : Int) := by omega
              have hnz : ¬ (own.length : Int) = 0 := by omega
              have hnz2 : ¬ own.length = 0 := by omega
              have hown : addAll ((turned own r).take (k2 + 1)) = (ixAdd (addAll ((turned own r).take k2)) (own[(k2 + r) % own.length]'hmod).key (own[(k2 + r) % own.length]'hmod).place).2 := by
                have h := addAll_take (turned own r) k2 (by rw [turned_len]; exact hlt2)
                rw [turned_get own r k2 hlt2] at h
                exact h
              generalize hd : own[(k2 + r) % own.length]'hmod = d at hr1 hr2 hown
              have hlo3 := hlo2
              have hI3 := hIb.fresh (fresh_alloc (fresh_refl wr) (.cells (Enc.enc d).toArray 53))
              have hd3 := range_block (heap_alloc_new wr (.cells (Enc.enc d).toArray 53))
              have hdk := (deed_parts hd3).2.1
              have hdp := (deed_parts hd3).2.2.1
              have HIDX := Lib.hid hidx
              clear hidx
              have HD := Lib.hid hd
              clear hd
              have HOWN := Lib.hid hown
              clear hown
              go_wp2_with (first
                | (refine st_val rfl (run_elem (ki := .i64) 50 53 _ _ rfl Try.underlying50 38 sdeed rfl ((k2 + r) % own.length) ?_ hmod) ?_; (first | rfl | (rw [← HIDX.out]; rfl)))
                | (refine st_val rfl (load_deed rfl rfl d ?_) ?_; (with_reducible exact hr2))
                | (refine st_val rfl (run_alloc 53 Deed.zero zero53 rfl) ?_)
                | (refine st_skip rfl (run_store_new 53 _ _ rfl rfl rfl d Deed.zero rfl 53 sdeed) ?_)
                | (refine st_val rfl (run_faddr 53 _ 1 rfl rfl _ Try.underlying53 1 _ rfl rfl 31 s35) ?_)
                | (refine st_val rfl (run_faddr 53 _ 2 rfl rfl _ Try.underlying53 33 _ rfl rfl 3 s38) ?_)
                | (refine st_val rfl (load_key rfl rfl d.key ?_) ?_; (with_reducible exact hdk))
                | (refine st_val rfl (load_place rfl rfl d.place ?_) ?_; (with_reducible exact hdp))
                | (go_at_call 28; refine (add_ok _ d.key d.place bb _ _ hI3).mono ?_; rintro e u4 ⟨rfl, hg4, hI4⟩))
              go_roundw
              case rel => exact ⟨k2 + 1, by omega, by go_num, by rw [HOWN.out]; exact hI4, hgr2.trans ((grown_weak (fresh_alloc (fresh_refl wr) _) bb).trans hg4)⟩
              case measure => simp [RowKit.intOf]; omega
            · have hkl2 : k2 = own.length := by omega
              rw [hkl2, List.take_of_length_le (by rw [turned_len]; omega)] at hIb
              have HKL2 := Lib.hid hkl2
              clear hkl2
              have hb4 : Below w.heap.size w wr := fresh_grown hb3 hgr2 (fun i hi => by injection hi with hi; omega)
              have hIa4 : IxIs wr (.pointer (some ⟨ga, 0, none⟩)) ba (addAll own) := hI.keep (Keep.grown hgr2) (fun h => hbab h) (fun g hg h => by have := ptr_inj hg; exact hgab (this.trans h))
              go_wp2_with (fail)
              refine (HITEMS.out _ ba _ wr hIa4 (by have := addAll_len own; omega)).mono ?_
              rintro e u5 ⟨v0, L0, rfl, hO5, hT5, hb5⟩
              obtain ⟨A0, c0, rfl, hR5, -⟩ := hO5.shape
              have hL5 := hT5.len
              have hL6 := addAll_len own
              have hL7 : L0.length ≤ 100 := by omega
              have hst := hT5.strict
              have HST := Lib.hid hst
              clear hst
              have HL5 := Lib.hid hL5
              clear hL5
              go_wp2
              go_loopw [15] (fun i ur => ∃ (k : Nat), (k + 1 ≤ L0.length ∨ k = 0) ∧ i = .int .i64 ((k : Int) + 1) ∧ ∃ n, ur = u5.drewN n) (fun i _ => L0.length - (RowKit.intOf i).toNat)
              case atStart => exact ⟨0, .inr rfl, rfl, 0, rfl⟩
              case round =>
                obtain ⟨k3, hk3, rfl, n3, rfl⟩ := hrel
                by_cases hlt3 : k3 + 1 < L0.length
                · have hd3 : decide ((k3 : Int) + 1 < (L0.length : Int)) = true := by simp; omega
                  have hlt4 : k3 < L0.length := by omega
                  have hklt := HST.out
                  rw [List.pairwise_iff_getElem] at hklt
                  have hkl := hklt k3 (k3 + 1) hlt4 hlt3 (by omega)
                  clear hklt
                  obtain ⟨b1, o1, rfl, hr1⟩ := hR5.at_n hlt4 73 rfl
                  obtain ⟨b2, o2, hA2, hr2⟩ := hR5.at_n hlt3 73 rfl
                  obtain ⟨rfl, rfl⟩ : b1 = b2 ∧ o1 = o2 := by simpa using hA2
                  have h1 := item_keyAt hr1
                  have h2 := item_keyAt hr2
                  have hsub : IntKind.i64.wrap ((k3 : Int) + 1 - 1) = (k3 : Int) := by rw [wrap_in (by omega) (by omega)]; omega
                  have hcv2 : ∀ w', (∃ m, w' = (u5.drewN n3).drewN m) → (convert 60 9 (.slice (some ⟨b1, o1 + (k3 + 1) * 73 + 1, none⟩) 32 32)).run Try.prog w' = .ok (.string ⟨(L0[k3 + 1]'hlt3).key.1.toArray⟩) w' := by
                    rintro _ ⟨m, rfl⟩
                    exact run_keyString _ _ _ _ _ h2
                  have HSUB := Lib.hid hsub
                  clear hsub
                  have HKLT := Lib.hid hkl
                  clear hkl
                  go_wp2
                  refine wp_region_quiet_lit (by kernel_rfl) (by kernel_rfl) ?_
                  first | go_big_quiet_step (fail) | (refine sq_val (v := ?_) (by rfl) ?_ ?_; rotate_left; (focus (rintro w' ⟨x, rfl⟩; go_simp; try with_reducible rfl)); simp only [Act.put, List.setIfInBounds_toArray, List.set_cons_succ, List.set_cons_zero])
                  first | go_big_quiet_step (fail) | (refine sq_val (v := ?_) (by rfl) ?_ ?_; rotate_left; (focus (rintro w' ⟨x, rfl⟩; go_simp; try with_reducible rfl)); simp only [Act.put, List.setIfInBounds_toArray, List.set_cons_succ, List.set_cons_zero])
                  refine sq_val (by rfl) (fun w' hw' => op_sub64 _ _ _ _ _ _ (k3 : Int) rfl rfl rfl HSUB.out) ?_
                  simp only [Act.put, List.setIfInBounds_toArray, List.set_cons_succ, List.set_cons_zero]
                  refine sq_val (by rfl) (fun w' hw' => elem_item rfl rfl rfl hlt4) ?_
                  simp only [Act.put, List.setIfInBounds_toArray, List.set_cons_succ, List.set_cons_zero]
                  first | go_big_quiet_step (fail) | (refine sq_val (v := ?_) (by rfl) ?_ ?_; rotate_left; (focus (rintro w' ⟨x, rfl⟩; go_simp; try with_reducible rfl)); simp only [Act.put, List.setIfInBounds_toArray, List.set_cons_succ, List.set_cons_zero])
                  first | go_big_quiet_step (fail) | (refine sq_val (v := ?_) (by rfl) ?_ ?_; rotate_left; (focus (rintro w' ⟨x, rfl⟩; go_simp; try with_reducible rfl)); simp only [Act.put, List.setIfInBounds_toArray, List.set_cons_succ, List.set_cons_zero])
                  refine sq_val (by rfl) (fun w' hw' => op_convert (v := .slice (some ⟨b1, o1 + k3 * 73 + 1, none⟩) 32 32) _ _ _ rfl rfl (run_keyString w' _ _ _ (L0[k3]'hlt4).key (by obtain ⟨m, rfl⟩ := hw'; exact h1))) ?_
                  simp only [Act.put, List.setIfInBounds_toArray, List.set_cons_succ, List.set_cons_zero]
                  first | go_big_quiet_step (fail) | (refine sq_val (v := ?_) (by rfl) ?_ ?_; rotate_left; (focus (rintro w' ⟨x, rfl⟩; go_simp; try with_reducible rfl)); simp only [Act.put, List.setIfInBounds_toArray, List.set_cons_succ, List.set_cons_zero])
                  first | go_big_quiet_step (fail) | (refine sq_val (v := ?_) (by rfl) ?_ ?_; rotate_left; (focus (rintro w' ⟨x, rfl⟩; go_simp; try with_reducible rfl)); simp only [Act.put, List.setIfInBounds_toArray, List.set_cons_succ, List.set_cons_zero])
                  refine sq_val (by rfl) (fun w' hw' => elem_item (k := k3 + 1) rfl rfl (by rfl) hlt3) ?_
                  simp only [Act.put, List.setIfInBounds_toArray, List.set_cons_succ, List.set_cons_zero]
                  first | go_big_quiet_step (fail) | (refine sq_val (v := ?_) (by rfl) ?_ ?_; rotate_left; (focus (rintro w' ⟨x, rfl⟩; go_simp; try with_reducible rfl)); simp only [Act.put, List.setIfInBounds_toArray, List.set_cons_succ, List.set_cons_zero])
                  first | go_big_quiet_step (fail) | (refine sq_val (v := ?_) (by rfl) ?_ ?_; rotate_left; (focus (rintro w' ⟨x, rfl⟩; go_simp; try with_reducible rfl)); simp only [Act.put, List.setIfInBounds_toArray, List.set_cons_succ, List.set_cons_zero])
                  refine sq_val (by rfl) (fun w' hw' => op_convert _ _ _ rfl rfl (hcv2 w' hw')) ?_
                  simp only [Act.put, List.setIfInBounds_toArray, List.set_cons_succ, List.set_cons_zero]
                  first | go_big_quiet_step (fail) | (refine sq_val (v := ?_) (by rfl) ?_ ?_; rotate_left; (focus (rintro w' ⟨x, rfl⟩; go_simp; try with_reducible rfl)); simp only [Act.put, List.setIfInBounds_toArray, List.set_cons_succ, List.set_cons_zero])
                  refine wpQuiet_nil ?_
                  intro _ hw'
                  obtain ⟨nq, hw''⟩ := hw'
                  subst hw''
                  rw [below_eq, HKLT.out]
                  simp only [Bool.not_true]
                  go_wp2
                  go_roundw
                  case rel => exact ⟨k3 + 1, .inl (by omega), by go_num, n3 + nq, by simp⟩
                  case measure => simp [RowKit.intOf]; omega
                · have hd3 : decide ((k3 : Int) + 1 < (L0.length : Int)) = false := by simp; omega
                  have hb5n : Below wr.heap.size wr (u5.drewN n3) := fresh_trans hb5 (fresh_drewN (fresh_refl u5) n3)
                  have hlena := len_ok _ ba _ (u5.drewN n3) (hIa4.fresh hb5n)
                  rw [← HL5.out] at hlena
                  go_wp2_with (fail)
                  refine hlena.mono ?_
                  rintro e u6 ⟨rfl, rfl⟩
                  go_wp2_with (fail)
                  refine (HITEMS.out _ bb _ (u5.drewN n3) (hIb.fresh hb5n) (by have := addAll_len (turned own r); rw [turned_len] at this; omega)).mono ?_
                  rintro e u7 ⟨v1, L1, rfl, hO7, hT7, hb7⟩
                  have hO5' := (hO5.drewN n3).fresh hb7
                  have hL : decide (L0 = L1) = true := by
                    have hT := TellsK.of_perm hT7 (addAll_perm hap (turned_perm own r)).symm
                    simpa using (hT.one hT5.perm hT5.rising)
                  go_wp2_with (fail)
                  refine (samei_ok L0 L1 u7 hO5' hO7 true hL).mono ?_
                  rintro e u8 ⟨rfl, hb8⟩
                  go_wp2
                  go_ret
                  exact ⟨rfl, fresh_trans (fresh_trans (fresh_trans hb4 hb5n) hb7) hb8⟩
end Go.Pb
