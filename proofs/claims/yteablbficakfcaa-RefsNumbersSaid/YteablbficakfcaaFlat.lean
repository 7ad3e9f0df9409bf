/- Lists that lie apart: marked, grown one by one, grown by many: all stays as it should. -/
import Derived.Test.YteablbficakfcaaFlat0
import Derived.Test.YteablbficakfcaaOps
set_option linter.unusedVariables false
set_option linter.unusedSimpArgs false
set_option linter.unusedSectionVars false
namespace Go.Pb
open Go.RowKit Go.Proofs Go.BigFrame

section
variable {α : Type} [Enc α] {w0 w w' : World} {base : Nat} {e e2 : TypeId} {N : Nat} {V : Nat → Sl} {L : Nat → List α} {k : Nat} {G : Nat → Sl} {M : Nat → List α} {bl gl c : Nat} {vls vgs : Value} {lsl gsl : List Sl}
theorem FlatI.start (hls : Owns w0 bl e2 vls lsl) (hown : ∀ i, i < N → Owns w0 base e (V i).val (L i)) (hdis : ∀ i j g, i < N → j < N → (V i).own = some g → (V j).own = some g → i = j) :
    FlatI w0 w0 base e e2 N V L 0 (fun _ => Sl.nil) (fun _ => []) bl vls lsl (.slice none 0 0) [] :=
  ⟨⟨hown, fun i hi => by omega, hdis, fun i j g _ hj => by omega, fun i j g hi => by omega, fun j g hj => by omega⟩, hls, Owns.nil _ _ _, Keep.refl w0, fun g hg => (hls.block g hg).2⟩
/-- The cell of a row that holds the k-th list. -/
theorem ls_cell (hls : Owns w bl e2 (.slice (some ⟨gl, 0, none⟩) N c) lsl) {s : Sl} (hk : lsl[k]? = some s) : w.cell? ⟨gl, k, none⟩ = some s.val := by
  obtain ⟨hlt, hs⟩ := List.getElem?_eq_some_iff.1 hk
  obtain ⟨A, c', hv, hR, _⟩ := hls.shape
  obtain ⟨b, o, hA, hr⟩ := hR.at_n hlt 1 rfl
  simp only [Value.slice.injEq] at hv
  obtain ⟨rfl, _, _⟩ := hv
  simp only [Option.some.injEq, Addr.mk.injEq, and_true] at hA
  obtain ⟨rfl, rfl⟩ := hA
  have := hr 0 s.val (by subst hs; rfl)
  simpa using this
theorem sl_val {v : Sl} {l : List α} (H : Owns w base e v.val l) : v.val = .slice v.A l.length v.c := by
  obtain ⟨A, c', hv, _, _⟩ := H.shape
  simp only [Sl.val, Value.slice.injEq] at hv ⊢
  exact ⟨trivial, hv.2.1, trivial⟩
theorem put_sl {g n cap : Nat} {l : List Sl} (H : Owns w base e (.slice (some ⟨g, 0, none⟩) n cap) l) (i : Nat) (hi : i < l.length) (z : Sl) : Owns (w.setCells g i (Enc.enc z)) base e (.slice (some ⟨g, 0, none⟩) n cap) (l.set i z) := by
  have h : Enc.sz Sl = 1 := rfl
  have := Owns.put H i hi z
  rw [h] at this
  simpa using this
theorem room_sl {g n cap : Nat} {l : List Sl} (H : Owns w base e (.slice (some ⟨g, 0, none⟩) n cap) l) (i : Nat) (hi : i < l.length) : w.there g i 1 := by
  have h : Enc.sz Sl = 1 := rfl
  have := Owns.room H i hi
  rw [h] at this
  simpa using this
theorem store_sl {P : Program} {o : Oper} {ρ : Operand → Value} {w : World} (t : TypeId) (x y : Operand) (ho : o.op = .store t x y) {b f : Nat} (hx : ρ x = .pointer (some ⟨b, f, none⟩)) (z : Sl) (hy : ρ y = z.val) (ht : w.there b f 1) (hi : (P.info? t).map (·.size) = some 1) : (execOp ρ o).run P w = .ok .skip (w.setCells b f (Enc.enc z)) := by
  have h := run_storeVar_mid (P := P) w b f t (Enc.enc z).toArray (by rw [List.size_toArray, Enc.len]; exact ht) hi (all_oneCell_toArray (Enc.one z))
  have hc : storeVar t ⟨b, f, none⟩ z.val = storeVar t ⟨b, f, none⟩ (Value.agg (Enc.enc z).toArray) := rfl
  unfold execOp
  simp only [ho, hx, hy, Instr.storeAt, Instr.sureAddr, hc, Sem.run_bind, Sem.run_pure, Result.andThen_ok, h]
theorem cell_fresh {w w' : World} {p : Addr} {v : Value} (h : w.cell? p = some v) (hb : Below w.heap.size w w') : w'.cell? p = some v := (hb.cell (World.block_lt_of_cell? w _ h)).trans h
theorem get_set_upto {β : Type} {l : List β} {k : Nat} {G : Nat → β} (h : ∀ j, j < k → l[j]? = some (G j)) (hk : k < l.length) : ∀ j, j < k + 1 → (l.set k (G k))[j]? = some (G j) := fun j hj => by
  by_cases he : j = k
  · subst he; simp [hk]
  · rw [List.getElem?_set_ne (fun e => he e.symm)]; exact h j (by omega)
end

theorem sl_count : (Try.prog.info? 25).map (·.size) = some 1 := by kernel_rfl
set_option maxRecDepth 100000 in
set_option maxHeartbeats 4000000 in
theorem flatcount_ok (w0 : World) (base N : Nat) (V : Nat → Sl) (L0 : Nat → List Count) (ns : Nat → Nat) (bl gl c : Nat) (lsl : List Sl) (hls : Owns w0 bl 25 (.slice (some ⟨gl, 0, none⟩) N c) lsl) (hV : ∀ i, i < N → lsl[i]? = some (V i))
    (hown : ∀ i, i < N → Owns w0 base 45 (V i).val (L0 i)) (hdis : ∀ i j g, i < N → j < N → (V i).own = some g → (V j).own = some g → i = j) (hns : ∀ i, i < N → (L0 i).length = ns i) (hN : N ≤ 1000) (hns2 : ∀ i, i < N → ns i ≤ 1000000) (hbase : base ≤ w0.heap.size) :
    Calls Try.prog 75 #[.slice (some ⟨gl, 0, none⟩) N c] w0 fun e w' => e = .returned (.bool true) ∧ Keep (InV N V) w0 w' := by
  have hF0 := FlatI.start hls hown hdis
  have hU0 := Upto.start markC hns
  have HV := Lib.hid hV
  clear hV
  have HNS := Lib.hid hns
  clear hns
  have HNS2 := Lib.hid hns2
  clear hns2
  clear hls hown
  go_enter Try.func75, Try.ntmps75
  go_wp2
  go_loopw [3, 4] (fun i _ wr => ∃ (k : Nat) (L : Nat → List Count), k ≤ N ∧ i = .int .i64 k ∧ FlatI w0 wr base 45 25 N V L 0 (fun _ => Sl.nil) (fun _ => []) bl (.slice (some ⟨gl, 0, none⟩) N c) lsl (.slice none 0 0) [] ∧ Upto N ns markC L k 0) (fun i _ _ => N - (RowKit.intOf i).toNat)
  case atStart => exact ⟨0, L0, by omega, rfl, hF0, hU0⟩
  case round =>
    clear hF0 hU0
    obtain ⟨k, L1, hk, rfl, hF1, hU1⟩ := hrel
    by_cases hlt : k < N
    · have hvk := HV.out k hlt
      have hnk := HNS2.out k hlt
      have hl1 := (hU1 k hlt).1
      have hval := sl_val (hF1.two.own k hlt)
      rw [hl1] at hval
      have HVK := Lib.hid hvk
      clear hvk
      have HL1 := Lib.hid hl1
      clear hl1
      have HVAL := Lib.hid hval
      clear hval
      go_wp2
      obtain ⟨wq, hwq⟩ : ∃ wq : World, wq = wr := ⟨_, rfl⟩
      subst hwq
      go_loopw [4] (fun i wr => ∃ (n : Nat) (L : Nat → List Count), n ≤ ns k ∧ i = .int .i64 n ∧ FlatI w0 wr base 45 25 N V L 0 (fun _ => Sl.nil) (fun _ => []) bl (.slice (some ⟨gl, 0, none⟩) N c) lsl (.slice none 0 0) [] ∧ Upto N ns markC L k n) (fun i _ => ns k - (RowKit.intOf i).toNat)
      case atStart => exact ⟨0, L1, by omega, rfl, hF1, hU1⟩
      case round =>
        clear hF1 hU1 HL1
        obtain ⟨n, L2, hn, rfl, hF2, hU2⟩ := hrel
        by_cases hltn : n < ns k
        · have hO := hF2.two.own k hlt
          have hl2 := (hU2 k hlt).1
          obtain ⟨b, cap, hvb, hbb, hbw, hcp⟩ := hO.some' (by intro e; rw [e] at hl2; simp at hl2; omega)
          have hlen2 : n < (L2 k).length := by omega
          rw [hl2] at hvb
          have hown : (V k).own = some b := by unfold Sl.own; rw [hvb]; rfl
          have hcell : wr.cell? ⟨gl, k, none⟩ = some (.slice (some ⟨b, 0, none⟩) (ns k) cap) := by rw [← hvb]; exact ls_cell hF2.ls HVK.out
          have hne : ¬ gl = b := fun e => hO.far hF2.ls (by decide) b hown (by rw [e]; rfl)
          clear hl2
          have HVB := Lib.hid hvb
          clear hvb
          have HOWN := Lib.hid hown
          clear hown
          have HO := Lib.hid hO
          clear hO
          go_wp2_with (first
            | (refine st_val rfl (run_elem1 30 25 _ _ rfl Try.underlying30 sl_count rfl k rfl hlt) ?_)
            | (refine st_val rfl (run_load1 25 _ rfl rfl ?_ _ Try.underlying25 rfl) ?_; (with_reducible exact hcell)))
          have hS0 : wr.grownBy wr.drew (some b) := grown_weak (fresh_drew (fresh_refl wr)) b
          have hcF : ∀ w', wr.grownBy w' (some b) → w'.cell? ⟨gl, k, none⟩ = some (.slice (some ⟨b, 0, none⟩) (ns k) cap) := fun w' hw => hw.cell hcell (by simpa using hne)
          refine held_lit (fun w' => wr.grownBy w' (some b)) 10 rfl (by kernel_rfl) ?_
          refine hl_take 0 rfl (by kernel_rfl) (by rfl) (fun w' hw' => op_move _ (.slice (some ⟨gl, 0, none⟩) N c) rfl rfl) hS0 (fun _ _ _ h => h) ?_
          simp only [Act.put, List.setIfInBounds_toArray, List.set_cons_succ, List.set_cons_zero]
          refine hl_take 1 rfl (by kernel_rfl) (by rfl) (fun w' hw' => op_move _ (.int .i64 (k : Int)) rfl rfl) hS0 (fun _ _ _ h => h) ?_
          simp only [Act.put, List.setIfInBounds_toArray, List.set_cons_succ, List.set_cons_zero]
          refine hl_take 2 rfl (by kernel_rfl) (by rfl) (fun w' hw' => run_elem1 30 25 _ _ rfl Try.underlying30 sl_count rfl k rfl hlt) hS0 (fun _ _ _ h => h) ?_
          simp only [Act.put, List.setIfInBounds_toArray, List.set_cons_succ, List.set_cons_zero]
          refine hl_take 3 rfl (by kernel_rfl) (by rfl) (fun w' hw' => run_load1 25 _ rfl rfl (hcF w' hw') _ Try.underlying25 rfl) hS0 (fun _ _ _ h => h) ?_
          simp only [Act.put, List.setIfInBounds_toArray, List.set_cons_succ, List.set_cons_zero]
          refine hl_take 4 rfl (by kernel_rfl) (by rfl) (fun w' hw' => op_move _ (.int .i64 (n : Int)) rfl rfl) hS0 (fun _ _ _ h => h) ?_
          simp only [Act.put, List.setIfInBounds_toArray, List.set_cons_succ, List.set_cons_zero]
          refine hl_take 5 rfl (by kernel_rfl) (by rfl) (fun w' hw' => op_move _ (.int .i64 (k : Int)) rfl rfl) hS0 (fun _ _ _ h => h) ?_
          simp only [Act.put, List.setIfInBounds_toArray, List.set_cons_succ, List.set_cons_zero]
          refine hl_take 6 rfl (by kernel_rfl) (by rfl) (fun w' hw' => op_move _ (.int .i64 (n : Int)) rfl rfl) hS0 (fun _ _ _ h => h) ?_
          simp only [Act.put, List.setIfInBounds_toArray, List.set_cons_succ, List.set_cons_zero]
          refine hl_one 7 (by kernel_rfl) (hs_call rfl (by rfl) 44 [.tmp 36, .tmp 37] _ rfl [.int .i64 (k : Int), .int .i64 (n : Int)] rfl enter_markcount (markcount_ok (k : Int) (n : Int) _ (by omega) (by omega) (by omega) (by have := HNS2.out k hlt; omega)) (fun e u he => ?_))
          obtain ⟨rfl, hbu0⟩ := he
          have hbu := fresh_trans (fresh_drew (fresh_refl wr)) hbu0
          have hSu : wr.grownBy u (some b) := grown_weak hbu b
          refine ⟨_, rfl, hSu, ?_⟩
          simp only [Act.put, List.setIfInBounds_toArray, List.set_cons_succ, List.set_cons_zero]
          have hOu : Owns u base 45 (.slice (some ⟨b, 0, none⟩) (ns k) cap) (L2 k) := by rw [← HVB.out]; exact HO.out.fresh hbu
          have hst := setCells_eq b (Enc.enc (markC (k : Int) (n : Int))) (n * 33) u
          refine hl_take 8 rfl (by kernel_rfl) (by rfl) (fun w' hw' => elem0_count rfl rfl rfl hltn) hSu (fun _ _ _ h => h) ?_
          simp only [Act.put, List.setIfInBounds_toArray, List.set_cons_succ, List.set_cons_zero]
          refine hl_one 9 (by kernel_rfl) (hs_skip rfl (by rfl) (store_count rfl rfl (markC (k : Int) (n : Int)) rfl (room_count hOu n hlen2)) (hSu.trans hst.1) ?_)
          simp only [Act.put, List.setIfInBounds_toArray, List.set_cons_succ, List.set_cons_zero]
          refine hl_done (by kernel_rfl) ?_
          have hO3 := put_count hOu n hlen2 (markC (k : Int) (n : Int))
          rw [← HVB.out] at hO3
          have hF3 := (hF2.fresh hbu).set (by decide) k hlt hO3 HOWN.out hst.1
          have hU3 := hU2.set hlt hltn
          clear hF2 hU2 hcF hOu hO3 hst hS0 hSu hcell
          generalize u.setCells b (n * 33) (Enc.enc (markC (k : Int) (n : Int))) = u2 at hF3 ⊢
          go_wp2
          go_roundw
          case rel => exact ⟨n + 1, _, by omega, by go_num, hF3, hU3⟩
          case measure => simp [RowKit.intOf]; omega
        · have hcell : wr.cell? ⟨gl, k, none⟩ = some (.slice (V k).A (ns k) (V k).c) := by rw [← HVAL.out]; exact ls_cell hF2.ls HVK.out
          have hnn : n = ns k := by omega
          have hU3 := hU2
          rw [hnn] at hU3
          have hU4 := hU3.next
          clear hU2 hU3
          have HNN := Lib.hid hnn
          clear hnn
          go_wp2_with (first
            | (refine st_val rfl (run_elem1 30 25 _ _ rfl Try.underlying30 sl_count rfl k rfl hlt) ?_)
            | (refine st_val rfl (run_load1 25 _ rfl rfl ?_ _ Try.underlying25 rfl) ?_; (with_reducible exact hcell)))
          go_roundw
          case rel => exact ⟨k + 1, L2, by omega, by go_num, hF2, hU4⟩
          case measure => simp [RowKit.intOf]; omega
    · have hkn : k = N := by omega
      have hL : ∀ i, i < N → L1 i = marks markC (i : Int) (ns i) := by rw [hkn] at hU1; exact hU1.all
      have hGS := Owns.made wr w0.heap.size 25 Sl.nil N N hF1.size (by unfold maxLen; omega) (Nat.le_refl N)
      have hF2 := (hF1.fresh (fresh_alloc (fresh_refl wr) (.cells (flat (List.replicate N Sl.nil)).toArray 25))).newgs hGS
      clear hU1 hF1 hGS hkn
      have HL := Lib.hid hL
      clear hL
      go_wp2_with (refine st_val rfl (run_makeRow2 30 25 _ _ rfl Try.underlying30 Sl.nil _ rfl _ infoS_Counts N N rfl rfl (by omega) (by omega) (by omega)) ?_)
      generalize wr.alloc (.cells (flat (List.replicate N Sl.nil)).toArray 25) = w1 at hF2 ⊢
      generalize wr.heap.size = gg at hF2 ⊢
      clear hk hlt
      go_loopw [6, 7, 8] (fun i _ _ wr => ∃ (k : Nat) (G : Nat → Sl) (M : Nat → List Count) (gsl : List Sl), k ≤ N ∧ i = .int .i64 k ∧ FlatI w0 wr base 45 25 N V L1 k G M bl (.slice (some ⟨gl, 0, none⟩) N c) lsl (.slice (some ⟨gg, 0, none⟩) N N) gsl ∧ (∀ j, j < k → M j = marks markC (j : Int) (ns j + 64)) ∧ (∀ j, j < k → gsl[j]? = some (G j)) ∧ gsl.length = N) (fun i _ _ _ => N - (RowKit.intOf i).toNat)
      case atStart => exact ⟨0, _, _, _, by omega, rfl, hF2, fun j hj => by omega, fun j hj => by omega, by simp⟩
      case round =>
        clear hF2
        obtain ⟨k, G0, M0, gsl, hk, rfl, hF3, hM0, hG0, hgl⟩ := hrel
        by_cases hlt : k < N
        · have hvk := HV.out k hlt
          have hnk := HNS2.out k hlt
          have hLk := HL.out k hlt
          have hval := sl_val (hF3.two.own k hlt)
          rw [hLk, marks_length] at hval
          have hF4 := hF3.redo k hlt (Nat.le_refl k) (k + 1) (by omega)
          have hGr := Gro.start hM0 hLk
          have hG4 : ∀ j, j < k → gsl[j]? = some (upd G0 k (V k) j) := fun j hj => by rw [upd_ne _ _ (by omega)]; exact hG0 j hj
          have hcell : wr.cell? ⟨gl, k, none⟩ = some (.slice (V k).A (ns k) (V k).c) := by rw [← hval]; exact ls_cell hF3.ls hvk
          have hst : (.slice (V k).A (ns k) (V k).c : Value) = (upd G0 k (V k) k).val := by rw [upd_at]; exact hval.symm
          generalize upd G0 k (V k) = G4 at hF4 hG4 hst
          generalize upd M0 k (L1 k) = M4 at hF4 hGr
          clear hF3 hM0 hG0
          have HVK := Lib.hid hvk
          clear hvk
          have HLK := Lib.hid hLk
          clear hLk
          have HVAL := Lib.hid hval
          clear hval
          have HG4 := Lib.hid hG4
          clear hG4
          have HGL := Lib.hid hgl
          clear hgl
          have HST := Lib.hid hst
          clear hst
          go_wp2_with (first
            | (refine st_val rfl (run_elem1 30 25 _ _ rfl Try.underlying30 sl_count rfl k rfl hlt) ?_)
            | (refine st_val rfl (run_load1 25 _ rfl rfl ?_ _ Try.underlying25 rfl) ?_; (with_reducible exact hcell)))
          clear hcell
          obtain ⟨wq, hwq⟩ : ∃ wq : World, wq = wr := ⟨_, rfl⟩
          subst hwq
          go_loopw [7, 8] (fun g i wr => ∃ (n : Nat) (G : Nat → Sl) (M : Nat → List Count), n ≤ 64 ∧ i = .int .i64 n ∧ g = (G k).val ∧ FlatI w0 wr base 45 25 N V L1 (k + 1) G M bl (.slice (some ⟨gl, 0, none⟩) N c) lsl (.slice (some ⟨gg, 0, none⟩) N N) gsl ∧ Gro ns markC M k n ∧ (∀ j, j < k → gsl[j]? = some (G j))) (fun _ i _ => 64 - (RowKit.intOf i).toNat)
          case atStart => exact ⟨0, G4, M4, by omega, rfl, HST.out, hF4, hGr, HG4.out⟩
          case round =>
            clear hF4 hGr HG4 HST
            obtain ⟨n, G5, M5, hn, rfl, rfl, hF5, hGr5, hG5⟩ := hrel
            have HG5 := Lib.hid hG5
            clear hG5
            by_cases hltn : n < 64
            · have hcell : wr.cell? ⟨gl, k, none⟩ = some (.slice (V k).A (ns k) (V k).c) := by rw [← HVAL.out]; exact ls_cell hF5.ls HVK.out
              have hMl : (M5 k).length = ns k + n := by rw [hGr5.2, marks_length]
              have hpre : k < N → L1 k = (M5 k).take (L1 k).length := fun _ => by rw [HLK.out, hGr5.2, marks_length, marks_take _ _ _ _ (by omega)]
              have hbig : ((M5 k).length + 1) * 40 ≤ 140737488355328 := by rw [hMl]; omega
              have HML := Lib.hid hMl
              clear hMl
              have HPRE := Lib.hid hpre
              clear hpre
              go_wp2_with (first
                | (refine st_val rfl (run_elem1 30 25 _ _ rfl Try.underlying30 sl_count rfl k rfl hlt) ?_)
                | (refine st_val rfl (run_load1 25 _ rfl rfl ?_ _ Try.underlying25 rfl) ?_; (with_reducible exact hcell)))
              refine (markcount_ok (k : Int) ((ns k : Int) + (n : Int)) _ (by omega) (by omega) (by omega) (by omega)).mono ?_
              rintro e u ⟨rfl, hbu⟩
              have hF6 := hF5.fresh hbu
              have hOu := hF6.two.grown k (by omega)
              have hsu : base ≤ u.heap.size := by have := hF6.size; omega
              clear hcell
              go_wp2_with (first
                | (refine st_val rfl (row1_count rfl (markC (k : Int) ((ns k : Int) + (n : Int))) rfl) ?_)
                | (at_builtin; refine st_push2 base rfl _ _ 25 45 rfl Try.underlying25 (agg (Count.zero : Count)) rfl _ info45 (by decide) (G5 k).val (M5 k) (markC (k : Int) ((ns k : Int) + (n : Int))) rfl rfl hOu hbig hsu (fun v' w' hO' hA' => ?_)))
              obtain ⟨A', c', rfl, hR', hc'⟩ := hO'.shape
              have hF7 := (hF6.alloc (.cells (Enc.enc (markC (k : Int) ((ns k : Int) + (n : Int)))).toArray 45)).app (by decide) k (by omega) (by omega) (s' := ⟨A', _, c'⟩) hO' hA' HPRE.out
              have hGr7 := hGr5.app
              have hG7 : ∀ j, j < k → gsl[j]? = some (upd G5 k ⟨A', (M5 k ++ [markC (k : Int) ((ns k : Int) + (n : Int))]).length, c'⟩ j) := fun j hj => by rw [upd_ne _ _ (by omega)]; exact HG5.out j hj
              have hv7 : (Value.slice A' (M5 k ++ [markC (k : Int) ((ns k : Int) + (n : Int))]).length c') = (upd G5 k ⟨A', (M5 k ++ [markC (k : Int) ((ns k : Int) + (n : Int))]).length, c'⟩ k).val := by rw [upd_at]; rfl
              generalize upd G5 k ⟨A', (M5 k ++ [markC (k : Int) ((ns k : Int) + (n : Int))]).length, c'⟩ = G7 at hF7 hG7 hv7
              generalize (Value.slice A' (M5 k ++ [markC (k : Int) ((ns k : Int) + (n : Int))]).length c') = v7 at hv7 ⊢
              clear hF5 hF6 hOu hO' hA' hR'
              have HG7 := Lib.hid hG7
              clear hG7
              have HV7 := Lib.hid hv7
              clear hv7
              go_wp2
              go_roundw
              case rel => exact ⟨n + 1, G7, _, by omega, by go_num, HV7.out, hF7, hGr7, HG7.out⟩
              case measure => simp [RowKit.intOf]; omega
            · have hn64 : n = 64 := by omega
              rw [hn64] at hGr5
              have hM6 := hGr5.done
              have hkl : k < gsl.length := by rw [HGL.out]; exact hlt
              have hO6 := put_sl hF5.gs k hkl (G5 k)
              have hst := setCells_eq gg (Enc.enc (G5 k)) k wr
              have hF6 := hF5.gsset (by decide) hO6 rfl hst.1
              have hG6 := get_set_upto HG5.out hkl
              have hl6 : (gsl.set k (G5 k)).length = N := by rw [List.length_set]; exact HGL.out
              have hroom := room_sl hF5.gs k hkl
              clear hst hO6 hGr5 hF5
              have HN64 := Lib.hid hn64
              clear hn64
              have HM6 := Lib.hid hM6
              clear hM6
              have HG6 := Lib.hid hG6
              clear hG6
              have HL6 := Lib.hid hl6
              clear hl6
              go_wp2_with (first
                | (refine st_val rfl (run_elem1 30 25 _ _ rfl Try.underlying30 sl_count rfl k rfl hlt) ?_)
                | (refine st_skip rfl (store_sl 25 _ _ rfl rfl (G5 k) rfl ?_ sl_count) ?_; (with_reducible exact hroom)))
              go_roundw
              case rel => exact ⟨k + 1, G5, M5, gsl.set k (G5 k), by omega, by go_num, hF6, HM6.out, HG6.out, HL6.out⟩
              case measure => simp [RowKit.intOf]; omega
        · have hkn : k = N := by omega
          rw [hkn] at hF3 hM0 hG0
          clear hkn
          obtain ⟨w3, hw3⟩ : ∃ w3 : World, w3 = wr := ⟨_, rfl⟩
          subst hw3
          have HM := Lib.hid hM0
          clear hM0
          have HG := Lib.hid hG0
          clear hG0
          have HGL := Lib.hid hgl
          clear hgl
          go_wp2
          clear hk hlt
          go_loopw [9, 10] (fun i _ wr => ∃ (k : Nat), k ≤ N ∧ i = .int .i64 k ∧ Below w3.heap.size w3 wr) (fun i _ _ => N - (RowKit.intOf i).toNat)
          case atStart => exact ⟨0, by omega, rfl, fresh_refl _⟩
          case round =>
            obtain ⟨k, hk, rfl, hb3⟩ := hrel
            by_cases hlt : k < N
            · have hvk := HV.out k hlt
              have hnk := HNS2.out k hlt
              have hgk := HG.out k hlt
              have hLk := HL.out k hlt
              have hMk := HM.out k hlt
              obtain ⟨m, hm⟩ : ∃ m, m = ns k + 64 := ⟨_, rfl⟩
              have hmle : m ≤ 1000064 := by omega
              have hnm : ns k ≤ m := by omega
              have hOV := hF3.two.own k hlt
              have hOG := hF3.two.grown k hlt
              rw [hLk] at hOV
              rw [hMk, ← hm] at hOG
              obtain ⟨b, cap, hvb, -, -, -⟩ := hOG.some' (by intro e; have := congrArg List.length e; rw [marks_length] at this; simp at this; omega)
              rw [marks_length] at hvb
              have hcG := ls_cell hF3.gs hgk
              rw [hvb] at hcG hOG
              have hcV := ls_cell hF3.ls hvk
              rw [sl_val hOV, marks_length] at hcV
              have HM64 := Lib.hid hm
              clear hm
              have HVB := Lib.hid hvb
              clear hvb
              have HLK := Lib.hid hLk
              clear hLk
              have HMK := Lib.hid hMk
              clear hMk
              clear hvk hgk
              have hcG3 := cell_fresh hcG hb3
              go_wp2_with (first
                | (refine st_val rfl (run_elem1 30 25 _ _ rfl Try.underlying30 sl_count rfl k rfl hlt) ?_)
                | (refine st_val rfl (run_load1 25 _ rfl rfl ?_ _ Try.underlying25 rfl) ?_; (with_reducible exact hcG3)))
              clear hcG3
              go_loopw [10] (fun i wr => ∃ (n : Nat), n ≤ m ∧ i = .int .i64 n ∧ Below w3.heap.size w3 wr) (fun i _ => m - (RowKit.intOf i).toNat)
              case atStart => exact ⟨0, by omega, rfl, hb3⟩
              case round =>
                clear hb3
                obtain ⟨n, hn, rfl, hb3⟩ := hrel
                by_cases hltn : n < m
                · have hcG3 := cell_fresh hcG hb3
                  have hrG := read_count (k := n) hOG (marks_at markC _ hltn)
                  have hgF : ∀ w', (∃ x : Fr wr, w' = x.1) → w'.cell? ⟨gg, k, none⟩ = some (.slice (some ⟨b, 0, none⟩) m cap) := by
                    rintro _ ⟨x, rfl⟩
                    exact cell_fresh hcG (fresh_trans hb3 x.2)
                  have hrF : ∀ w', (∃ x : Fr wr, w' = x.1) → w'.rangeAt b (n * 33) (Enc.enc (markC (k : Int) (n : Int))) := by
                    rintro _ ⟨x, rfl⟩
                    exact range_fresh hrG (fresh_trans hb3 x.2)
                  have hvF : ∀ w', (∃ x : Fr wr, w' = x.1) → w'.cell? ⟨gl, k, none⟩ = some (.slice (V k).A (ns k) (V k).c) := by
                    rintro _ ⟨x, rfl⟩
                    exact cell_fresh hcV (fresh_trans hb3 x.2)
                  go_wp2_with (first
                    | (refine st_val rfl (run_elem1 30 25 _ _ rfl Try.underlying30 sl_count rfl k rfl hlt) ?_)
                    | (refine st_val rfl (run_load1 25 _ rfl rfl ?_ _ Try.underlying25 rfl) ?_; (with_reducible exact hcG3)))
                  clear hcG3 hrG
                  have HGF := Lib.hid hgF
                  clear hgF
                  have HRF := Lib.hid hrF
                  clear hrF
                  by_cases hin : n < ns k
                  · have hVne : marks markC (k : Int) (ns k) ≠ [] := by intro e; have := congrArg List.length e; rw [marks_length] at this; simp at this; omega
                    obtain ⟨bv, capv, hvv, -, -, -⟩ := hOV.some' hVne
                    rw [hvv] at hOV
                    have hvA : (V k).A = some ⟨bv, 0, none⟩ := by
                      simp only [Sl.val, Value.slice.injEq] at hvv
                      exact hvv.1
                    rw [hvA] at hvF
                    have HVF := Lib.hid hvF
                    clear hvF
                    have hrV := read_count (k := n) hOV (marks_at markC _ hin)
                    have hsF : ∀ w', (∃ x : Fr wr, w' = x.1) → w'.rangeAt bv (n * 33) (Enc.enc (markC (k : Int) (n : Int))) := by
                      rintro _ ⟨x, rfl⟩
                      exact range_fresh hrV (fresh_trans hb3 x.2)
                    have HVV := Lib.hid hvv
                    clear hvv
                    have HSF := Lib.hid hsF
                    clear hsF
                    have tok1 : True := trivial
                    have HVA := Lib.hid hvA
                    clear hvA
                    refine wp_region_fresh_lit (by kernel_rfl) (by kernel_rfl) ?_
                    refine sq_val (by rfl) (fun w' _ => op_move _ ((.slice (some ⟨gg, 0, none⟩) N N)) rfl rfl) ?_
                    simp only [Act.put, List.setIfInBounds_toArray, List.set_cons_succ, List.set_cons_zero]
                    refine sq_val (by rfl) (fun w' _ => op_move _ ((.int .i64 (k : Int))) rfl rfl) ?_
                    simp only [Act.put, List.setIfInBounds_toArray, List.set_cons_succ, List.set_cons_zero]
                    refine sq_val (by rfl) (fun w' hw' => run_elem1 30 25 _ _ rfl Try.underlying30 sl_count rfl k rfl hlt) ?_
                    simp only [Act.put, List.setIfInBounds_toArray, List.set_cons_succ, List.set_cons_zero]
                    refine sq_val (by rfl) (fun w' hw' => run_load1 25 _ rfl rfl (HGF.out w' hw') _ Try.underlying25 rfl) ?_
                    simp only [Act.put, List.setIfInBounds_toArray, List.set_cons_succ, List.set_cons_zero]
                    refine sq_val (by rfl) (fun w' _ => op_move _ ((.int .i64 (n : Int))) rfl rfl) ?_
                    simp only [Act.put, List.setIfInBounds_toArray, List.set_cons_succ, List.set_cons_zero]
                    refine sq_val (by rfl) (fun w' hw' => elem0_count rfl rfl rfl hltn) ?_
                    simp only [Act.put, List.setIfInBounds_toArray, List.set_cons_succ, List.set_cons_zero]
                    refine sq_val (by rfl) (fun w' hw' => load_count rfl rfl (markC (k : Int) (n : Int)) (HRF.out w' hw')) ?_
                    simp only [Act.put, List.setIfInBounds_toArray, List.set_cons_succ, List.set_cons_zero]
                    refine sq_val (by rfl) (fun w' _ => op_move _ ((.int .i64 (k : Int))) rfl rfl) ?_
                    simp only [Act.put, List.setIfInBounds_toArray, List.set_cons_succ, List.set_cons_zero]
                    refine sq_val (by rfl) (fun w' _ => op_move _ ((.int .i64 (n : Int))) rfl rfl) ?_
                    simp only [Act.put, List.setIfInBounds_toArray, List.set_cons_succ, List.set_cons_zero]
                    refine sq_call (by rfl) 44 [.tmp 95, .tmp 96] _ rfl [.int .i64 (k : Int), .int .i64 (n : Int)] rfl enter_markcount (fr_call (fun w' hw' => markcount_ok (k : Int) (n : Int) _ (by omega) (by omega) (by omega) (by omega))) ?_
                    simp only [Act.put, List.setIfInBounds_toArray, List.set_cons_succ, List.set_cons_zero]
                    refine sq_val (by rfl) (fun w' hw' => eql_count_t rfl rfl rfl rfl) ?_
                    simp only [Act.put, List.setIfInBounds_toArray, List.set_cons_succ, List.set_cons_zero]
                    refine sq_val (by rfl) (fun w' _ => op_not _ _ true false rfl rfl rfl) ?_
                    simp only [Act.put, List.setIfInBounds_toArray, List.set_cons_succ, List.set_cons_zero]
                    refine sq_val (by rfl) (fun w' _ => op_move _ ((.bool false)) rfl rfl) ?_
                    simp only [Act.put, List.setIfInBounds_toArray, List.set_cons_succ, List.set_cons_zero]
                    refine sq_val (by rfl) (fun w' _ => op_move _ ((.int .i64 (n : Int))) rfl rfl) ?_
                    simp only [Act.put, List.setIfInBounds_toArray, List.set_cons_succ, List.set_cons_zero]
                    refine sq_val (by rfl) (fun w' _ => op_move _ ((.slice (some ⟨gl, 0, none⟩) N c)) rfl rfl) ?_
                    simp only [Act.put, List.setIfInBounds_toArray, List.set_cons_succ, List.set_cons_zero]
                    refine sq_val (by rfl) (fun w' _ => op_move _ ((.int .i64 (k : Int))) rfl rfl) ?_
                    simp only [Act.put, List.setIfInBounds_toArray, List.set_cons_succ, List.set_cons_zero]
                    refine sq_val (by rfl) (fun w' hw' => run_elem1 30 25 _ _ rfl Try.underlying30 sl_count rfl k rfl hlt) ?_
                    simp only [Act.put, List.setIfInBounds_toArray, List.set_cons_succ, List.set_cons_zero]
                    refine sq_val (by rfl) (fun w' hw' => run_load1 25 _ rfl rfl (HVF.out w' hw') _ Try.underlying25 rfl) ?_
                    simp only [Act.put, List.setIfInBounds_toArray, List.set_cons_succ, List.set_cons_zero]
                    refine sq_val (by rfl) (fun w' _ => op_lenS _ 25 _ _ (ns k) _ rfl Try.underlying25 rfl) ?_
                    simp only [Act.put, List.setIfInBounds_toArray, List.set_cons_succ, List.set_cons_zero]
                    refine sq_val (by rfl) (fun w' _ => op_lss64 _ _ _ _ _ _ true rfl rfl rfl (decide_eq_true (by omega))) ?_
                    simp only [Act.put, List.setIfInBounds_toArray, List.set_cons_succ, List.set_cons_zero]
                    refine sq_val (by rfl) (fun w' _ => op_move _ ((.bool true)) rfl rfl) ?_
                    simp only [Act.put, List.setIfInBounds_toArray, List.set_cons_succ, List.set_cons_zero]
                    refine sq_val (by rfl) (fun w' _ => op_move _ ((.slice (some ⟨gl, 0, none⟩) N c)) rfl rfl) ?_
                    simp only [Act.put, List.setIfInBounds_toArray, List.set_cons_succ, List.set_cons_zero]
                    refine sq_val (by rfl) (fun w' _ => op_move _ ((.int .i64 (k : Int))) rfl rfl) ?_
                    simp only [Act.put, List.setIfInBounds_toArray, List.set_cons_succ, List.set_cons_zero]
                    refine sq_val (by rfl) (fun w' hw' => run_elem1 30 25 _ _ rfl Try.underlying30 sl_count rfl k rfl hlt) ?_
                    simp only [Act.put, List.setIfInBounds_toArray, List.set_cons_succ, List.set_cons_zero]
                    refine sq_val (by rfl) (fun w' hw' => run_load1 25 _ rfl rfl (HVF.out w' hw') _ Try.underlying25 rfl) ?_
                    simp only [Act.put, List.setIfInBounds_toArray, List.set_cons_succ, List.set_cons_zero]
                    refine sq_val (by rfl) (fun w' _ => op_move _ ((.int .i64 (n : Int))) rfl rfl) ?_
                    simp only [Act.put, List.setIfInBounds_toArray, List.set_cons_succ, List.set_cons_zero]
                    refine sq_val (by rfl) (fun w' hw' => elem0_count rfl rfl rfl hin) ?_
                    simp only [Act.put, List.setIfInBounds_toArray, List.set_cons_succ, List.set_cons_zero]
                    refine sq_val (by rfl) (fun w' hw' => load_count rfl rfl (markC (k : Int) (n : Int)) (HSF.out w' hw')) ?_
                    simp only [Act.put, List.setIfInBounds_toArray, List.set_cons_succ, List.set_cons_zero]
                    refine sq_val (by rfl) (fun w' _ => op_move _ ((.int .i64 (k : Int))) rfl rfl) ?_
                    simp only [Act.put, List.setIfInBounds_toArray, List.set_cons_succ, List.set_cons_zero]
                    refine sq_val (by rfl) (fun w' _ => op_move _ ((.int .i64 (n : Int))) rfl rfl) ?_
                    simp only [Act.put, List.setIfInBounds_toArray, List.set_cons_succ, List.set_cons_zero]
                    refine sq_call (by rfl) 44 [.tmp 116, .tmp 117] _ rfl [.int .i64 (k : Int), .int .i64 (n : Int)] rfl enter_markcount (fr_call (fun w' hw' => markcount_ok (k : Int) (n : Int) _ (by omega) (by omega) (by omega) (by omega))) ?_
                    simp only [Act.put, List.setIfInBounds_toArray, List.set_cons_succ, List.set_cons_zero]
                    refine sq_val (by rfl) (fun w' hw' => eql_count_t rfl rfl rfl rfl) ?_
                    simp only [Act.put, List.setIfInBounds_toArray, List.set_cons_succ, List.set_cons_zero]
                    refine sq_val (by rfl) (fun w' _ => op_not _ _ true false rfl rfl rfl) ?_
                    simp only [Act.put, List.setIfInBounds_toArray, List.set_cons_succ, List.set_cons_zero]
                    refine sq_val (by rfl) (fun w' _ => op_pick_t _ _ _ ((.bool false)) rfl rfl rfl) ?_
                    simp only [Act.put, List.setIfInBounds_toArray, List.set_cons_succ, List.set_cons_zero]
                    refine sq_val (by rfl) (fun w' _ => op_pick_f _ _ _ ((.bool false)) rfl rfl rfl) ?_
                    simp only [Act.put, List.setIfInBounds_toArray, List.set_cons_succ, List.set_cons_zero]
                    refine wpQuiet_nil ?_
                    rintro _ ⟨x1, rfl⟩
                    have hb4 := fresh_trans hb3 x1.2
                    clear hb3
                    go_wp2
                    go_roundw
                    case rel => exact ⟨n + 1, by omega, by go_num, hb4⟩
                    case measure => simp [RowKit.intOf]; omega
                  · have HVF := Lib.hid hvF
                    clear hvF
                    refine wp_region_fresh_lit (by kernel_rfl) (by kernel_rfl) ?_
                    refine sq_val (by rfl) (fun w' _ => op_move _ ((.slice (some ⟨gg, 0, none⟩) N N)) rfl rfl) ?_
                    simp only [Act.put, List.setIfInBounds_toArray, List.set_cons_succ, List.set_cons_zero]
                    refine sq_val (by rfl) (fun w' _ => op_move _ ((.int .i64 (k : Int))) rfl rfl) ?_
                    simp only [Act.put, List.setIfInBounds_toArray, List.set_cons_succ, List.set_cons_zero]
                    refine sq_val (by rfl) (fun w' hw' => run_elem1 30 25 _ _ rfl Try.underlying30 sl_count rfl k rfl hlt) ?_
                    simp only [Act.put, List.setIfInBounds_toArray, List.set_cons_succ, List.set_cons_zero]
                    refine sq_val (by rfl) (fun w' hw' => run_load1 25 _ rfl rfl (HGF.out w' hw') _ Try.underlying25 rfl) ?_
                    simp only [Act.put, List.setIfInBounds_toArray, List.set_cons_succ, List.set_cons_zero]
                    refine sq_val (by rfl) (fun w' _ => op_move _ ((.int .i64 (n : Int))) rfl rfl) ?_
                    simp only [Act.put, List.setIfInBounds_toArray, List.set_cons_succ, List.set_cons_zero]
                    refine sq_val (by rfl) (fun w' hw' => elem0_count rfl rfl rfl hltn) ?_
                    simp only [Act.put, List.setIfInBounds_toArray, List.set_cons_succ, List.set_cons_zero]
                    refine sq_val (by rfl) (fun w' hw' => load_count rfl rfl (markC (k : Int) (n : Int)) (HRF.out w' hw')) ?_
                    simp only [Act.put, List.setIfInBounds_toArray, List.set_cons_succ, List.set_cons_zero]
                    refine sq_val (by rfl) (fun w' _ => op_move _ ((.int .i64 (k : Int))) rfl rfl) ?_
                    simp only [Act.put, List.setIfInBounds_toArray, List.set_cons_succ, List.set_cons_zero]
                    refine sq_val (by rfl) (fun w' _ => op_move _ ((.int .i64 (n : Int))) rfl rfl) ?_
                    simp only [Act.put, List.setIfInBounds_toArray, List.set_cons_succ, List.set_cons_zero]
                    refine sq_call (by rfl) 44 [.tmp 95, .tmp 96] _ rfl [.int .i64 (k : Int), .int .i64 (n : Int)] rfl enter_markcount (fr_call (fun w' hw' => markcount_ok (k : Int) (n : Int) _ (by omega) (by omega) (by omega) (by omega))) ?_
                    simp only [Act.put, List.setIfInBounds_toArray, List.set_cons_succ, List.set_cons_zero]
                    refine sq_val (by rfl) (fun w' hw' => eql_count_t rfl rfl rfl rfl) ?_
                    simp only [Act.put, List.setIfInBounds_toArray, List.set_cons_succ, List.set_cons_zero]
                    refine sq_val (by rfl) (fun w' _ => op_not _ _ true false rfl rfl rfl) ?_
                    simp only [Act.put, List.setIfInBounds_toArray, List.set_cons_succ, List.set_cons_zero]
                    refine sq_val (by rfl) (fun w' _ => op_move _ ((.bool false)) rfl rfl) ?_
                    simp only [Act.put, List.setIfInBounds_toArray, List.set_cons_succ, List.set_cons_zero]
                    refine sq_val (by rfl) (fun w' _ => op_move _ ((.int .i64 (n : Int))) rfl rfl) ?_
                    simp only [Act.put, List.setIfInBounds_toArray, List.set_cons_succ, List.set_cons_zero]
                    refine sq_val (by rfl) (fun w' _ => op_move _ ((.slice (some ⟨gl, 0, none⟩) N c)) rfl rfl) ?_
                    simp only [Act.put, List.setIfInBounds_toArray, List.set_cons_succ, List.set_cons_zero]
                    refine sq_val (by rfl) (fun w' _ => op_move _ ((.int .i64 (k : Int))) rfl rfl) ?_
                    simp only [Act.put, List.setIfInBounds_toArray, List.set_cons_succ, List.set_cons_zero]
                    refine sq_val (by rfl) (fun w' hw' => run_elem1 30 25 _ _ rfl Try.underlying30 sl_count rfl k rfl hlt) ?_
                    simp only [Act.put, List.setIfInBounds_toArray, List.set_cons_succ, List.set_cons_zero]
                    refine sq_val (by rfl) (fun w' hw' => run_load1 25 _ rfl rfl (HVF.out w' hw') _ Try.underlying25 rfl) ?_
                    simp only [Act.put, List.setIfInBounds_toArray, List.set_cons_succ, List.set_cons_zero]
                    refine sq_val (by rfl) (fun w' _ => op_lenS _ 25 _ _ (ns k) _ rfl Try.underlying25 rfl) ?_
                    simp only [Act.put, List.setIfInBounds_toArray, List.set_cons_succ, List.set_cons_zero]
                    refine sq_val (by rfl) (fun w' _ => op_lss64 _ _ _ _ _ _ false rfl rfl rfl (decide_eq_false (by omega))) ?_
                    simp only [Act.put, List.setIfInBounds_toArray, List.set_cons_succ, List.set_cons_zero]
                    refine sq_val (by rfl) (fun w' _ => op_move _ ((.bool false)) rfl rfl) ?_
                    simp only [Act.put, List.setIfInBounds_toArray, List.set_cons_succ, List.set_cons_zero]
                    go_big_quiet_skip
                    go_big_quiet_skip
                    go_big_quiet_skip
                    go_big_quiet_skip
                    go_big_quiet_skip
                    go_big_quiet_skip
                    go_big_quiet_skip
                    go_big_quiet_skip
                    go_big_quiet_skip
                    go_big_quiet_skip
                    go_big_quiet_skip
                    go_big_quiet_skip
                    refine sq_val (by rfl) (fun w' _ => op_pick_f _ _ _ ((.bool false)) rfl rfl rfl) ?_
                    simp only [Act.put, List.setIfInBounds_toArray, List.set_cons_succ, List.set_cons_zero]
                    refine sq_val (by rfl) (fun w' _ => op_pick_f _ _ _ ((.bool false)) rfl rfl rfl) ?_
                    simp only [Act.put, List.setIfInBounds_toArray, List.set_cons_succ, List.set_cons_zero]
                    refine wpQuiet_nil ?_
                    rintro _ ⟨x1, rfl⟩
                    have hb4 := fresh_trans hb3 x1.2
                    clear hb3
                    go_wp2
                    go_roundw
                    case rel => exact ⟨n + 1, by omega, by go_num, hb4⟩
                    case measure => simp [RowKit.intOf]; omega
                · have hcG3 := cell_fresh hcG hb3
                  go_wp2_with (first
                    | (refine st_val rfl (run_elem1 30 25 _ _ rfl Try.underlying30 sl_count rfl k rfl hlt) ?_)
                    | (refine st_val rfl (run_load1 25 _ rfl rfl ?_ _ Try.underlying25 rfl) ?_; (with_reducible exact hcG3)))
                  go_roundw
                  case rel => exact ⟨k + 1, by omega, by go_num, hb3⟩
                  case measure => simp [RowKit.intOf]; omega
            · have hF4 := hF3.fresh hb3
              have hgl2 := HGL.out
              have hG4 := HG.out
              have hA4 : Again ns markC M0 0 := fun j hj => by omega
              clear hF3 HGL HG HM
              have HGL := Lib.hid hgl2
              clear hgl2
              have HG := Lib.hid hG4
              clear hG4
              go_wp2
              clear hk hlt hb3
              go_loopw [11, 12, 13] (fun i _ _ wr => ∃ (k : Nat) (G : Nat → Sl) (M : Nat → List Count) (gsl : List Sl), k ≤ N ∧ i = .int .i64 k ∧ FlatI w0 wr base 45 25 N V L1 N G M bl (.slice (some ⟨gl, 0, none⟩) N c) lsl (.slice (some ⟨gg, 0, none⟩) N N) gsl ∧ Again ns markC M k ∧ (∀ j, j < N → gsl[j]? = some (G j)) ∧ gsl.length = N) (fun i _ _ _ => N - (RowKit.intOf i).toNat)
              case atStart => exact ⟨0, G0, M0, gsl, by omega, rfl, hF4, hA4, HG.out, HGL.out⟩
              case round =>
                clear hF4 hA4 HG HGL
                obtain ⟨k, G4, M4, gsl4, hk, rfl, hF4, hA4, hG4, hgl4⟩ := hrel
                by_cases hlt : k < N
                · obtain ⟨w4, hw4⟩ : ∃ w4 : World, w4 = wr := ⟨_, rfl⟩
                  subst hw4
                  have hvk := HV.out k hlt
                  have hnk := HNS2.out k hlt
                  have hLk := HL.out k hlt
                  obtain ⟨r64, hr64⟩ : ∃ r, r = (flat (List.replicate 64 (Count.zero : Count))).toArray := ⟨_, rfl⟩
                  have hOm := Owns.made w4 w4.heap.size 45 (Count.zero : Count) 64 64 (Nat.le_refl _) (by unfold maxLen; omega) (Nat.le_refl 64)
                  rw [← hr64] at hOm
                  have hb4 : Below w4.heap.size w4 (w4.alloc (.cells r64 45)) := fresh_alloc (fresh_refl w4) _
                  have HR64 := Lib.hid hr64
                  clear hr64
                  have hm64 : (List.replicate 64 (Count.zero : Count)).length = 64 := List.length_replicate
                  have HG4 := Lib.hid hG4
                  clear hG4
                  have HGL4 := Lib.hid hgl4
                  clear hgl4
                  have HVK := Lib.hid hvk
                  clear hvk
                  have HLK := Lib.hid hLk
                  clear hLk
                  have HM64 := Lib.hid hm64
                  clear hm64
                  go_wp2_with (refine st_val rfl (make2_count rfl 64 64 rfl rfl (by omega) (by omega) r64 HR64.out) ?_)
                  generalize w4.alloc (.cells r64 45) = u0 at hOm hb4 ⊢
                  obtain ⟨gm, hgm⟩ : ∃ gm, gm = w4.heap.size := ⟨_, rfl⟩
                  rw [← hgm] at hOm ⊢
                  have hgm2 : w4.heap.size ≤ gm := by omega
                  clear hgm
                  go_loopw [13] (fun i wr => ∃ (n : Nat) (ml : List Count), n ≤ 64 ∧ i = .int .i64 n ∧ Below w4.heap.size w4 wr ∧ Owns wr gm 45 (.slice (some ⟨gm, 0, none⟩) 64 64) ml ∧ ml.length = 64) (fun i _ => 64 - (RowKit.intOf i).toNat)
                  case atStart => exact ⟨0, _, by omega, rfl, hb4, hOm, HM64.out⟩
                  case round =>
                    clear hb4 hOm HM64
                    obtain ⟨n, ml, hn, rfl, hb4, hOm, hm64⟩ := hrel
                    by_cases hltn : n < 64
                    · have hlm : n < ml.length := by omega
                      have HM64 := Lib.hid hm64
                      clear hm64
                      go_wp2_with (fail)
                      refine (markcount_ok ((k : Int) + (N : Int)) (n : Int) _ (by omega) (by omega) (by omega) (by omega)).mono ?_
                      rintro e u ⟨rfl, hbu⟩
                      have hOu := hOm.fresh hbu
                      have hroom := room_count hOu n hlm
                      have hO5 := put_count hOu n hlm (markC ((k : Int) + (N : Int)) (n : Int))
                      have hb5 := fresh_grown (fresh_trans hb4 hbu) (setCells_eq gm (Enc.enc (markC ((k : Int) + (N : Int)) (n : Int))) (n * 33) u).1 (fun g hg => by injection hg with hg; omega)
                      have hl5 : (ml.set n (markC ((k : Int) + (N : Int)) (n : Int))).length = 64 := by rw [List.length_set]; exact HM64.out
                      have HL5 := Lib.hid hl5
                      clear hl5
                      clear hb4 hbu hOm hOu HM64
                      go_wp2_with (first
                        | (refine st_val rfl (elem0_count rfl rfl rfl hltn) ?_)
                        | (refine st_skip rfl (store_count rfl rfl (markC ((k : Int) + (N : Int)) (n : Int)) rfl ?_) ?_; (with_reducible exact hroom)))
                      go_roundw
                      case rel => exact ⟨n + 1, _, by omega, by go_num, hb5, hO5, HL5.out⟩
                      case measure => simp [RowKit.intOf]; omega
                    · have hF5 := hF4.fresh hb4
                      have hOV := hF5.two.own k hlt
                      have hval := sl_val hOV
                      rw [HLK.out, marks_length] at hval
                      have hcell : wr.cell? ⟨gl, k, none⟩ = some (.slice (V k).A (ns k) (V k).c) := by rw [← hval]; exact ls_cell hF5.ls HVK.out
                      rw [hval] at hOV
                      obtain ⟨Am, cm, hvm, hRm, -⟩ := hOm.shape
                      rw [hm64] at hvm
                      simp only [Value.slice.injEq, true_and] at hvm
                      obtain ⟨rfl, rfl⟩ := hvm
                      have hmne : ml ≠ [] := by intro e; rw [e] at hm64; simp at hm64
                      have hbig : ((L1 k).length + ml.length) * 40 ≤ 140737488355328 := by rw [HLK.out, marks_length, hm64]; omega
                      have hsz : base ≤ wr.heap.size := by have := hF5.size; omega
                      clear hF4 hb4 hOm
                      have HM64 := Lib.hid hm64
                      clear hm64
                      have HVAL := Lib.hid hval
                      clear hval
                      have HBIG := Lib.hid hbig
                      clear hbig
                      go_wp2_with (first
                        | (refine st_val rfl (run_elem1 30 25 _ _ rfl Try.underlying30 sl_count rfl k rfl hlt) ?_)
                        | (refine st_val rfl (run_load1 25 _ rfl rfl ?_ _ Try.underlying25 rfl) ?_; (with_reducible exact hcell))
                        | (at_builtin; refine st_app2 base rfl _ _ 25 45 rfl Try.underlying25 (agg (Count.zero : Count)) rfl _ info45 (by decide) (.slice (V k).A (ns k) (V k).c) (L1 k) ml (A := some ⟨gm, 0, none⟩) (c := 64) rfl (by rw [HM64.out]; rfl) hOV hRm hmne HBIG.out hsz (fun v' w' hO' hA' => ?_);
                           obtain ⟨s', rfl⟩ := sl_of hO';
                           rw [← HVAL.out] at hA';
                           have hF6 := hF5.regrow (by decide) k hlt (s' := s') hO' hA';
                           have hA6 := hA4.step (news := ml) HLK.out;
                           have hkl : k < gsl4.length := by rw [HGL4.out]; exact hlt;
                           have hO6 := put_sl hF6.gs k hkl s';
                           have hroom := room_sl hF6.gs k hkl;
                           have hF7 := hF6.gsset (by decide) hO6 rfl (setCells_eq gg (Enc.enc s') k w').1;
                           have hG7 := upd_set (s := s') HG4.out hkl;
                           have hl7 : (gsl4.set k s').length = N := (by rw [List.length_set]; exact HGL4.out);
                           have HG7 := Lib.hid hG7; clear hG7;
                           have HL7 := Lib.hid hl7; clear hl7;
                           clear hO' hA' hF5 hF6 hO6 hOV)
                        | (refine st_skip rfl (store_sl 25 _ _ rfl rfl s' rfl ?_ sl_count) ?_; (with_reducible exact hroom)))
                      go_roundw
                      case rel => exact ⟨k + 1, _, _, _, by omega, by go_num, hF7, hA6, HG7.out, HL7.out⟩
                      case measure => simp [RowKit.intOf]; omega
                · have hkn : k = N := by omega
                  rw [hkn] at hA4
                  clear hkn
                  obtain ⟨w5, hw5⟩ : ∃ w5 : World, w5 = wr := ⟨_, rfl⟩
                  subst hw5
                  have HA4 := Lib.hid hA4
                  clear hA4
                  have HG4 := Lib.hid hG4
                  clear hG4
                  clear hgl4
                  go_wp2
                  clear hk hlt
                  go_loopw [14, 15] (fun i _ wr => ∃ (k : Nat), k ≤ N ∧ i = .int .i64 k ∧ Below w5.heap.size w5 wr) (fun i _ _ => N - (RowKit.intOf i).toNat)
                  case atStart => exact ⟨0, by omega, rfl, fresh_refl _⟩
                  case round =>
                    obtain ⟨k, hk, rfl, hb5⟩ := hrel
                    by_cases hlt : k < N
                    · have hvk := HV.out k hlt
                      have hnk := HNS2.out k hlt
                      have hgk := HG4.out k hlt
                      have hLk := HL.out k hlt
                      have hAk := HA4.out k hlt
                      have hOV := hF4.two.own k hlt
                      have hOG := hF4.two.grown k hlt
                      rw [hLk] at hOV
                      have hcV := ls_cell hF4.ls hvk
                      have hcG := ls_cell hF4.gs hgk
                      have hvalV := sl_val hOV
                      rw [marks_length] at hvalV
                      have hvalG := sl_val hOG
                      rw [hvalV] at hcV
                      rw [hvalG] at hcG
                      have HAK := Lib.hid hAk
                      clear hAk
                      have HVALV := Lib.hid hvalV
                      clear hvalV
                      have HVALG := Lib.hid hvalG
                      clear hvalG
                      have HLK := Lib.hid hLk
                      clear hLk
                      clear hvk hgk
                      have hcV5 := cell_fresh hcV hb5
                      go_wp2_with (first
                        | (refine st_val rfl (run_elem1 30 25 _ _ rfl Try.underlying30 sl_count rfl k rfl hlt) ?_)
                        | (refine st_val rfl (run_load1 25 _ rfl rfl ?_ _ Try.underlying25 rfl) ?_; (with_reducible exact hcV5)))
                      clear hcV5
                      go_loopw [15] (fun i wr => ∃ (n : Nat), n ≤ ns k ∧ i = .int .i64 n ∧ Below w5.heap.size w5 wr) (fun i _ => ns k - (RowKit.intOf i).toNat)
                      case atStart => exact ⟨0, by omega, rfl, hb5⟩
                      case round =>
                        clear hb5
                        obtain ⟨n, hn, rfl, hb5⟩ := hrel
                        by_cases hltn : n < ns k
                        · have hcV5 := cell_fresh hcV hb5
                          have hVne : marks markC (k : Int) (ns k) ≠ [] := by intro e; have := congrArg List.length e; rw [marks_length] at this; simp at this; omega
                          have hmn := HAK.out n hltn
                          have hnM : n < (M4 k).length := (List.getElem?_eq_some_iff.1 hmn).1
                          have hGne : M4 k ≠ [] := by intro e; rw [e] at hnM; simp at hnM
                          have hOV2 := hOV
                          have hOG2 := hOG
                          obtain ⟨bv, capv, hvv, -, -, -⟩ := hOV.some' hVne
                          obtain ⟨bg, capg, hvg, -, -, -⟩ := hOG.some' hGne
                          have hvA : (V k).A = some ⟨bv, 0, none⟩ := by
                            simp only [Sl.val, Value.slice.injEq] at hvv
                            exact hvv.1
                          have hgA : (G4 k).A = some ⟨bg, 0, none⟩ := by
                            simp only [Sl.val, Value.slice.injEq] at hvg
                            exact hvg.1
                          rw [hvv] at hOV2
                          rw [hvg] at hOG2
                          have hrV := read_count (k := n) hOV2 (marks_at markC _ hltn)
                          have hrG := read_count (k := n) hOG2 hmn
                          have hvF : ∀ w', (∃ x : Fr wr, w' = x.1) → w'.cell? ⟨gl, k, none⟩ = some (.slice (some ⟨bv, 0, none⟩) (ns k) (V k).c) := by
                            rintro _ ⟨x, rfl⟩
                            rw [← hvA]
                            exact cell_fresh hcV (fresh_trans hb5 x.2)
                          have hsF : ∀ w', (∃ x : Fr wr, w' = x.1) → w'.rangeAt bv (n * 33) (Enc.enc (markC (k : Int) (n : Int))) := by
                            rintro _ ⟨x, rfl⟩
                            exact range_fresh hrV (fresh_trans hb5 x.2)
                          have hgF : ∀ w', (∃ x : Fr wr, w' = x.1) → w'.cell? ⟨gg, k, none⟩ = some (.slice (some ⟨bg, 0, none⟩) (M4 k).length (G4 k).c) := by
                            rintro _ ⟨x, rfl⟩
                            rw [← hgA]
                            exact cell_fresh hcG (fresh_trans hb5 x.2)
                          have hrF : ∀ w', (∃ x : Fr wr, w' = x.1) → w'.rangeAt bg (n * 33) (Enc.enc (markC (k : Int) (n : Int))) := by
                            rintro _ ⟨x, rfl⟩
                            exact range_fresh hrG (fresh_trans hb5 x.2)
                          go_wp2_with (first
                            | (refine st_val rfl (run_elem1 30 25 _ _ rfl Try.underlying30 sl_count rfl k rfl hlt) ?_)
                            | (refine st_val rfl (run_load1 25 _ rfl rfl ?_ _ Try.underlying25 rfl) ?_; (with_reducible exact hcV5)))
                          clear hcV5 hrV hrG hOV2 hOG2 hvv hvg hvA hgA hmn hVne hGne
                          have HVF := Lib.hid hvF
                          clear hvF
                          have HSF := Lib.hid hsF
                          clear hsF
                          have HGF := Lib.hid hgF
                          clear hgF
                          have HRF := Lib.hid hrF
                          clear hrF
                          refine wp_region_fresh_lit (by kernel_rfl) (by kernel_rfl) ?_
                          refine sq_val (by rfl) (fun w' _ => op_move _ ((.slice (some ⟨gl, 0, none⟩) N c)) rfl rfl) ?_
                          simp only [Act.put, List.setIfInBounds_toArray, List.set_cons_succ, List.set_cons_zero]
                          refine sq_val (by rfl) (fun w' _ => op_move _ ((.int .i64 (k : Int))) rfl rfl) ?_
                          simp only [Act.put, List.setIfInBounds_toArray, List.set_cons_succ, List.set_cons_zero]
                          refine sq_val (by rfl) (fun w' hw' => run_elem1 30 25 _ _ rfl Try.underlying30 sl_count rfl k rfl hlt) ?_
                          simp only [Act.put, List.setIfInBounds_toArray, List.set_cons_succ, List.set_cons_zero]
                          refine sq_val (by rfl) (fun w' hw' => run_load1 25 _ rfl rfl (HVF.out w' hw') _ Try.underlying25 rfl) ?_
                          simp only [Act.put, List.setIfInBounds_toArray, List.set_cons_succ, List.set_cons_zero]
                          refine sq_val (by rfl) (fun w' _ => op_move _ ((.int .i64 (n : Int))) rfl rfl) ?_
                          simp only [Act.put, List.setIfInBounds_toArray, List.set_cons_succ, List.set_cons_zero]
                          refine sq_val (by rfl) (fun w' hw' => elem0_count rfl rfl rfl hltn) ?_
                          simp only [Act.put, List.setIfInBounds_toArray, List.set_cons_succ, List.set_cons_zero]
                          refine sq_val (by rfl) (fun w' hw' => load_count rfl rfl (markC (k : Int) (n : Int)) (HSF.out w' hw')) ?_
                          simp only [Act.put, List.setIfInBounds_toArray, List.set_cons_succ, List.set_cons_zero]
                          refine sq_val (by rfl) (fun w' _ => op_move _ ((.int .i64 (k : Int))) rfl rfl) ?_
                          simp only [Act.put, List.setIfInBounds_toArray, List.set_cons_succ, List.set_cons_zero]
                          refine sq_val (by rfl) (fun w' _ => op_move _ ((.int .i64 (n : Int))) rfl rfl) ?_
                          simp only [Act.put, List.setIfInBounds_toArray, List.set_cons_succ, List.set_cons_zero]
                          refine sq_call (by rfl) 44 [.tmp 174, .tmp 175] _ rfl [.int .i64 (k : Int), .int .i64 (n : Int)] rfl enter_markcount (fr_call (fun w' hw' => markcount_ok (k : Int) (n : Int) _ (by omega) (by omega) (by omega) (by omega))) ?_
                          simp only [Act.put, List.setIfInBounds_toArray, List.set_cons_succ, List.set_cons_zero]
                          refine sq_val (by rfl) (fun w' hw' => eql_count_t rfl rfl rfl rfl) ?_
                          simp only [Act.put, List.setIfInBounds_toArray, List.set_cons_succ, List.set_cons_zero]
                          refine sq_val (by rfl) (fun w' _ => op_not _ _ true false rfl rfl rfl) ?_
                          simp only [Act.put, List.setIfInBounds_toArray, List.set_cons_succ, List.set_cons_zero]
                          refine sq_val (by rfl) (fun w' _ => op_move _ ((.bool false)) rfl rfl) ?_
                          simp only [Act.put, List.setIfInBounds_toArray, List.set_cons_succ, List.set_cons_zero]
                          refine sq_val (by rfl) (fun w' _ => op_move _ ((.slice (some ⟨gg, 0, none⟩) N N)) rfl rfl) ?_
                          simp only [Act.put, List.setIfInBounds_toArray, List.set_cons_succ, List.set_cons_zero]
                          refine sq_val (by rfl) (fun w' _ => op_move _ ((.int .i64 (k : Int))) rfl rfl) ?_
                          simp only [Act.put, List.setIfInBounds_toArray, List.set_cons_succ, List.set_cons_zero]
                          refine sq_val (by rfl) (fun w' hw' => run_elem1 30 25 _ _ rfl Try.underlying30 sl_count rfl k rfl hlt) ?_
                          simp only [Act.put, List.setIfInBounds_toArray, List.set_cons_succ, List.set_cons_zero]
                          refine sq_val (by rfl) (fun w' hw' => run_load1 25 _ rfl rfl (HGF.out w' hw') _ Try.underlying25 rfl) ?_
                          simp only [Act.put, List.setIfInBounds_toArray, List.set_cons_succ, List.set_cons_zero]
                          refine sq_val (by rfl) (fun w' _ => op_move _ ((.int .i64 (n : Int))) rfl rfl) ?_
                          simp only [Act.put, List.setIfInBounds_toArray, List.set_cons_succ, List.set_cons_zero]
                          refine sq_val (by rfl) (fun w' hw' => elem0_count rfl rfl rfl hnM) ?_
                          simp only [Act.put, List.setIfInBounds_toArray, List.set_cons_succ, List.set_cons_zero]
                          refine sq_val (by rfl) (fun w' hw' => load_count rfl rfl (markC (k : Int) (n : Int)) (HRF.out w' hw')) ?_
                          simp only [Act.put, List.setIfInBounds_toArray, List.set_cons_succ, List.set_cons_zero]
                          refine sq_val (by rfl) (fun w' _ => op_move _ ((.int .i64 (k : Int))) rfl rfl) ?_
                          simp only [Act.put, List.setIfInBounds_toArray, List.set_cons_succ, List.set_cons_zero]
                          refine sq_val (by rfl) (fun w' _ => op_move _ ((.int .i64 (n : Int))) rfl rfl) ?_
                          simp only [Act.put, List.setIfInBounds_toArray, List.set_cons_succ, List.set_cons_zero]
                          refine sq_call (by rfl) 44 [.tmp 187, .tmp 188] _ rfl [.int .i64 (k : Int), .int .i64 (n : Int)] rfl enter_markcount (fr_call (fun w' hw' => markcount_ok (k : Int) (n : Int) _ (by omega) (by omega) (by omega) (by omega))) ?_
                          simp only [Act.put, List.setIfInBounds_toArray, List.set_cons_succ, List.set_cons_zero]
                          refine sq_val (by rfl) (fun w' hw' => eql_count_t rfl rfl rfl rfl) ?_
                          simp only [Act.put, List.setIfInBounds_toArray, List.set_cons_succ, List.set_cons_zero]
                          refine sq_val (by rfl) (fun w' _ => op_not _ _ true false rfl rfl rfl) ?_
                          simp only [Act.put, List.setIfInBounds_toArray, List.set_cons_succ, List.set_cons_zero]
                          refine sq_val (by rfl) (fun w' _ => op_pick_f _ _ _ ((.bool false)) rfl rfl rfl) ?_
                          simp only [Act.put, List.setIfInBounds_toArray, List.set_cons_succ, List.set_cons_zero]
                          refine wpQuiet_nil ?_
                          rintro _ ⟨x1, rfl⟩
                          have hb6 := fresh_trans hb5 x1.2
                          clear hb5
                          go_wp2
                          go_roundw
                          case rel => exact ⟨n + 1, by omega, by go_num, hb6⟩
                          case measure => simp [RowKit.intOf]; omega
                        · have hcV5 := cell_fresh hcV hb5
                          go_wp2_with (first
                            | (refine st_val rfl (run_elem1 30 25 _ _ rfl Try.underlying30 sl_count rfl k rfl hlt) ?_)
                            | (refine st_val rfl (run_load1 25 _ rfl rfl ?_ _ Try.underlying25 rfl) ?_; (with_reducible exact hcV5)))
                          go_roundw
                          case rel => exact ⟨k + 1, by omega, by go_num, hb5⟩
                          case measure => simp [RowKit.intOf]; omega
                    · have hK := (hF4.fresh hb5).keep
                      clear hF4 hb5
                      go_wp2
                      go_ret
                      exact ⟨rfl, hK⟩
end Go.Pb
