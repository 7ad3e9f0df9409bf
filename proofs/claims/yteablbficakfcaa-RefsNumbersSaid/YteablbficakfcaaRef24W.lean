/- The document's row of counts: the walk. -/
import Derived.Test.YteablbficakfcaaAdd24
import Derived.Test.YteablbficakfcaaRefsC
import Derived.Test.YteablbficakfcaaDelta24L
import Derived.Test.YteablbficakfcaaRefsD
import Derived.Test.YteablbficakfcaaOps
set_option linter.unusedVariables false
set_option linter.unusedSimpArgs false
set_option linter.unusedSectionVars false
namespace Go.Pb
open Go.RowKit Go.Proofs Go.BigFrame

theorem sbyte_k : (Try.prog.info? 36).map (·.size) = some 1 := by kernel_rfl
theorem countRow_len (l : List Item) : (countRow l).length ≤ l.length := by
  have hs : ∀ k, k ≤ l.length → (countRow (l.take k)).length ≤ k := by
    intro k
    induction k with
    | zero => intro _; simp [countRow]
    | succ k ih =>
      intro hk
      rw [countRow_take l k (by omega)]
      split
      · have := addC_len (countRow (l.take k)) (l[k]'(by omega)).slice.key 1
        have := ih (by omega)
        omega
      · have := ih (by omega)
        omega
  have := hs l.length (Nat.le_refl _)
  rwa [List.take_length] at this
theorem eq2_f {k : UInt8} (h : k ≠ 2) : ((k.toNat : Int) == 2) = false := by
  have : ¬ (k.toNat : Int) = 2 := fun e => h ((u8_two k).1 e)
  simpa using this
set_option maxHeartbeats 1000000 in
theorem count24r_ok (A : Option Addr) (c : Nat) (l : List Item) (w : World) (hA : Reads w A l) (hlen : l.length ≤ 100000) : Calls Try.prog 15 #[.slice A l.length c] w fun e w' =>
      ∃ v, e = .returned v ∧ Owns w' w.heap.size 45 v (countRow l) ∧ Below w.heap.size w w' := by
  have hO0 : Owns w w.heap.size 45 (.slice none 0 0) (countRow (l.take 0)) := by rw [List.take_zero]; exact Owns.nil _ _ _
  go_enter Try.func15, Try.ntmps15
  go_wp2
  go_loopw [3, 4] (fun v i wr => ∃ (k : Nat), k ≤ l.length ∧ i = .int .i64 k ∧ Owns wr w.heap.size 45 v (countRow (l.take k)) ∧ Below w.heap.size w wr) (fun _ i _ => l.length - (RowKit.intOf i).toNat)
  case atStart => exact ⟨0, by omega, rfl, hO0, fresh_refl w⟩
  case round =>
    clear hO0
    obtain ⟨k, hk, rfl, hO, hb⟩ := hrel
    by_cases hlt : k < l.length
    · obtain ⟨b1, o1, rfl, hr1⟩ := hA.at_n hlt 73 rfl
      have hr2 := range_fresh hr1 hb
      have htk := countRow_take l k hlt
      have hcl : (countRow (l.take k)).length ≤ 1000000 := by have := countRow_len (l.take k); rw [List.length_take] at this; omega
      have hkc : wr.cell? ⟨b1, o1 + k * 73, none⟩ = some (.int .u8 ((l[k]'hlt).kind.toNat : Int)) := by have := hr2 0 _ rfl; rwa [Nat.add_zero] at this
      have hkey := item_sliceKeyAt hr2
      have hsz := hb.size
      generalize hi : l[k]'hlt = i at hr1 hr2 htk hkc hkey
      have HI := Lib.hid hi
      clear hi
      clear hr1 hr2
      by_cases hkd : i.kind = 2
      · rw [if_pos hkd] at htk
        have hkc2 : wr.cell? ⟨b1, o1 + k * 73, none⟩ = some (.int .u8 2) := by rw [hkc, (u8_two _).2 hkd]
        clear hkc
        have HKD := Lib.hid hkd
        clear hkd
        have HTK := Lib.hid htk
        clear htk
        go_wp2_with (first
          | (refine st_val rfl (elem_item rfl rfl rfl hlt) ?_)
          | (refine st_val rfl (run_faddr 42 _ 0 rfl rfl _ Try.underlying42 0 _ rfl rfl 0 sbyte_k) ?_)
          | (refine st_val rfl (run_faddr 42 _ 5 rfl rfl _ Try.underlying42 39 _ rfl rfl 33 s40) ?_)
          | (refine st_val rfl (run_faddr 40 _ 0 rfl rfl _ Try.underlying40 0 _ rfl rfl 31 s35) ?_)
          | (refine st_val rfl (load_key rfl rfl i.slice.key ?_) ?_; (with_reducible exact hkey)))
        refine (add24_ok w.heap.size _ (countRow (l.take k)) i.slice.key 1 wr hO hsz hcl).mono ?_
        rintro e u ⟨v', rfl, hO', hg'⟩
        rw [← HTK.out] at hO'
        have hb' := fresh_own hb hO hg' (Nat.le_refl _)
        clear hO hb hg' hkey hkc2
        go_wp2
        go_roundw
        case rel => exact ⟨k + 1, by omega, by go_num, hO', hb'⟩
        case measure => simp [RowKit.intOf]; omega
      · rw [if_neg hkd] at htk
        have heq2 := eq2_f hkd
        have HKD := Lib.hid hkd
        clear hkd
        have HTK := Lib.hid htk
        clear htk
        go_wp2_with (first
          | (refine st_val rfl (elem_item rfl rfl rfl hlt) ?_)
          | (refine st_val rfl (run_faddr 42 _ 0 rfl rfl _ Try.underlying42 0 _ rfl rfl 0 sbyte_k) ?_))
        go_roundw
        case rel => exact ⟨k + 1, by omega, by go_num, by rw [HTK.out]; exact hO, hb⟩
        case measure => simp [RowKit.intOf]; omega
    · have hkl : l.take k = l := List.take_of_length_le (by omega)
      rw [hkl] at hO
      have HKL := Lib.hid hkl
      clear hkl
      go_wp2
      go_ret
      exact ⟨_, rfl, hO, hb⟩
end Go.Pb
set_option linter.unusedVariables false
set_option linter.unusedSimpArgs false
set_option linter.unusedSectionVars false
namespace Go.Pb
open Go.RowKit Go.Proofs Go.BigFrame

theorem op_neg24 {P : Program} {o : Oper} {ρ : Operand → Value} {w : World} (t : TypeId) (x : Operand) (a r : Int) (ho : o.op = .unOp .neg t x) (ht : P.underlying t = some (.int .i64)) (hx : ρ x = .int .i64 a) (h : wrap64 (-a) = r) : (execOp ρ o).run P w = .ok (.value (.int .i64 r)) w := by
  subst h
  rw [← wrap_eq]
  unfold execOp
  simp [ho, hx, go_sem, ht]
theorem enter_add24 (args : Array Value) (w : World) : (callFunc 41 args).run Try.prog w = .ok (.enter 41 args) w := run_enter Try.func41 (by kernel_rfl) rfl args w
theorem downRow_len (a : List Count) : ∀ L, (downRow L a).length ≤ L.length + a.length := by
  induction a with
  | nil => intro L; simp [downRow]
  | cons c a ih =>
    intro L
    have h1 := ih (addC L c.key (wrap64 (-c.refs)))
    have h2 := addC_len L c.key (wrap64 (-c.refs))
    simp only [List.length_cons]
    show (downRow (addC L c.key (wrap64 (-c.refs))) a).length ≤ _
    omega
theorem upRow_len (a : List Count) : ∀ L, (upRow L a).length ≤ L.length + a.length := by
  induction a with
  | nil => intro L; simp [upRow]
  | cons c a ih =>
    intro L
    have h1 := ih (addC L c.key c.refs)
    have h2 := addC_len L c.key c.refs
    simp only [List.length_cons]
    show (upRow (addC L c.key c.refs) a).length ≤ _
    omega
theorem ne0_f {r : Int} (h : r = 0) : (r != 0) = false := by simp [h]
theorem ne0_t {r : Int} (h : r ≠ 0) : (r != 0) = true := by simpa using h
theorem filter_take_t {L : List Count} {k : Nat} (hk : k < L.length) (h : L[k].refs ≠ 0) : (L.take (k + 1)).filter (fun c => !decide (c.refs = 0)) = (L.take k).filter (fun c => !decide (c.refs = 0)) ++ [L[k]] := by
  rw [List.take_succ_eq_append_getElem hk, List.filter_append]
  simp [h]
theorem filter_take_f {L : List Count} {k : Nat} (hk : k < L.length) (h : L[k].refs = 0) : (L.take (k + 1)).filter (fun c => !decide (c.refs = 0)) = (L.take k).filter (fun c => !decide (c.refs = 0)) := by
  rw [List.take_succ_eq_append_getElem hk, List.filter_append]
  simp [h]
set_option maxHeartbeats 4000000 in
theorem delta24r_ok (A B : Option Addr) (c cb : Nat) (la lb : List Count) (w : World) (hA : Reads w A la) (hB : Reads w B lb) (hla : la.length ≤ 100000) (hlb : lb.length ≤ 100000) : Calls Try.prog 20 #[.slice A la.length c, .slice B lb.length cb] w fun e w' =>
      ∃ v, e = .returned v ∧ Owns w' w.heap.size 45 v (deltaRow la lb) ∧ Below w.heap.size w w' := by
  have hO0 : Owns w w.heap.size 45 (.slice none 0 0) (downRow [] (la.take 0)) := by rw [List.take_zero]; exact Owns.nil _ _ _
  go_enter Try.func20, Try.ntmps20
  go_wp2
  go_loopw [5, 6] (fun v i wr => ∃ (k : Nat) (v0 : Value), k ≤ la.length ∧ i = .int .i64 k ∧ v0 = v ∧ Owns wr w.heap.size 45 v (downRow [] (la.take k)) ∧ Below w.heap.size w wr) (fun _ i _ => la.length - (RowKit.intOf i).toNat)
  case atStart => exact ⟨0, _, by omega, rfl, rfl, hO0, fresh_refl w⟩
  case round =>
    clear hO0
    obtain ⟨k, v, hk, rfl, rfl, hO, hb⟩ := hrel
    by_cases hlt : k < la.length
    · have htk := downRow_take [] la k hlt
      have hcl : (downRow [] (la.take k)).length ≤ 1000000 := by have := downRow_len (la.take k) []; rw [List.length_take] at this; simp at this; omega
      obtain ⟨b1, o1, rfl, hr1⟩ := hA.at_n hlt 33 rfl
      have hb1 : b1 < w.heap.size := range_lt hr1 (by
        intro e
        have := congrArg List.length e
        rw [Enc.len] at this
        exact absurd this (by decide))
      have hr2 := range_fresh hr1 hb
      have hsz := hb.size
      have hvb : ∀ j, v.ownBlock = some j → w.heap.size ≤ j := fun j hj => (hO.block j hj).1
      have hne : some b1 ≠ v.ownBlock := fun e => by have := hvb b1 e.symm; omega
      have hkA := count_keyAt hr2
      have hnA := count_refsAt hr2
      generalize hi : la[k]'hlt = i at hr1 hr2 htk hkA hnA
      have HI := Lib.hid hi
      clear hi
      clear hr1
      have hS0 : wr.grownBy wr.drew v.ownBlock := grown_of_fresh (fresh_drew (fresh_refl wr)) _
      have hkF : ∀ w', wr.grownBy w' v.ownBlock → w'.rangeAt b1 (o1 + k * 33 + 0) (Enc.enc i.key) := fun w' hw => count_keyAt (range_grown hr2 hw hne)
      have hnF : ∀ w', wr.grownBy w' v.ownBlock → w'.cell? ⟨b1, o1 + k * 33 + 32, none⟩ = some (.int .i64 i.refs) := fun w' hw => count_refsAt (range_grown hr2 hw hne)
      clear hr2 hkA hnA
      have HKF := Lib.hid hkF
      clear hkF
      have HNF := Lib.hid hnF
      clear hnF
      have HTK := Lib.hid htk
      clear htk
      have HNE := Lib.hid hne
      clear hne
      have HVB := Lib.hid hvb
      clear hvb
      go_wp2
      have hcon := add24_ok w.heap.size v (downRow [] (la.take k)) i.key (wrap64 (-i.refs)) wr.drew (hO.fresh (fresh_drew (fresh_refl wr))) hsz hcl
      have HCON := Lib.hid hcon
      clear hcon
      refine held_lit (fun w' => wr.grownBy w' v.ownBlock) 14 rfl (by kernel_rfl) ?_
      refine hl_take 0 rfl (by kernel_rfl) (by rfl) (fun w' hw' => op_move _ (v) rfl rfl) hS0 (fun _ _ _ h => h) ?_
      simp only [Act.put, List.setIfInBounds_toArray, List.set_cons_succ, List.set_cons_zero]
      refine hl_take 1 rfl (by kernel_rfl) (by rfl) (fun w' hw' => op_move _ (.slice (some ⟨b1, o1, none⟩) la.length c) rfl rfl) hS0 (fun _ _ _ h => h) ?_
      simp only [Act.put, List.setIfInBounds_toArray, List.set_cons_succ, List.set_cons_zero]
      refine hl_take 2 rfl (by kernel_rfl) (by rfl) (fun w' hw' => op_move _ (.int .i64 (k : Int)) rfl rfl) hS0 (fun _ _ _ h => h) ?_
      simp only [Act.put, List.setIfInBounds_toArray, List.set_cons_succ, List.set_cons_zero]
      refine hl_take 3 rfl (by kernel_rfl) (by rfl) (fun w' hw' => elem_count rfl rfl rfl hlt) hS0 (fun _ _ _ h => h) ?_
      simp only [Act.put, List.setIfInBounds_toArray, List.set_cons_succ, List.set_cons_zero]
      refine hl_take 4 rfl (by kernel_rfl) (by rfl) (fun w' hw' => run_faddr 45 _ 0 rfl rfl _ Try.underlying45 0 _ rfl rfl 31 s35) hS0 (fun _ _ _ h => h) ?_
      simp only [Act.put, List.setIfInBounds_toArray, List.set_cons_succ, List.set_cons_zero]
      refine hl_take 5 rfl (by kernel_rfl) (by rfl) (fun w' hw' => load_key rfl rfl i.key (HKF.out w' hw')) hS0 (fun _ _ _ h => h) ?_
      simp only [Act.put, List.setIfInBounds_toArray, List.set_cons_succ, List.set_cons_zero]
      refine hl_take 6 rfl (by kernel_rfl) (by rfl) (fun w' hw' => op_move _ (.slice (some ⟨b1, o1, none⟩) la.length c) rfl rfl) hS0 (fun _ _ _ h => h) ?_
      simp only [Act.put, List.setIfInBounds_toArray, List.set_cons_succ, List.set_cons_zero]
      refine hl_take 7 rfl (by kernel_rfl) (by rfl) (fun w' hw' => op_move _ (.int .i64 (k : Int)) rfl rfl) hS0 (fun _ _ _ h => h) ?_
      simp only [Act.put, List.setIfInBounds_toArray, List.set_cons_succ, List.set_cons_zero]
      refine hl_take 8 rfl (by kernel_rfl) (by rfl) (fun w' hw' => elem_count rfl rfl rfl hlt) hS0 (fun _ _ _ h => h) ?_
      simp only [Act.put, List.setIfInBounds_toArray, List.set_cons_succ, List.set_cons_zero]
      refine hl_take 9 rfl (by kernel_rfl) (by rfl) (fun w' hw' => run_faddr 45 _ 1 rfl rfl _ Try.underlying45 32 _ rfl rfl 0 sint') hS0 (fun _ _ _ h => h) ?_
      simp only [Act.put, List.setIfInBounds_toArray, List.set_cons_succ, List.set_cons_zero]
      refine hl_take 10 rfl (by kernel_rfl) (by rfl) (fun w' hw' => run_load1 3 _ rfl rfl (HNF.out w' hw') _ Try.underlying3 rfl) hS0 (fun _ _ _ h => h) ?_
      simp only [Act.put, List.setIfInBounds_toArray, List.set_cons_succ, List.set_cons_zero]
      refine hl_take 11 rfl (by kernel_rfl) (by rfl) (fun w' hw' => op_neg24 _ _ i.refs _ rfl Try.underlying3 rfl rfl) hS0 (fun _ _ _ h => h) ?_
      simp only [Act.put, List.setIfInBounds_toArray, List.set_cons_succ, List.set_cons_zero]
      refine hl_one 12 (by kernel_rfl) (hs_call rfl (by rfl) 41 [.tmp 16, .tmp 21, .tmp 27] _ rfl [v, agg i.key, .int .i64 (wrap64 (-i.refs))] rfl enter_add24 (HCON.out) (fun e u he => ?_))
      obtain ⟨v', rfl, hO', hg'⟩ := he
      refine ⟨_, rfl, hS0.trans hg', ?_⟩
      simp only [Act.put, List.setIfInBounds_toArray, List.set_cons_succ, List.set_cons_zero]
      refine hl_take 13 rfl (by kernel_rfl) (by rfl) (fun w' hw' => op_assign _ v' rfl rfl) (hS0.trans hg') (fun _ _ _ h => h) ?_
      simp only [Act.put, List.setIfInBounds_toArray, List.set_cons_succ, List.set_cons_zero]
      refine hl_done (by kernel_rfl) ?_
      rw [← HTK.out] at hO'
      have hb' := fresh_own (fresh_drew hb) (hO.fresh (fresh_drew (fresh_refl wr))) hg' (Nat.le_refl _)
      clear hO hb hg' hS0
      go_wp2
      go_roundw
      case rel => exact ⟨k + 1, v', by omega, by go_num, rfl, hO', hb'⟩
      case measure => simp [RowKit.intOf]; omega
    · have hkl : la.take k = la := List.take_of_length_le (by omega)
      rw [hkl] at hO
      have hdl : (downRow [] la).length ≤ la.length := by have := downRow_len la []; simpa using this
      have hO1 : Owns wr w.heap.size 45 v (upRow (downRow [] la) (lb.take 0)) := by rw [List.take_zero]; exact hO
      have HKL := Lib.hid hkl
      clear hkl
      clear hO
      go_wp2
      clear hlt hk
      go_loopw [5, 7] (fun v i wr => ∃ (k : Nat) (v0 : Value), k ≤ lb.length ∧ i = .int .i64 k ∧ v0 = v ∧ Owns wr w.heap.size 45 v (upRow (downRow [] la) (lb.take k)) ∧ Below w.heap.size w wr) (fun _ i _ => lb.length - (RowKit.intOf i).toNat)
      case atStart => exact ⟨0, _, by omega, rfl, rfl, hO1, hb⟩
      case round =>
        clear hO1 hb
        obtain ⟨k, v, hk, rfl, rfl, hO, hb⟩ := hrel
        by_cases hlt : k < lb.length
        · have htk := upRow_take (downRow [] la) lb k hlt
          have hcl : (upRow (downRow [] la) (lb.take k)).length ≤ 1000000 := by have := upRow_len (lb.take k) (downRow [] la); rw [List.length_take] at this; omega
          obtain ⟨b1, o1, rfl, hr1⟩ := hB.at_n hlt 33 rfl
          have hb1 : b1 < w.heap.size := range_lt hr1 (by
            intro e
            have := congrArg List.length e
            rw [Enc.len] at this
            exact absurd this (by decide))
          have hr2 := range_fresh hr1 hb
          have hsz := hb.size
          have hvb : ∀ j, v.ownBlock = some j → w.heap.size ≤ j := fun j hj => (hO.block j hj).1
          have hne : some b1 ≠ v.ownBlock := fun e => by have := hvb b1 e.symm; omega
          have hkA := count_keyAt hr2
          have hnA := count_refsAt hr2
          generalize hi : lb[k]'hlt = i at hr1 hr2 htk hkA hnA
          have HI := Lib.hid hi
          clear hi
          clear hr1
          have hS0 : wr.grownBy wr.drew v.ownBlock := grown_of_fresh (fresh_drew (fresh_refl wr)) _
          have hkF : ∀ w', wr.grownBy w' v.ownBlock → w'.rangeAt b1 (o1 + k * 33 + 0) (Enc.enc i.key) := fun w' hw => count_keyAt (range_grown hr2 hw hne)
          have hnF : ∀ w', wr.grownBy w' v.ownBlock → w'.cell? ⟨b1, o1 + k * 33 + 32, none⟩ = some (.int .i64 i.refs) := fun w' hw => count_refsAt (range_grown hr2 hw hne)
          clear hr2 hkA hnA
          have HKF := Lib.hid hkF
          clear hkF
          have HNF := Lib.hid hnF
          clear hnF
          have HTK := Lib.hid htk
          clear htk
          have HNE := Lib.hid hne
          clear hne
          have HVB := Lib.hid hvb
          clear hvb
          go_wp2
          have hcon := add24_ok w.heap.size v (upRow (downRow [] la) (lb.take k)) i.key i.refs wr.drew (hO.fresh (fresh_drew (fresh_refl wr))) hsz hcl
          have HCON := Lib.hid hcon
          clear hcon
          refine held_lit (fun w' => wr.grownBy w' v.ownBlock) 13 rfl (by kernel_rfl) ?_
          refine hl_take 0 rfl (by kernel_rfl) (by rfl) (fun w' hw' => op_move _ (v) rfl rfl) hS0 (fun _ _ _ h => h) ?_
          simp only [Act.put, List.setIfInBounds_toArray, List.set_cons_succ, List.set_cons_zero]
          refine hl_take 1 rfl (by kernel_rfl) (by rfl) (fun w' hw' => op_move _ (.slice (some ⟨b1, o1, none⟩) lb.length cb) rfl rfl) hS0 (fun _ _ _ h => h) ?_
          simp only [Act.put, List.setIfInBounds_toArray, List.set_cons_succ, List.set_cons_zero]
          refine hl_take 2 rfl (by kernel_rfl) (by rfl) (fun w' hw' => op_move _ (.int .i64 (k : Int)) rfl rfl) hS0 (fun _ _ _ h => h) ?_
          simp only [Act.put, List.setIfInBounds_toArray, List.set_cons_succ, List.set_cons_zero]
          refine hl_take 3 rfl (by kernel_rfl) (by rfl) (fun w' hw' => elem_count rfl rfl rfl hlt) hS0 (fun _ _ _ h => h) ?_
          simp only [Act.put, List.setIfInBounds_toArray, List.set_cons_succ, List.set_cons_zero]
          refine hl_take 4 rfl (by kernel_rfl) (by rfl) (fun w' hw' => run_faddr 45 _ 0 rfl rfl _ Try.underlying45 0 _ rfl rfl 31 s35) hS0 (fun _ _ _ h => h) ?_
          simp only [Act.put, List.setIfInBounds_toArray, List.set_cons_succ, List.set_cons_zero]
          refine hl_take 5 rfl (by kernel_rfl) (by rfl) (fun w' hw' => load_key rfl rfl i.key (HKF.out w' hw')) hS0 (fun _ _ _ h => h) ?_
          simp only [Act.put, List.setIfInBounds_toArray, List.set_cons_succ, List.set_cons_zero]
          refine hl_take 6 rfl (by kernel_rfl) (by rfl) (fun w' hw' => op_move _ (.slice (some ⟨b1, o1, none⟩) lb.length cb) rfl rfl) hS0 (fun _ _ _ h => h) ?_
          simp only [Act.put, List.setIfInBounds_toArray, List.set_cons_succ, List.set_cons_zero]
          refine hl_take 7 rfl (by kernel_rfl) (by rfl) (fun w' hw' => op_move _ (.int .i64 (k : Int)) rfl rfl) hS0 (fun _ _ _ h => h) ?_
          simp only [Act.put, List.setIfInBounds_toArray, List.set_cons_succ, List.set_cons_zero]
          refine hl_take 8 rfl (by kernel_rfl) (by rfl) (fun w' hw' => elem_count rfl rfl rfl hlt) hS0 (fun _ _ _ h => h) ?_
          simp only [Act.put, List.setIfInBounds_toArray, List.set_cons_succ, List.set_cons_zero]
          refine hl_take 9 rfl (by kernel_rfl) (by rfl) (fun w' hw' => run_faddr 45 _ 1 rfl rfl _ Try.underlying45 32 _ rfl rfl 0 sint') hS0 (fun _ _ _ h => h) ?_
          simp only [Act.put, List.setIfInBounds_toArray, List.set_cons_succ, List.set_cons_zero]
          refine hl_take 10 rfl (by kernel_rfl) (by rfl) (fun w' hw' => run_load1 3 _ rfl rfl (HNF.out w' hw') _ Try.underlying3 rfl) hS0 (fun _ _ _ h => h) ?_
          simp only [Act.put, List.setIfInBounds_toArray, List.set_cons_succ, List.set_cons_zero]
          refine hl_one 11 (by kernel_rfl) (hs_call rfl (by rfl) 41 [.tmp 35, .tmp 40, .tmp 45] _ rfl [v, agg i.key, .int .i64 i.refs] rfl enter_add24 (HCON.out) (fun e u he => ?_))
          obtain ⟨v', rfl, hO', hg'⟩ := he
          refine ⟨_, rfl, hS0.trans hg', ?_⟩
          simp only [Act.put, List.setIfInBounds_toArray, List.set_cons_succ, List.set_cons_zero]
          refine hl_take 12 rfl (by kernel_rfl) (by rfl) (fun w' hw' => op_assign _ v' rfl rfl) (hS0.trans hg') (fun _ _ _ h => h) ?_
          simp only [Act.put, List.setIfInBounds_toArray, List.set_cons_succ, List.set_cons_zero]
          refine hl_done (by kernel_rfl) ?_
          rw [← HTK.out] at hO'
          have hb' := fresh_own (fresh_drew hb) (hO.fresh (fresh_drew (fresh_refl wr))) hg' (Nat.le_refl _)
          clear hO hb hg' hS0
          go_wp2
          go_roundw
          case rel => exact ⟨k + 1, v', by omega, by go_num, rfl, hO', hb'⟩
          case measure => simp [RowKit.intOf]; omega
        · have hkl : lb.take k = lb := List.take_of_length_le (by omega)
          rw [hkl] at hO
          have hul : (upRow (downRow [] la) lb).length ≤ 200000 := by have := upRow_len lb (downRow [] la); omega
          have hdr : deltaRow la lb = (upRow (downRow [] la) lb).filter (fun c => !decide (c.refs = 0)) := rfl
          generalize upRow (downRow [] la) lb = M at hO hul hdr
          have hO2 : Owns wr wr.heap.size 45 (.slice none 0 0) ((M.take 0).filter (fun c => !decide (c.refs = 0))) := by rw [List.take_zero]; exact Owns.nil _ _ _
          obtain ⟨AM, cM, rfl, hM, -⟩ := hO.shape
          obtain ⟨w3, hw3⟩ : ∃ w3 : World, w3 = wr := ⟨_, rfl⟩
          subst hw3
          have HKL := Lib.hid hkl
          clear hkl
          have HDR := Lib.hid hdr
          clear hdr
          clear hO
          go_wp2
          clear hlt hk
          go_loopw [8, 9] (fun v i wr => ∃ (k : Nat) (v0 : Value), k ≤ M.length ∧ i = .int .i64 k ∧ v0 = v ∧ Owns wr w3.heap.size 45 v ((M.take k).filter (fun c => !decide (c.refs = 0))) ∧ Below w3.heap.size w3 wr) (fun _ i _ => M.length - (RowKit.intOf i).toNat)
          case atStart => exact ⟨0, _, by omega, rfl, rfl, hO2, fresh_refl w3⟩
          case round =>
            clear hO2
            obtain ⟨k, v, hk, rfl, rfl, hO, hb3⟩ := hrel
            by_cases hlt : k < M.length
            · obtain ⟨b1, o1, rfl, hr1⟩ := hM.at_n hlt 33 rfl
              have hr2 := range_fresh hr1 hb3
              have hrc := count_refsAt hr2
              by_cases hr0 : (M[k]'hlt).refs = 0
              · have hft := filter_take_f hlt hr0
                rw [hr0] at hrc
                have HFT := Lib.hid hft
                clear hft
                have HR0 := Lib.hid hr0
                clear hr0
                go_wp2_with (first
                  | (refine st_val rfl (elem_count rfl rfl rfl hlt) ?_)
                  | (refine st_val rfl (run_faddr 45 _ 1 rfl rfl _ Try.underlying45 32 _ rfl rfl 0 sint') ?_)
                  | (refine st_val rfl (run_load1 3 _ rfl rfl ?_ _ Try.underlying3 rfl) ?_; (with_reducible exact hrc)))
                go_roundw
                case rel => exact ⟨k + 1, v, by omega, by go_num, rfl, by rw [HFT.out]; exact hO, hb3⟩
                case measure => simp [RowKit.intOf]; omega
              · have hft := filter_take_t hlt hr0
                have hn0 := ne0_t hr0
                have hfl : ((M.take k).filter (fun c => !decide (c.refs = 0))).length ≤ 200000 := Nat.le_trans (List.length_filter_le _ _) (by rw [List.length_take]; omega)
                have hbig : (((M.take k).filter (fun c => !decide (c.refs = 0))).length + 1) * 40 ≤ 140737488355328 := by omega
                have hsz := hb3.size
                generalize (M.take k).filter (fun c => !decide (c.refs = 0)) = F at hO hft hfl hbig
                generalize hi : M[k]'hlt = i at hr2 hrc hft hn0
                have HFT := Lib.hid hft
                clear hft
                have HR0 := Lib.hid hr0
                clear hr0
                have HI := Lib.hid hi
                clear hi
                go_wp2_with (first
                  | (refine st_val rfl (elem_count rfl rfl rfl hlt) ?_)
                  | (refine st_val rfl (run_faddr 45 _ 1 rfl rfl _ Try.underlying45 32 _ rfl rfl 0 sint') ?_)
                  | (refine st_val rfl (run_load1 3 _ rfl rfl ?_ _ Try.underlying3 rfl) ?_; (with_reducible exact hrc))
                  | (refine st_val rfl (load_count rfl rfl i ?_) ?_; (with_reducible exact hr2))
                  | (refine st_val rfl (run_row1 25 45 _ rfl Try.underlying25 Count.zero i 40 info45 rfl (by decide)) ?_)
                  | (at_builtin; refine st_push w3.heap.size rfl _ _ 25 45 rfl Try.underlying25 Count.zero 40 info45 (by decide) v F i rfl rfl hO hbig hsz (fun v1 w1 hO1 hg1 hat1 => ?_)))
                have hb4 := fresh_own hb3 hO hg1 (Nat.le_refl _)
                rw [← HFT.out] at hO1
                clear hO hb3 hg1 hr2 hrc
                go_roundw
                case rel => exact ⟨k + 1, v1, by omega, by go_num, rfl, hO1, hb4⟩
                case measure => simp [RowKit.intOf]; omega
            · have hkl : M.take k = M := List.take_of_length_le (by omega)
              rw [hkl, ← HDR.out] at hO
              have HKL2 := Lib.hid hkl
              clear hkl
              go_wp2
              go_ret
              exact ⟨_, rfl, hO.lower hb.size, fresh_trans hb hb3⟩
end Go.Pb
