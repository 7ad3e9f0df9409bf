/- How many want each key: Delta. -/
import Derived.Test.YteablbficakfcaaRefsC
set_option linter.unusedVariables false
set_option linter.unusedSimpArgs false
set_option linter.unusedSectionVars false
namespace Go.Pb
open Go.RowKit Go.Proofs Go.BigFrame

def downMap (m : List (Key × Int)) (a : List Count) : List (Key × Int) := a.foldl (fun m c => drop_ m c.key c.refs) m
def upMap (m : List (Key × Int)) (a : List Count) : List (Key × Int) := a.foldl (fun m c => bump m c.key c.refs) m
theorem deltaMap_eq (a b : List Count) : deltaMap a b = upMap (downMap [] a) b := rfl
def dnext (m : List (Key × Int)) (i : Count) : Int := wrap64 ((look m i.key).getD 0 - i.refs)
def unext (m : List (Key × Int)) (i : Count) : Int := wrap64 ((look m i.key).getD 0 + i.refs)
theorem downMap_take (m : List (Key × Int)) (l : List Count) (k : Nat) (h : k < l.length) : downMap m (l.take (k + 1)) = drop_ (downMap m (l.take k)) l[k].key l[k].refs := by
  unfold downMap
  rw [List.take_succ_eq_append_getElem h, List.foldl_append]
  rfl
theorem upMap_take (m : List (Key × Int)) (l : List Count) (k : Nat) (h : k < l.length) : upMap m (l.take (k + 1)) = bump (upMap m (l.take k)) l[k].key l[k].refs := by
  unfold upMap
  rw [List.take_succ_eq_append_getElem h, List.foldl_append]
  rfl
theorem downMap_len (l : List Count) : ∀ m, (downMap m l).length ≤ m.length + l.length := by
  induction l with
  | nil => intro m; simp [downMap]
  | cons i l ih =>
    intro m
    have h1 := ih (drop_ m i.key i.refs)
    have h2 := put_len_le m i.key (wrap64 ((look m i.key).getD 0 - i.refs))
    simp only [downMap, List.foldl_cons, List.length_cons] at h1 ⊢
    simp only [drop_] at h1 ⊢
    omega
theorem upMap_len (l : List Count) : ∀ m, (upMap m l).length ≤ m.length + l.length := by
  induction l with
  | nil => intro m; simp [upMap]
  | cons i l ih =>
    intro m
    have h1 := ih (bump m i.key i.refs)
    have h2 := put_len_le m i.key (wrap64 ((look m i.key).getD 0 + i.refs))
    simp only [upMap, List.foldl_cons, List.length_cons] at h1 ⊢
    simp only [bump] at h1 ⊢
    omega

theorem sint' : (Try.prog.info? 3).map (·.size) = some 1 := by kernel_rfl
set_option maxRecDepth 8000 in
set_option maxHeartbeats 2000000 in
theorem delta_ok (A B : Option Addr) (c cb : Nat) (l lb : List Count) (w : World) (hA : Reads w A l) (hB : Reads w B lb) (hlen : l.length ≤ 400000) (hlenb : lb.length ≤ 400000) : Calls Try.prog 19 #[.slice A l.length c, .slice B lb.length cb] w fun e w' =>
      ∃ v L, e = .returned v ∧ Owns w' w.heap.size 45 v L ∧ TellsC ((deltaMap l lb).filter nzB) L ∧ Below w.heap.size w w' := by
  go_enter Try.func19, Try.ntmps19
  go_wp2_with (refine st_val rfl (op_makeMap 73 rfl) ?_)
  have hM0 := MapIs.made w keyV numV
  have hbw : Below w.heap.size w (w.alloc (.map #[] 0)) := fresh_alloc (fresh_refl w) _
  have hs1 : w.heap.size < (w.alloc (.map #[] 0)).heap.size := by simp
  generalize w.alloc (.map #[] 0) = w1 at hM0 hbw hs1 ⊢
  generalize hbm : w.heap.size = bm at hM0 hs1 ⊢
  go_loopw [13] (fun i wr => ∃ (k : Nat), k ≤ l.length ∧ i = .int .i64 k ∧ MapIs wr bm keyV numV (downMap [] (l.take k)) ∧ Below bm w wr) (fun i _ => l.length - (RowKit.intOf i).toNat)
  case atStart => exact ⟨0, by omega, rfl, hM0, hbm ▸ hbw⟩
  case round =>
    obtain ⟨k, hk, rfl, hM, hbr⟩ := hrel
    have hbr' : Below w.heap.size w wr := hbm ▸ hbr
    by_cases hlt : k < l.length
    · obtain ⟨b1, o1, rfl, hr1⟩ := hA.at_n hlt 33 rfl
      have hr2 := range_fresh hr1 hbr'
      have htk := downMap_take [] l k hlt
      generalize hi : l[k]'hlt = i at hr1 hr2 htk
      have hiV := range_block (heap_alloc_new wr (.cells (Enc.enc i).toArray 45))
      have hMV := hM.alloc (.cells (Enc.enc i).toArray 45)
      have hbV := fresh_alloc hbr' (.cells (Enc.enc i).toArray 45)
      have hgd : bm < wr.heap.size := hM.lt
      have HTK := Lib.hid htk
      clear htk
      have HI := Lib.hid hi
      clear hi
      go_wp2_with (first
        | (refine st_val rfl (elem_count rfl rfl rfl hlt) ?_)
        | (refine st_val rfl (load_count rfl rfl i ?_) ?_; (with_reducible exact hr2))
        | (refine st_val rfl (run_alloc 45 Count.zero zero45 rfl) ?_)
        | (refine st_skip rfl (run_store_new 45 _ _ rfl rfl rfl i Count.zero rfl 45 s45) ?_))
      generalize wr.alloc (.cells (Enc.enc i).toArray 45) = V at hiV hMV hbV ⊢
      generalize wr.heap.size = gd at hiV hgd ⊢
      have hS0 : V.grownBy V.drew (some bm) := grown_weak (fresh_drew (fresh_refl V)) bm
      have hkF : ∀ w', V.grownBy w' (some bm) → w'.rangeAt gd (0 + 0) (Enc.enc i.key) := fun w' hw => count_keyAt (range_grown hiV hw (by simp; omega))
      have hnF : ∀ w', V.grownBy w' (some bm) → w'.cell? ⟨gd, 0 + 32, none⟩ = some (.int .i64 i.refs) := fun w' hw => count_refsAt (range_grown hiV hw (by simp; omega))
      have hMd := hMV.fresh (fresh_drew (fresh_refl V))
      obtain ⟨st, v0, W1, hrun1, hg1, hs1', hM1, W2, hrun2, hM2, hg2, hs2⟩ := run_entry_store keyCode 73 Try.underlying73 (.int .i64 0) zint hMd i.key (dnext (downMap [] (l.take k)) i) 0 rfl
      have hS1 := hS0.trans hg1
      have hS2 := hS1.trans hg2
      refine held_lit (fun w' => V.grownBy w' (some bm)) 10 rfl (by kernel_rfl) ?_
      refine hl_take (v := ?_) 0 rfl (by kernel_rfl) (by rfl) ?_ hS0 (fun _ _ _ h => h) ?_
      rotate_left
      · (intro w' hw'; go_simp; try with_reducible rfl)
      simp only [Act.put, List.setIfInBounds_toArray, List.set_cons_succ, List.set_cons_zero]
      refine hl_take 1 rfl (by kernel_rfl) (by rfl) (fun w' hw' => run_faddr 45 _ 0 rfl rfl _ Try.underlying45 0 _ rfl rfl 31 s35) hS0 (fun _ _ _ h => h) ?_
      simp only [Act.put, List.setIfInBounds_toArray, List.set_cons_succ, List.set_cons_zero]
      refine hl_take 2 rfl (by kernel_rfl) (by rfl) (fun w' hw' => load_key rfl rfl i.key (hkF w' hw')) hS0 (fun _ _ _ h => h) ?_
      simp only [Act.put, List.setIfInBounds_toArray, List.set_cons_succ, List.set_cons_zero]
      refine hl_take 4 rfl (by kernel_rfl) (by rfl) (fun w' hw' => run_faddr 45 _ 1 rfl rfl _ Try.underlying45 32 _ rfl rfl 0 sint') hS0 (fun _ _ _ h => h) ?_
      simp only [Act.put, List.setIfInBounds_toArray, List.set_cons_succ, List.set_cons_zero]
      refine hl_take 5 rfl (by kernel_rfl) (by rfl) (fun w' hw' => run_load1 3 _ rfl rfl (hnF w' hw') _ Try.underlying3 rfl) hS0 (fun _ _ _ h => h) ?_
      simp only [Act.put, List.setIfInBounds_toArray, List.set_cons_succ, List.set_cons_zero]
      refine hl_two 3 7 (by kernel_rfl) ?_ ?_
      · refine hs_val rfl (by rfl) (op_look1 keyCode 73 _ _ rfl Try.underlying73 (.int .i64 0) zint rfl i.key rfl hMd) hS0 ?_
        simp only [Act.put, List.setIfInBounds_toArray, List.set_cons_succ, List.set_cons_zero]
        simp only [look_num]
        refine hl_take 6 rfl (by kernel_rfl) (by rfl) (fun w' hw' => op_sub64 _ _ _ _ _ _ _ rfl rfl rfl (wrap_eq _)) hS0 (fun _ _ _ h => h) ?_
        simp only [Act.put, List.setIfInBounds_toArray, List.set_cons_succ, List.set_cons_zero]
        refine hl_one 7 (by kernel_rfl) (hs_val rfl (by rfl) (op_entryOf (mv := .map (some bm)) (kx := agg i.key) 73 _ _ rfl rfl rfl hrun1) hS1 ?_)
        simp only [Act.put, List.setIfInBounds_toArray, List.set_cons_succ, List.set_cons_zero]
        refine hl_take (v := ?_) 8 rfl (by kernel_rfl) (by rfl) ?_ hS1 (fun _ _ _ h => h) ?_
        rotate_left
        · (intro w' hw'; go_simp; try with_reducible rfl)
        simp only [Act.put, List.setIfInBounds_toArray, List.set_cons_succ, List.set_cons_zero]
        refine hl_one 9 (by kernel_rfl) (hs_skip rfl (by rfl) (op_entryStore (mv := .map (some bm)) (st := goInt st) (v := .int .i64 (dnext (downMap [] (l.take k)) i)) 73 _ _ _ rfl rfl rfl rfl hrun2) hS2 ?_)
        simp only [Act.put, List.setIfInBounds_toArray, List.set_cons_succ, List.set_cons_zero]
        refine hl_done (by kernel_rfl) ?_
        clear hkF hnF hrun1 hrun2
        go_wp2
        go_roundw
        case rel => exact ⟨k + 1, by omega, by go_num, by rw [HTK.out]; exact hM2, hbm ▸ fresh_grown hbV hS2 (fun j hj => by injection hj with hj; omega)⟩
        case measure => simp [RowKit.intOf]; omega
      · refine hs_val rfl (by rfl) (op_entryOf (mv := .map (some bm)) (kx := agg i.key) 73 _ _ rfl rfl rfl hrun1) hS1 ?_
        simp only [Act.put, List.setIfInBounds_toArray, List.set_cons_succ, List.set_cons_zero]
        refine hl_take (v := ?_) 8 rfl (by kernel_rfl) (by rfl) ?_ hS1 (fun _ _ _ h => h) ?_
        rotate_left
        · (intro w' hw'; go_simp; try with_reducible rfl)
        simp only [Act.put, List.setIfInBounds_toArray, List.set_cons_succ, List.set_cons_zero]
        refine hl_one 3 (by kernel_rfl) (hs_val rfl (by rfl) (op_look1 keyCode 73 _ _ rfl Try.underlying73 (.int .i64 0) zint rfl i.key rfl hM1) hS1 ?_)
        simp only [Act.put, List.setIfInBounds_toArray, List.set_cons_succ, List.set_cons_zero]
        simp only [look_num, look_mid]
        refine hl_take 6 rfl (by kernel_rfl) (by rfl) (fun w' hw' => op_sub64 _ _ _ _ _ _ _ rfl rfl rfl (wrap_eq _)) hS1 (fun _ _ _ h => h) ?_
        simp only [Act.put, List.setIfInBounds_toArray, List.set_cons_succ, List.set_cons_zero]
        refine hl_one 9 (by kernel_rfl) (hs_skip rfl (by rfl) (op_entryStore (mv := .map (some bm)) (st := goInt st) (v := .int .i64 (dnext (downMap [] (l.take k)) i)) 73 _ _ _ rfl rfl rfl rfl hrun2) hS2 ?_)
        simp only [Act.put, List.setIfInBounds_toArray, List.set_cons_succ, List.set_cons_zero]
        refine hl_done (by kernel_rfl) ?_
        clear hkF hnF hrun1 hrun2
        go_wp2
        go_roundw
        case rel => exact ⟨k + 1, by omega, by go_num, by rw [HTK.out]; exact hM2, hbm ▸ fresh_grown hbV hS2 (fun j hj => by injection hj with hj; omega)⟩
        case measure => simp [RowKit.intOf]; omega
    · have hkl : l.take k = l := List.take_of_length_le (by omega)
      rw [hkl] at hM
      have HKL := Lib.hid hkl
      clear hkl
      go_wp2
      go_loopw [29] (fun i wr => ∃ (k : Nat), k ≤ lb.length ∧ i = .int .i64 k ∧ MapIs wr bm keyV numV (upMap (downMap [] l) (lb.take k)) ∧ Below bm w wr) (fun i _ => lb.length - (RowKit.intOf i).toNat)
      case atStart => exact ⟨0, by omega, rfl, hM, hbm ▸ hbr'⟩
      case round =>
        clear hM hbr hbr' hk hlt
        obtain ⟨k, hk, rfl, hM, hbr⟩ := hrel
        have hbr' : Below w.heap.size w wr := hbm ▸ hbr
        by_cases hlt : k < lb.length
        · obtain ⟨b1, o1, rfl, hr1⟩ := hB.at_n hlt 33 rfl
          have hr2 := range_fresh hr1 hbr'
          have htk := upMap_take (downMap [] l) lb k hlt
          generalize hi : lb[k]'hlt = i at hr1 hr2 htk
          have hiV := range_block (heap_alloc_new wr (.cells (Enc.enc i).toArray 45))
          have hMV := hM.alloc (.cells (Enc.enc i).toArray 45)
          have hbV := fresh_alloc hbr' (.cells (Enc.enc i).toArray 45)
          have hgd : bm < wr.heap.size := hM.lt
          have HTK := Lib.hid htk
          clear htk
          have HI := Lib.hid hi
          clear hi
          go_wp2_with (first
            | (refine st_val rfl (elem_count rfl rfl rfl hlt) ?_)
            | (refine st_val rfl (load_count rfl rfl i ?_) ?_; (with_reducible exact hr2))
            | (refine st_val rfl (run_alloc 45 Count.zero zero45 rfl) ?_)
            | (refine st_skip rfl (run_store_new 45 _ _ rfl rfl rfl i Count.zero rfl 45 s45) ?_))
          generalize wr.alloc (.cells (Enc.enc i).toArray 45) = V at hiV hMV hbV ⊢
          generalize wr.heap.size = gd at hiV hgd ⊢
          have hS0 : V.grownBy V.drew (some bm) := grown_weak (fresh_drew (fresh_refl V)) bm
          have hkF : ∀ w', V.grownBy w' (some bm) → w'.rangeAt gd (0 + 0) (Enc.enc i.key) := fun w' hw => count_keyAt (range_grown hiV hw (by simp; omega))
          have hnF : ∀ w', V.grownBy w' (some bm) → w'.cell? ⟨gd, 0 + 32, none⟩ = some (.int .i64 i.refs) := fun w' hw => count_refsAt (range_grown hiV hw (by simp; omega))
          have hMd := hMV.fresh (fresh_drew (fresh_refl V))
          obtain ⟨st, v0, W1, hrun1, hg1, hs1', hM1, W2, hrun2, hM2, hg2, hs2⟩ := run_entry_store keyCode 73 Try.underlying73 (.int .i64 0) zint hMd i.key (unext (upMap (downMap [] l) (lb.take k)) i) 0 rfl
          have hS1 := hS0.trans hg1
          have hS2 := hS1.trans hg2
          refine held_lit (fun w' => V.grownBy w' (some bm)) 10 rfl (by kernel_rfl) ?_
          refine hl_take (v := ?_) 0 rfl (by kernel_rfl) (by rfl) ?_ hS0 (fun _ _ _ h => h) ?_
          rotate_left
          · (intro w' hw'; go_simp; try with_reducible rfl)
          simp only [Act.put, List.setIfInBounds_toArray, List.set_cons_succ, List.set_cons_zero]
          refine hl_take 1 rfl (by kernel_rfl) (by rfl) (fun w' hw' => run_faddr 45 _ 0 rfl rfl _ Try.underlying45 0 _ rfl rfl 31 s35) hS0 (fun _ _ _ h => h) ?_
          simp only [Act.put, List.setIfInBounds_toArray, List.set_cons_succ, List.set_cons_zero]
          refine hl_take 2 rfl (by kernel_rfl) (by rfl) (fun w' hw' => load_key rfl rfl i.key (hkF w' hw')) hS0 (fun _ _ _ h => h) ?_
          simp only [Act.put, List.setIfInBounds_toArray, List.set_cons_succ, List.set_cons_zero]
          refine hl_take 4 rfl (by kernel_rfl) (by rfl) (fun w' hw' => run_faddr 45 _ 1 rfl rfl _ Try.underlying45 32 _ rfl rfl 0 sint') hS0 (fun _ _ _ h => h) ?_
          simp only [Act.put, List.setIfInBounds_toArray, List.set_cons_succ, List.set_cons_zero]
          refine hl_take 5 rfl (by kernel_rfl) (by rfl) (fun w' hw' => run_load1 3 _ rfl rfl (hnF w' hw') _ Try.underlying3 rfl) hS0 (fun _ _ _ h => h) ?_
          simp only [Act.put, List.setIfInBounds_toArray, List.set_cons_succ, List.set_cons_zero]
          refine hl_two 3 7 (by kernel_rfl) ?_ ?_
          · refine hs_val rfl (by rfl) (op_look1 keyCode 73 _ _ rfl Try.underlying73 (.int .i64 0) zint rfl i.key rfl hMd) hS0 ?_
            simp only [Act.put, List.setIfInBounds_toArray, List.set_cons_succ, List.set_cons_zero]
            simp only [look_num]
            refine hl_take 6 rfl (by kernel_rfl) (by rfl) (fun w' hw' => op_add64 _ _ _ _ _ _ _ rfl rfl rfl (wrap_eq _)) hS0 (fun _ _ _ h => h) ?_
            simp only [Act.put, List.setIfInBounds_toArray, List.set_cons_succ, List.set_cons_zero]
            refine hl_one 7 (by kernel_rfl) (hs_val rfl (by rfl) (op_entryOf (mv := .map (some bm)) (kx := agg i.key) 73 _ _ rfl rfl rfl hrun1) hS1 ?_)
            simp only [Act.put, List.setIfInBounds_toArray, List.set_cons_succ, List.set_cons_zero]
            refine hl_take (v := ?_) 8 rfl (by kernel_rfl) (by rfl) ?_ hS1 (fun _ _ _ h => h) ?_
            rotate_left
            · (intro w' hw'; go_simp; try with_reducible rfl)
            simp only [Act.put, List.setIfInBounds_toArray, List.set_cons_succ, List.set_cons_zero]
            refine hl_one 9 (by kernel_rfl) (hs_skip rfl (by rfl) (op_entryStore (mv := .map (some bm)) (st := goInt st) (v := .int .i64 (unext (upMap (downMap [] l) (lb.take k)) i)) 73 _ _ _ rfl rfl rfl rfl hrun2) hS2 ?_)
            simp only [Act.put, List.setIfInBounds_toArray, List.set_cons_succ, List.set_cons_zero]
            refine hl_done (by kernel_rfl) ?_
            clear hkF hnF hrun1 hrun2
            go_wp2
            go_roundw
            case rel => exact ⟨k + 1, by omega, by go_num, by rw [HTK.out]; exact hM2, hbm ▸ fresh_grown hbV hS2 (fun j hj => by injection hj with hj; omega)⟩
            case measure => simp [RowKit.intOf]; omega
          · refine hs_val rfl (by rfl) (op_entryOf (mv := .map (some bm)) (kx := agg i.key) 73 _ _ rfl rfl rfl hrun1) hS1 ?_
            simp only [Act.put, List.setIfInBounds_toArray, List.set_cons_succ, List.set_cons_zero]
            refine hl_take (v := ?_) 8 rfl (by kernel_rfl) (by rfl) ?_ hS1 (fun _ _ _ h => h) ?_
            rotate_left
            · (intro w' hw'; go_simp; try with_reducible rfl)
            simp only [Act.put, List.setIfInBounds_toArray, List.set_cons_succ, List.set_cons_zero]
            refine hl_one 3 (by kernel_rfl) (hs_val rfl (by rfl) (op_look1 keyCode 73 _ _ rfl Try.underlying73 (.int .i64 0) zint rfl i.key rfl hM1) hS1 ?_)
            simp only [Act.put, List.setIfInBounds_toArray, List.set_cons_succ, List.set_cons_zero]
            simp only [look_num, look_mid]
            refine hl_take 6 rfl (by kernel_rfl) (by rfl) (fun w' hw' => op_add64 _ _ _ _ _ _ _ rfl rfl rfl (wrap_eq _)) hS1 (fun _ _ _ h => h) ?_
            simp only [Act.put, List.setIfInBounds_toArray, List.set_cons_succ, List.set_cons_zero]
            refine hl_one 9 (by kernel_rfl) (hs_skip rfl (by rfl) (op_entryStore (mv := .map (some bm)) (st := goInt st) (v := .int .i64 (unext (upMap (downMap [] l) (lb.take k)) i)) 73 _ _ _ rfl rfl rfl rfl hrun2) hS2 ?_)
            simp only [Act.put, List.setIfInBounds_toArray, List.set_cons_succ, List.set_cons_zero]
            refine hl_done (by kernel_rfl) ?_
            clear hkF hnF hrun1 hrun2
            go_wp2
            go_roundw
            case rel => exact ⟨k + 1, by omega, by go_num, by rw [HTK.out]; exact hM2, hbm ▸ fresh_grown hbV hS2 (fun j hj => by injection hj with hj; omega)⟩
            case measure => simp [RowKit.intOf]; omega
        · have hkl : lb.take k = lb := List.take_of_length_le (by omega)
          rw [hkl] at hM
          have HKL := Lib.hid hkl
          clear hkl
          have hrow := row_ok bm _ wr hM (by have := upMap_len lb (downMap [] l); have := downMap_len l []; simp at *; omega)
          go_wp2_with (fail)
          refine hrow.mono ?_
          rintro e u ⟨v, L, rfl, hO, hT, hbu⟩
          go_wp2
          go_ret
          exact ⟨v, L, rfl, hO.lower (by have := hbr'.size; omega), hT, fresh_trans hbr' hbu⟩
end Go.Pb
