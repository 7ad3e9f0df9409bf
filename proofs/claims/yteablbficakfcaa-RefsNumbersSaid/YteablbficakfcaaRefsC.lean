/- How many want each key: Count, Delta. -/
import Derived.Test.YteablbficakfcaaRefsB
import Derived.Test.YteablbficakfcaaIndexC
import Derived.Test.YteablbficakfcaaMapBump
import Derived.Test.YteablbficakfcaaArith
set_option linter.unusedVariables false
set_option linter.unusedSimpArgs false
set_option linter.unusedSectionVars false
namespace Go.Pb
open Go.RowKit Go.Proofs Go.BigFrame

def bump (m : List (Key × Int)) (k : Key) (d : Int) : List (Key × Int) := put m k (wrap64 ((look m k).getD 0 + d))
def drop_ (m : List (Key × Int)) (k : Key) (d : Int) : List (Key × Int) := put m k (wrap64 ((look m k).getD 0 - d))
def countMap (l : List Item) : List (Key × Int) := l.foldl (fun m i => if i.kind = 2 then bump m i.slice.key 1 else m) []
def deltaMap (a b : List Count) : List (Key × Int) := b.foldl (fun m c => bump m c.key c.refs) (a.foldl (fun m c => drop_ m c.key c.refs) [])
theorem wrap_eq (n : Int) : IntKind.i64.wrap n = wrap64 n := by rw [IntKind.wrap_i64]; unfold wrap64; omega
theorem look_num (m : List (Key × Int)) (k : Key) : (look m k).elim (.int .i64 0) numV = .int .i64 ((look m k).getD 0) := by cases look m k <;> rfl
theorem zint (w : World) : (zeroValue 3).run Try.prog w = .ok (.int .i64 0) w := by
  have h : (Try.prog.info? 3).map (·.zero) = some (some (.int .i64 0)) := by kernel_rfl
  obtain ⟨i, hi, hz⟩ := Option.map_eq_some_iff.1 h
  simp [zeroValue, typeInfo, hi, hz]
theorem countMap_snoc (l : List Item) (i : Item) : countMap (l ++ [i]) = if i.kind = 2 then bump (countMap l) i.slice.key 1 else countMap l := by simp [countMap]
theorem countMap_take (l : List Item) (k : Nat) (h : k < l.length) : countMap (l.take (k + 1)) = if l[k].kind = 2 then bump (countMap (l.take k)) l[k].slice.key 1 else countMap (l.take k) := by rw [List.take_succ_eq_append_getElem h, countMap_snoc]
theorem put_len_le {K V : Type} [DecidableEq K] (m : List (K × V)) (k : K) (v : V) : (put m k v).length ≤ m.length + 1 := by rw [put_length]; split <;> omega
theorem countMap_len (l : List Item) : (countMap l).length ≤ l.length := by
  suffices h : ∀ (l : List Item) m, (l.foldl (fun m i => if i.kind = 2 then bump m i.slice.key 1 else m) m).length ≤ m.length + l.length from by simpa [countMap] using h l []
  intro l
  induction l with
  | nil => intro m; simp
  | cons i l ih =>
    intro m
    rw [List.foldl_cons]
    refine Nat.le_trans (ih _) ?_
    split
    · have := put_len_le m i.slice.key (wrap64 ((look m i.slice.key).getD 0 + 1))
      simp only [bump, List.length_cons]
      omega
    · simp only [List.length_cons]; omega
theorem item_sliceKeyAt {w : World} {b o : Nat} {i : Item} (h : w.rangeAt b o (Enc.enc i)) : w.rangeAt b (o + 39) (Enc.enc i.slice.key) := by
  have h1 := range_sub h 39 32
  have hl : (encKey i.key).length = 32 := encKey_len _
  have hl2 : (encKey i.slice.key).length = 32 := encKey_len _
  have e : ((Enc.enc i).drop 39).take 32 = Enc.enc i.slice.key := by
    show ((encItem i).drop 39).take 32 = encKey i.slice.key
    simp [encItem, hl, hl2, List.drop_append, encPlace, encSlice]
    rw [List.drop_of_length_le (by omega), List.nil_append, List.take_append_of_le_length (by omega), List.take_of_length_le (by omega)]
  rwa [e] at h1
theorem u8_two (b : UInt8) : (b.toNat : Int) = 2 ↔ b = 2 := by
  constructor
  · intro h
    apply UInt8.toNat_inj.1
    have : b.toNat = 2 := by omega
    rw [this]
    rfl
  · rintro rfl
    rfl

set_option maxRecDepth 8000 in
set_option maxHeartbeats 2000000 in
theorem count_ok (A : Option Addr) (c : Nat) (l : List Item) (w : World) (hA : Reads w A l) (hlen : l.length ≤ 1000000) : Calls Try.prog 13 #[.slice A l.length c] w fun e w' =>
      ∃ v L, e = .returned v ∧ Owns w' w.heap.size 45 v L ∧ TellsC ((countMap l).filter nzB) L ∧ Below w.heap.size w w' := by
  go_enter Try.func13, Try.ntmps13
  go_wp2_with (refine st_val rfl (op_makeMap 73 rfl) ?_)
  have hM0 := MapIs.made w keyV numV
  have hbw : Below w.heap.size w (w.alloc (.map #[] 0)) := fresh_alloc (fresh_refl w) _
  have hs1 : w.heap.size < (w.alloc (.map #[] 0)).heap.size := by simp
  generalize w.alloc (.map #[] 0) = w1 at hM0 hbw hs1 ⊢
  generalize hbm : w.heap.size = bm at hM0 hs1 ⊢
  go_loopw [9] (fun i wr => ∃ (k : Nat), k ≤ l.length ∧ i = .int .i64 k ∧ MapIs wr bm keyV numV (countMap (l.take k)) ∧ Below bm w wr) (fun i _ => l.length - (RowKit.intOf i).toNat)
  case atStart => exact ⟨0, by omega, rfl, hM0, hbm ▸ hbw⟩
  case round =>
    obtain ⟨k, hk, rfl, hM, hbr⟩ := hrel
    have hbr' : Below w.heap.size w wr := hbm ▸ hbr
    by_cases hlt : k < l.length
    · obtain ⟨b1, o1, rfl, hr1⟩ := hA.at_n hlt 73 rfl
      have hr2 := range_fresh hr1 hbr'
      have htk := countMap_take l k hlt
      have hcut := l[k]'hlt
      generalize hi : l[k]'hlt = i at hr1 hr2 htk
      have hiV := range_block (heap_alloc_new wr (.cells (Enc.enc i).toArray 42))
      have hMV := hM.alloc (.cells (Enc.enc i).toArray 42)
      have hbV := fresh_alloc hbr' (.cells (Enc.enc i).toArray 42)
      have hgd : bm < wr.heap.size := hM.lt
      have hkc : (wr.alloc (.cells (Enc.enc i).toArray 42)).cell? ⟨wr.heap.size, 0, none⟩ = some (.int .u8 (i.kind.toNat : Int)) := hiV 0 _ rfl
      by_cases hkd : i.kind = 2
      · rw [if_pos hkd] at htk
        have hkc2 : (wr.alloc (.cells (Enc.enc i).toArray 42)).cell? ⟨wr.heap.size, 0, none⟩ = some (.int .u8 2) := by rw [hkc, (u8_two _).2 hkd]
        clear hkc
        have HKD := Lib.hid hkd
        clear hkd
        have HTK := Lib.hid htk
        clear htk
        have HI := Lib.hid hi
        clear hi
        go_wp2_with (first
          | (refine st_val rfl (elem_item rfl rfl rfl hlt) ?_)
          | (refine st_val rfl (load_item rfl rfl i ?_) ?_; (with_reducible exact hr2))
          | (refine st_val rfl (run_alloc 42 Item.zero zero42 rfl) ?_)
          | (refine st_skip rfl (run_store_new 42 _ _ rfl rfl rfl i Item.zero rfl 42 s42) ?_))
        generalize wr.alloc (.cells (Enc.enc i).toArray 42) = V at hiV hMV hbV hkc2 ⊢
        generalize wr.heap.size = gd at hiV hgd hkc2 ⊢
        have hS0 : V.grownBy V.drew (some bm) := grown_weak (fresh_drew (fresh_refl V)) bm
        have hkF : ∀ w', V.grownBy w' (some bm) → w'.rangeAt gd (0 + 39 + 0) (Enc.enc i.slice.key) := fun w' hw => item_sliceKeyAt (range_grown hiV hw (by simp; omega))
        have hMd := hMV.fresh (fresh_drew (fresh_refl V))
        obtain ⟨st, v0, W1, hrun1, hg1, hs1', hM1, W2, hrun2, hM2, hg2, hs2⟩ := run_entry_store keyCode 73 Try.underlying73 (.int .i64 0) zint hMd i.slice.key (wrap64 ((look (countMap (l.take k)) i.slice.key).getD 0 + 1)) 0 rfl
        have hS1 := hS0.trans hg1
        have hS2 := hS1.trans hg2
        refine held_lit (fun w' => V.grownBy w' (some bm)) 9 rfl (by kernel_rfl) ?_
        refine hl_take (v := ?_) 0 rfl (by kernel_rfl) (by rfl) ?_ hS0 (fun _ _ _ h => h) ?_
        rotate_left
        · (intro w' hw'; go_simp; try with_reducible rfl)
        simp only [Act.put, List.setIfInBounds_toArray, List.set_cons_succ, List.set_cons_zero]
        refine hl_take 1 rfl (by kernel_rfl) (by rfl) (fun w' hw' => run_faddr 42 _ 5 rfl rfl _ Try.underlying42 39 _ rfl rfl 33 s40) hS0 (fun _ _ _ h => h) ?_
        simp only [Act.put, List.setIfInBounds_toArray, List.set_cons_succ, List.set_cons_zero]
        refine hl_take 2 rfl (by kernel_rfl) (by rfl) (fun w' hw' => run_faddr 40 _ 0 rfl rfl _ Try.underlying40 0 _ rfl rfl 31 s35) hS0 (fun _ _ _ h => h) ?_
        simp only [Act.put, List.setIfInBounds_toArray, List.set_cons_succ, List.set_cons_zero]
        refine hl_take 3 rfl (by kernel_rfl) (by rfl) (fun w' hw' => load_key rfl rfl i.slice.key (hkF w' hw')) hS0 (fun _ _ _ h => h) ?_
        simp only [Act.put, List.setIfInBounds_toArray, List.set_cons_succ, List.set_cons_zero]
        refine hl_two 4 6 (by kernel_rfl) ?_ ?_
        · refine hs_val rfl (by rfl) (op_look1 keyCode 73 _ _ rfl Try.underlying73 (.int .i64 0) zint rfl i.slice.key rfl hMd) hS0 ?_
          simp only [Act.put, List.setIfInBounds_toArray, List.set_cons_succ, List.set_cons_zero]
          simp only [look_num]
          refine hl_take 5 rfl (by kernel_rfl) (by rfl) (fun w' hw' => op_add64 _ _ _ _ _ _ _ rfl rfl rfl (wrap_eq _)) hS0 (fun _ _ _ h => h) ?_
          simp only [Act.put, List.setIfInBounds_toArray, List.set_cons_succ, List.set_cons_zero]
          refine hl_one 6 (by kernel_rfl) (hs_val rfl (by rfl) (op_entryOf (mv := .map (some bm)) (kx := agg i.slice.key) 73 _ _ rfl rfl rfl hrun1) hS1 ?_)
          simp only [Act.put, List.setIfInBounds_toArray, List.set_cons_succ, List.set_cons_zero]
          refine hl_take (v := ?_) 7 rfl (by kernel_rfl) (by rfl) ?_ hS1 (fun _ _ _ h => h) ?_
          rotate_left
          · (intro w' hw'; go_simp; try with_reducible rfl)
          simp only [Act.put, List.setIfInBounds_toArray, List.set_cons_succ, List.set_cons_zero]
          refine hl_one 8 (by kernel_rfl) (hs_skip rfl (by rfl) (op_entryStore (mv := .map (some bm)) (st := goInt st) (v := .int .i64 (wrap64 ((look (countMap (l.take k)) i.slice.key).getD 0 + 1))) 73 _ _ _ rfl rfl rfl rfl hrun2) hS2 ?_)
          simp only [Act.put, List.setIfInBounds_toArray, List.set_cons_succ, List.set_cons_zero]
          refine hl_done (by kernel_rfl) ?_
          clear hkF hrun1 hrun2
          go_wp2
          go_roundw
          case rel => exact ⟨k + 1, by omega, by go_num, by rw [HTK.out]; exact hM2, hbm ▸ fresh_grown hbV hS2 (fun j hj => by injection hj with hj; omega)⟩
          case measure => simp [RowKit.intOf]; omega
        · refine hs_val rfl (by rfl) (op_entryOf (mv := .map (some bm)) (kx := agg i.slice.key) 73 _ _ rfl rfl rfl hrun1) hS1 ?_
          simp only [Act.put, List.setIfInBounds_toArray, List.set_cons_succ, List.set_cons_zero]
          refine hl_take (v := ?_) 7 rfl (by kernel_rfl) (by rfl) ?_ hS1 (fun _ _ _ h => h) ?_
          rotate_left
          · (intro w' hw'; go_simp; try with_reducible rfl)
          simp only [Act.put, List.setIfInBounds_toArray, List.set_cons_succ, List.set_cons_zero]
          refine hl_one 4 (by kernel_rfl) (hs_val rfl (by rfl) (op_look1 keyCode 73 _ _ rfl Try.underlying73 (.int .i64 0) zint rfl i.slice.key rfl hM1) hS1 ?_)
          simp only [Act.put, List.setIfInBounds_toArray, List.set_cons_succ, List.set_cons_zero]
          simp only [look_num, look_mid]
          refine hl_take 5 rfl (by kernel_rfl) (by rfl) (fun w' hw' => op_add64 _ _ _ _ _ _ _ rfl rfl rfl (wrap_eq _)) hS1 (fun _ _ _ h => h) ?_
          simp only [Act.put, List.setIfInBounds_toArray, List.set_cons_succ, List.set_cons_zero]
          refine hl_one 8 (by kernel_rfl) (hs_skip rfl (by rfl) (op_entryStore (mv := .map (some bm)) (st := goInt st) (v := .int .i64 (wrap64 ((look (countMap (l.take k)) i.slice.key).getD 0 + 1))) 73 _ _ _ rfl rfl rfl rfl hrun2) hS2 ?_)
          simp only [Act.put, List.setIfInBounds_toArray, List.set_cons_succ, List.set_cons_zero]
          refine hl_done (by kernel_rfl) ?_
          clear hkF hrun1 hrun2
          go_wp2
          go_roundw
          case rel => exact ⟨k + 1, by omega, by go_num, by rw [HTK.out]; exact hM2, hbm ▸ fresh_grown hbV hS2 (fun j hj => by injection hj with hj; omega)⟩
          case measure => simp [RowKit.intOf]; omega
      · rw [if_neg hkd] at htk
        have hkn : ¬ (i.kind.toNat : Int) = 2 := fun e => hkd ((u8_two _).1 e)
        have HKD := Lib.hid hkd
        clear hkd
        have HTK := Lib.hid htk
        clear htk
        have HI := Lib.hid hi
        clear hi
        go_wp2_with (first
          | (refine st_val rfl (elem_item rfl rfl rfl hlt) ?_)
          | (refine st_val rfl (load_item rfl rfl i ?_) ?_; (with_reducible exact hr2))
          | (refine st_val rfl (run_alloc 42 Item.zero zero42 rfl) ?_)
          | (refine st_skip rfl (run_store_new 42 _ _ rfl rfl rfl i Item.zero rfl 42 s42) ?_))
        go_roundw
        case rel => exact ⟨k + 1, by omega, by go_num, by rw [HTK.out]; exact hMV, hbm ▸ hbV⟩
        case measure => simp [RowKit.intOf]; omega
    · have hkl : l.take k = l := List.take_of_length_le (by omega)
      rw [hkl] at hM
      have HKL := Lib.hid hkl
      clear hkl
      have hrow := row_ok bm _ wr hM (by have := countMap_len l; omega)
      go_wp2_with (fail)
      refine hrow.mono ?_
      rintro e u ⟨v, L, rfl, hO, hT, hbu⟩
      go_wp2
      go_ret
      exact ⟨v, L, rfl, hO.lower (by have := hbr'.size; omega), hT, fresh_trans hbr' hbu⟩
end Go.Pb
