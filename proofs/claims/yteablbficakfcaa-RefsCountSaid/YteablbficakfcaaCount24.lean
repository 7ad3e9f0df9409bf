/- The document's row of counts: the walk. -/
import Derived.Test.YteablbficakfcaaAdd24
import Derived.Test.YteablbficakfcaaRefsC
set_option linter.unusedVariables false
set_option linter.unusedSimpArgs false
set_option linter.unusedSectionVars false
namespace Go.Pb
open Go.RowKit Go.Proofs Go.BigFrame

theorem sbyte_k : (Try.prog.info? 36).map (·.size) = some 1 := by kernel_rfl
theorem countRow_len (l : List Item) : (countRow l).length ≤ l.length := by
  have hs : ∀ k, k ≤ l.length → (countRow (l.take k)).length ≤ k := by
    intro k
    induction k with
    | zero => intro _; simp [countRow]
    | succ k ih =>
      intro hk
      rw [countRow_take l k (by omega)]
      split
      · have := addC_len (countRow (l.take k)) (l[k]'(by omega)).slice.key 1
        have := ih (by omega)
        omega
      · have := ih (by omega)
        omega
  have := hs l.length (Nat.le_refl _)
  rwa [List.take_length] at this
theorem eq2_f {k : UInt8} (h : k ≠ 2) : ((k.toNat : Int) == 2) = false := by
  have : ¬ (k.toNat : Int) = 2 := fun e => h ((u8_two k).1 e)
  simpa using this
set_option maxHeartbeats 1000000 in
theorem count24r_ok (A : Option Addr) (c : Nat) (l : List Item) (w : World) (hA : Reads w A l) (hlen : l.length ≤ 100000) : Calls Try.prog 15 #[.slice A l.length c] w fun e w' =>
      ∃ v, e = .returned v ∧ Owns w' w.heap.size 45 v (countRow l) ∧ Below w.heap.size w w' := by
  have hO0 : Owns w w.heap.size 45 (.slice none 0 0) (countRow (l.take 0)) := by rw [List.take_zero]; exact Owns.nil _ _ _
  go_enter Try.func15, Try.ntmps15
  go_wp2
  go_loopw [3, 4] (fun v i wr => ∃ (k : Nat), k ≤ l.length ∧ i = .int .i64 k ∧ Owns wr w.heap.size 45 v (countRow (l.take k)) ∧ Below w.heap.size w wr) (fun _ i _ => l.length - (RowKit.intOf i).toNat)
  case atStart => exact ⟨0, by omega, rfl, hO0, fresh_refl w⟩
  case round =>
    clear hO0
    obtain ⟨k, hk, rfl, hO, hb⟩ := hrel
    by_cases hlt : k < l.length
    · obtain ⟨b1, o1, rfl, hr1⟩ := hA.at_n hlt 73 rfl
      have hr2 := range_fresh hr1 hb
      have htk := countRow_take l k hlt
      have hcl : (countRow (l.take k)).length ≤ 1000000 := by have := countRow_len (l.take k); rw [List.length_take] at this; omega
      have hkc : wr.cell? ⟨b1, o1 + k * 73, none⟩ = some (.int .u8 ((l[k]'hlt).kind.toNat : Int)) := by have := hr2 0 _ rfl; rwa [Nat.add_zero] at this
      have hkey := item_sliceKeyAt hr2
      have hsz := hb.size
      generalize hi : l[k]'hlt = i at hr1 hr2 htk hkc hkey
      have HI := Lib.hid hi
      clear hi
      clear hr1 hr2
      by_cases hkd : i.kind = 2
      · rw [if_pos hkd] at htk
        have hkc2 : wr.cell? ⟨b1, o1 + k * 73, none⟩ = some (.int .u8 2) := by rw [hkc, (u8_two _).2 hkd]
        clear hkc
        have HKD := Lib.hid hkd
        clear hkd
        have HTK := Lib.hid htk
        clear htk
        go_wp2_with (first
          | (refine st_val rfl (elem_item rfl rfl rfl hlt) ?_)
          | (refine st_val rfl (run_faddr 42 _ 0 rfl rfl _ Try.underlying42 0 _ rfl rfl 0 sbyte_k) ?_)
          | (refine st_val rfl (run_faddr 42 _ 5 rfl rfl _ Try.underlying42 39 _ rfl rfl 33 s40) ?_)
          | (refine st_val rfl (run_faddr 40 _ 0 rfl rfl _ Try.underlying40 0 _ rfl rfl 31 s35) ?_)
          | (refine st_val rfl (load_key rfl rfl i.slice.key ?_) ?_; (with_reducible exact hkey)))
        refine (add24_ok w.heap.size _ (countRow (l.take k)) i.slice.key 1 wr hO hsz hcl).mono ?_
        rintro e u ⟨v', rfl, hO', hg'⟩
        rw [← HTK.out] at hO'
        have hb' := fresh_own hb hO hg' (Nat.le_refl _)
        clear hO hb hg' hkey hkc2
        go_wp2
        go_roundw
        case rel => exact ⟨k + 1, by omega, by go_num, hO', hb'⟩
        case measure => simp [RowKit.intOf]; omega
      · rw [if_neg hkd] at htk
        have heq2 := eq2_f hkd
        have HKD := Lib.hid hkd
        clear hkd
        have HTK := Lib.hid htk
        clear htk
        go_wp2_with (first
          | (refine st_val rfl (elem_item rfl rfl rfl hlt) ?_)
          | (refine st_val rfl (run_faddr 42 _ 0 rfl rfl _ Try.underlying42 0 _ rfl rfl 0 sbyte_k) ?_))
        go_roundw
        case rel => exact ⟨k + 1, by omega, by go_num, by rw [HTK.out]; exact hO, hb⟩
        case measure => simp [RowKit.intOf]; omega
    · have hkl : l.take k = l := List.take_of_length_le (by omega)
      rw [hkl] at hO
      have HKL := Lib.hid hkl
      clear hkl
      go_wp2
      go_ret
      exact ⟨_, rfl, hO, hb⟩
end Go.Pb
