/- The counts of keys: the row of sums that are not 0, by keys. -/
import Derived.Test.YteablbficakfcaaRefsA
set_option linter.unusedVariables false
set_option linter.unusedSimpArgs false
set_option linter.unusedSectionVars false
namespace Go.Pb
open Go.RowKit Go.Proofs Go.BigFrame

abbrev numV : Int → Value := fun n => .int .i64 n
abbrev TellsC := TellsK (·.key : Count → Key) countOf
set_option maxRecDepth 8000 in
set_option maxHeartbeats 2000000 in
theorem row_ok (b : Nat) (m : List (Key × Int)) (w : World) (hM : MapIs w b keyV numV m) (hlen : m.length ≤ 1000000) : Calls Try.prog 40 #[.map (some b)] w fun e w' =>
      ∃ v l, e = .returned v ∧ Owns w' w.heap.size 45 v l ∧ TellsC (m.filter nzB) l ∧ Below w.heap.size w w' := by
  have hap := MapIs.apart keyCode hM
  obtain ⟨o, hrange, hR⟩ := run_range 73 Try.underlying73 hM
  have HRANGE := Lib.hid hrange
  clear hrange
  go_enter Try.func40, Try.ntmps40
  go_wp2_with (refine st_val rfl (op_range (mv := .map (some b)) 73 _ rfl rfl HRANGE.out) ?_)
  have hw1 : Below w.heap.size w (w.alloc o) := fresh_alloc (fresh_refl w) _
  have hs1 : (w.alloc o).heap.size = w.heap.size + 1 := by simp
  generalize w.alloc o = w1 at hR hw1 hs1
  clear HRANGE
  simp only [Act.put, List.setIfInBounds_toArray, List.set_cons_succ, List.set_cons_zero]
  go_loopg [3] m.length (fun n v wr => ∃ left l, n = left.length ∧ RowSo m left l ∧ Ranging wr w.heap.size b keyV numV m left ∧ Owns wr (w.heap.size + 1) 45 v l ∧ Below w.heap.size w wr ∧ w.heap.size + 1 ≤ wr.heap.size)
  case atStart => exact ⟨m, [], rfl, RowSo.start hap, hR, Owns.nil _ _ _, hw1, by omega⟩
  case round =>
    obtain ⟨left, l, rfl, hso, hRr, hO, hbr, hge⟩ := hrel
    rcases run_next keyCode 0 hRr with ⟨hl0, hrun⟩ | ⟨k, n, u, hmem, hrun, hRu, hgu, hsu, hent⟩
    · have HRUN := Lib.hid hrun
      clear hrun
      subst hl0
      have hperm : l.Perm ((m.filter nzB).map countOf) := by simpa using hso.1
      have hll : l.length ≤ 1000000000 := by have := hso.2.2; simp at this; omega
      have hsort := sortCounts_ok wr (w.heap.size + 1) u3 l hO hll
      have hown : ∀ k, u3.ownBlock = some k → w.heap.size + 1 ≤ k := fun k hk => (hO.block k hk).1
      have HSORT := Lib.hid hsort
      clear hsort
      go_wp2_with (first
        | (refine st_val rfl (op_next (mv := .pointer (some ⟨w.heap.size, 0, none⟩)) _ rfl rfl HRUN.out) ?_)
        | (go_at_call 58; refine HSORT.out.mono ?_; rintro e w' ⟨rfl, l', hp', hpw, hO', hk'⟩))
      go_ret
      have hapf : Apart (m.filter nzB) := by
        unfold Apart
        exact hap.sublist (List.filter_sublist.map _)
      refine ⟨u3, l', rfl, hO'.lower (by omega), ⟨hp'.trans hperm, hpw, hapf, fun _ => rfl⟩, fresh_keep hbr hk' (fun i hi => by have := hown i hi.symm; omega)⟩
    · simp only [numV] at hrun hent
      have hdl : (del left k).length < left.length := by have := (perm_del hso.2.1 hmem).length_eq; simp at this; omega
      have hown : ∀ i, u3.ownBlock = some i → w.heap.size + 1 ≤ i := fun i hi => (hO.block i hi).1
      have hOu : Owns (u.alloc (.cells (Enc.enc k).toArray 35)) (w.heap.size + 1) 45 u3 l := (hO.keep (Keep.grown hgu) (fun i hi => by have := hown i hi; omega)).alloc _
      have hbu : Below w.heap.size w (u.alloc (.cells (Enc.enc k).toArray 35)) := fresh_alloc (fresh_keep hbr (Keep.grown hgu) (fun i hi => by omega)) _
      have hRW := hRu.alloc (.cells (Enc.enc k).toArray 35)
      have hsz : w.heap.size + 1 ≤ (u.alloc (.cells (Enc.enc k).toArray 35)).heap.size := by simp; omega
      have hkr := range_block (heap_alloc_new u (.cells (Enc.enc k).toArray 35))
      have hblt : b < w.heap.size := hM.lt
      by_cases hz : n = 0
      · subst hz
        have hst := hso.skip hmem rfl
        have HRUN := Lib.hid hrun
        clear hrun
        have HENT := Lib.hid hent
        clear hent
        go_wp2_with (first
          | (refine st_val rfl (op_next (mv := .pointer (some ⟨w.heap.size, 0, none⟩)) _ rfl rfl HRUN.out) ?_)
          | (refine st_val rfl (op_entry (mv := .pointer (some ⟨w.heap.size, 0, none⟩)) _ rfl rfl HENT.out) ?_)
          | (refine st_val rfl (run_alloc 35 Key.zero zero35 rfl) ?_)
          | (refine st_skip rfl (run_store_new 35 _ _ rfl rfl (by simp [hsu]) k Key.zero rfl 35 s35) ?_))
        go_roundg (del left k).length
        case measure => exact hdl
        case rel => exact ⟨del left k, l, rfl, hst, hRW, hOu, hbu, hsz⟩
      · have hst := hso.step hmem hz
        have hbig : (l.length + 1) * 40 ≤ 140737488355328 := by have := hst.2.2; simp at this; omega
        have HRUN := Lib.hid hrun
        clear hrun
        have HENT := Lib.hid hent
        clear hent
        go_wp2_with (first
          | (refine st_val rfl (op_next (mv := .pointer (some ⟨w.heap.size, 0, none⟩)) _ rfl rfl HRUN.out) ?_)
          | (refine st_val rfl (op_entry (mv := .pointer (some ⟨w.heap.size, 0, none⟩)) _ rfl rfl HENT.out) ?_)
          | (refine st_val rfl (run_alloc 35 Key.zero zero35 rfl) ?_)
          | (refine st_skip rfl (run_store_new 35 _ _ rfl rfl (by simp [hsu]) k Key.zero rfl 35 s35) ?_)
          | (refine st_val rfl (load_key rfl rfl k (by rw [← hsu]; exact hkr)) ?_)
          | (refine st_val rfl (build_count k n rfl rfl rfl) ?_)
          | (refine st_val rfl (run_row1 25 45 _ rfl Try.underlying25 Count.zero (countOf (k, n)) 40 info45 rfl (by decide)) ?_)
          | (at_builtin; refine st_push (w.heap.size + 1) rfl _ _ 25 45 rfl Try.underlying25 Count.zero 40 info45 (by decide) u3 l (countOf (k, n)) rfl rfl hOu hbig hsz (fun v' w' hO' hg' hv' => ?_)))
        go_roundg (del left k).length
        case measure => exact hdl
        case rel =>
          exact ⟨del left k, l ++ [countOf (k, n)], rfl, hst, hRW.grown hg' (fun e => by have := hown _ e.symm; omega) (fun e => by have := hown _ e.symm; omega), hO', fresh_grown hbu hg' (fun i hi => by have := hown i hi; omega), Nat.le_trans hsz hg'.size⟩
end Go.Pb
