/- Do lists that were handed out lie apart? Of one kind: Counts. -/
import Derived.Test.YteablbficakfcaaBagCounts
set_option linter.unusedVariables false
set_option linter.unusedSimpArgs false
set_option linter.unusedSectionVars false
namespace Go.Pb
open Go.RowKit Go.Proofs Go.BigFrame
set_option maxRecDepth 100000 in
set_option maxHeartbeats 1000000 in
/-- ApartCounts, of lists in rows of their own. -/
theorem apartCounts_ok (w : World) (base N : Nat) (V : Nat → Sl) (L0 : Nat → List Count) (ns : Nat → Nat) (bl gl c : Nat) (lsl : List Sl) (hls : Owns w bl 25 (.slice (some ⟨gl, 0, none⟩) N c) lsl) (hll : lsl.length = N) (hV : ∀ i, i < N → lsl[i]? = some (V i))
    (hown : ∀ i, i < N → Owns w base 45 (V i).val (L0 i)) (hdis : ∀ i j g, i < N → j < N → (V i).own = some g → (V j).own = some g → i = j) (hns : ∀ i, i < N → (L0 i).length = ns i) (hN : N ≤ 1000) (hN0 : 0 < N) (hns2 : ∀ i, i < N → ns i ≤ 1000000) (hbase : base ≤ w.heap.size) :
    Calls Try.prog 17 #[.slice (some ⟨gl, 0, none⟩) N c] w fun e w' => e = .returned (.bool true) ∧ Keep (InV N V) w w' := by
  have hb0 : Below w.heap.size w (w.alloc (.cells (Enc.enc Bag.zero).toArray 98)) := fresh_alloc (fresh_refl w) _
  have hB0 := heap_alloc_new w (.cells (Enc.enc Bag.zero).toArray 98)
  rw [← Bag.only_nil 14] at hB0 hb0
  have hO0 : Owns (w.alloc (.cells (Enc.enc (Bag.only 14 Sl.nil)).toArray 98)) w.heap.size 25 Sl.nil.val ([] : List Sl) := Owns.nil _ _ _
  have hwg : w.heap.size ≤ w.heap.size := Nat.le_refl _
  have hbz := Bag.only_nil 14
  have HBZ := Lib.hid hbz
  clear hbz
  have HV := Lib.hid hV
  clear hV
  have HLL := Lib.hid hll
  clear hll
  have HNS := Lib.hid hns
  clear hns
  have HNS2 := Lib.hid hns2
  clear hns2
  go_enter Try.func17, Try.ntmps17
  go_wp2_with (first
    | (refine st_val rfl (build_bag rfl) ?_)
    | (refine st_val rfl (run_box 98 _ Bag.zero rfl rfl) ?_; rw [← HBZ.out]))
  generalize w.alloc (.cells (Enc.enc (Bag.only 14 Sl.nil)).toArray 98) = w1 at hb0 hB0 hO0 ⊢
  obtain ⟨gb, hgb⟩ : ∃ gb, gb = w.heap.size := ⟨_, rfl⟩
  rw [← hgb] at hB0 ⊢
  have hgb2 : w.heap.size ≤ gb := by omega
  clear hgb
  go_loopw [4] (fun i wr => ∃ (k : Nat) (s : Sl), k ≤ N ∧ i = .int .i64 k ∧ wr.heap[gb]? = some (.cells (Enc.enc (Bag.only 14 s)).toArray 98) ∧ Owns wr w.heap.size 25 s.val (lsl.take k) ∧ Below w.heap.size w wr) (fun i _ => N - (RowKit.intOf i).toNat)
  case atStart => exact ⟨0, Sl.nil, by omega, rfl, hB0, hO0, hb0⟩
  case round =>
    clear hB0 hO0 hb0
    obtain ⟨k, s, hk, rfl, hB, hO, hb⟩ := hrel
    by_cases hlt : k < N
    · have hvk := HV.out k hlt
      have hcell := ls_cell (hls.fresh hb) hvk
      have htk : lsl.take (k + 1) = lsl.take k ++ [V k] := by
        have hlk : k < lsl.length := by rw [HLL.out]; exact hlt
        rw [List.take_succ_eq_append_getElem hlk]
        rw [List.getElem?_eq_getElem hlk] at hvk
        injection hvk with hvk
        rw [hvk]
      have hkl : (lsl.take k).length ≤ 1000 := by rw [List.length_take]; omega
      have hsz := hb.size
      have hput := putCounts_ok wr gb w.heap.size s (V k) (lsl.take k) hB hO hkl hsz
      have hso : ∀ g, s.own = some g → w.heap.size ≤ g := fun g hg => (hO.block g hg).1
      clear hB hO
      have HVK := Lib.hid hvk
      clear hvk
      have HTK := Lib.hid htk
      clear htk
      have HPUT := Lib.hid hput
      clear hput
      have HSO := Lib.hid hso
      clear hso
      go_wp2_with (first
        | (refine st_val rfl (run_elem1 30 25 _ _ rfl Try.underlying30 sl_count rfl k rfl hlt) ?_)
        | (refine st_val rfl (run_load1 25 _ rfl rfl ?_ _ Try.underlying25 rfl) ?_; (with_reducible exact hcell)))
      refine HPUT.out.mono ?_
      rintro e u ⟨rfl, s', hO', hB', hk'⟩
      rw [← HTK.out] at hO'
      have hb' := fresh_keep hb hk' (fun i hi => by
        rcases hi with hi | hi
        · omega
        · exact HSO.out i hi)
      clear hk' hb
      go_wp2
      go_roundw
      case rel => exact ⟨k + 1, s', by omega, by go_num, hB', hO', hb'⟩
      case measure => simp [RowKit.intOf]; omega
    · have hkn : lsl.take k = lsl := List.take_of_length_le (by rw [HLL.out]; omega)
      rw [hkn] at hO
      obtain ⟨g2, cap, hv, -, -, -⟩ := hO.some' (by intro e; have := HLL.out; rw [e] at this; simp at this; omega)
      rw [HLL.out] at hv
      have hs : s = ⟨some ⟨g2, 0, none⟩, N, cap⟩ := by
        obtain ⟨A, n, c'⟩ := s
        simp only [Sl.val, Value.slice.injEq] at hv
        obtain ⟨rfl, rfl, rfl⟩ := hv
        rfl
      subst hs
      have hcall := bagCounts_ok wr gb base N V L0 ns w.heap.size g2 cap lsl hB hO HV.out (fun i hi => (hown i hi).fresh hb) hdis HNS.out hN HNS2.out (Nat.le_trans hbase hb.size)
      have hK0 : Keep (InV N V) w wr := Keep.below hb
      clear hkn hO hB hb hv
      have HCALL := Lib.hid hcall
      clear hcall
      go_wp2_with (fail)
      refine HCALL.out.mono ?_
      rintro e u ⟨rfl, hku⟩
      go_wp2
      go_ret
      exact ⟨rfl, hK0.trans hku⟩
end Go.Pb
