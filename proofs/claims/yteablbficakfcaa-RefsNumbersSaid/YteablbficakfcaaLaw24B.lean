/- The statements of refs: the chapter's examples. -/
import Derived.Test.YteablbficakfcaaLaw24A
import Derived.Test.YteablbficakfcaaRowN
set_option linter.unusedVariables false
set_option linter.unusedSimpArgs false
set_option linter.unusedSectionVars false
namespace Go.Pb
open Go.RowKit Go.Proofs Go.BigFrame

def extent9 : Item := { Item.zero with kind := 1, key := keyB 9, slice := ⟨keyB 9, 0, 0⟩ }
def four24 : List Item := [sliceB 7, sliceB 5, extent9, sliceB 7]
def three24 : List Count := [countB 9 4, countB 7 1, countB 5 1]
def two24 : List Count := [countB 5 1, countB 7 2]
def rest24 : List Count := [countB 7 (-1), countB 9 4]
theorem count_four : (countMap four24).filter nzB = [(keyB 7, 2), (keyB 5, 1)] := by kernel_rfl
theorem delta_three : (deltaMap two24 three24).filter nzB = [(keyB 7, -1), (keyB 9, 4)] := by kernel_rfl
theorem klt57 : klt (keyB 7) (keyB 5) = false := by kernel_rfl
theorem klt79 : klt (keyB 9) (keyB 7) = false := by kernel_rfl
theorem tells_two {L : List Count} (h : TellsC ((countMap four24).filter nzB) L) : L = two24 := by
  refine (h.one ?_ ?_).symm
  · rw [count_four]
    exact List.Perm.swap _ _ _
  · exact List.pairwise_cons.2 ⟨fun b hb => by simp at hb; subst hb; exact klt57, List.pairwise_singleton _ _⟩
theorem tells_rest {L : List Count} (h : TellsC ((deltaMap two24 three24).filter nzB) L) : L = rest24 := by
  refine (h.one ?_ ?_).symm
  · rw [delta_three]
    exact List.Perm.refl _
  · exact List.pairwise_cons.2 ⟨fun b hb => by simp at hb; subst hb; exact klt79, List.pairwise_singleton _ _⟩
theorem slice7_ok (w : World) : Calls Try.prog 22 #[.int .u8 7] w fun e w' => e = .returned (agg (sliceB 7)) ∧ Below w.heap.size w w' := slice24_ok 7 w
theorem slice5_ok (w : World) : Calls Try.prog 22 #[.int .u8 5] w fun e w' => e = .returned (agg (sliceB 5)) ∧ Below w.heap.size w w' := slice24_ok 5 w
theorem count9_ok (n : Int) (w : World) : Calls Try.prog 23 #[.int .u8 9, .int .i64 n] w fun e w' => e = .returned (agg (countB 9 n)) ∧ Below w.heap.size w w' := count24_ok 9 n w
theorem count7_ok (n : Int) (w : World) : Calls Try.prog 23 #[.int .u8 7, .int .i64 n] w fun e w' => e = .returned (agg (countB 7 n)) ∧ Below w.heap.size w w' := count24_ok 7 n w
theorem count5_ok (n : Int) (w : World) : Calls Try.prog 23 #[.int .u8 5, .int .i64 n] w fun e w' => e = .returned (agg (countB 5 n)) ∧ Below w.heap.size w w' := count24_ok 5 n w
theorem reads_new {α : Type} [Enc α] (w : World) (e : TypeId) (l : List α) : Reads (w.alloc (.cells (flat l).toArray e)) (some ⟨w.heap.size, 0, none⟩) l := fun _ => ⟨_, _, rfl, range_block (heap_alloc_new w _)⟩
theorem samec_ok {v1 : Value} {base1 : Nat} (L1 L2 : List Count) (B : Option Addr) (c2 : Nat) (w : World) (h1 : Owns w base1 45 v1 L1) (h2 : Reads w B L2) (hl2 : L2.length ≤ 1000000) (b : Bool) (hb : decide (L1 = L2) = b) :
    Calls Try.prog 14 #[v1, .slice B L2.length c2] w fun e w' => e = .returned (.bool b) ∧ Below w.heap.size w w' := by
  subst hb
  have l1 := h1.len_max
  simp only [maxLen] at l1
  obtain ⟨A, c, rfl, hR1, _⟩ := h1.shape
  refine (SameCounts_ok A B c c2 L1 L2 w hR1 h2 (by omega) (by omega)).mono ?_
  rintro e w' ⟨rfl, n, rfl⟩
  exact ⟨rfl, fresh_drewN (fresh_refl w) n⟩

set_option maxRecDepth 100000 in
set_option maxHeartbeats 4000000 in
theorem awake24_ok (w : World) : Calls Try.prog 11 #[] w fun e w' => e = .returned (.bool true) ∧ Below w.heap.size w w' := by
  go_enter Try.func11, Try.ntmps11
  go_wp2_with (fail)
  refine (slice7_ok _).mono ?_
  rintro e u1 ⟨rfl, h1⟩
  go_wp2_with (fail)
  refine (slice5_ok _).mono ?_
  rintro e u2 ⟨rfl, h2⟩
  go_wp2_with (fail)
  refine (slice7_ok _).mono ?_
  rintro e u3 ⟨rfl, h3⟩
  have k3 := fresh_trans (fresh_trans h1 h2) h3
  have hR4 := reads_new u3 42 four24
  have k4 := fresh_alloc k3 (.cells (flat four24).toArray 42)
  go_wp2_with (refine st_val rfl (run_rowN 22 42 4 [(0, .tmp 3), (1, .tmp 4), (2, .tmp 8), (3, .tmp 9)] rfl Try.underlying22 Item.zero 136 info42 four24 rfl rfl (by decide) (by decide)) ?_)
  generalize u3.alloc (.cells (flat four24).toArray 42) = u4 at hR4 k4 ⊢
  refine (count_ok _ 4 four24 _ hR4 (by decide)).mono ?_
  rintro e u5 ⟨v1, L1, rfl, hO1, hT1, h5⟩
  have hL1 := tells_two hT1
  subst hL1
  have k5 := fresh_trans k4 h5
  go_wp2_with (fail)
  refine (count9_ok 4 _).mono ?_
  rintro e u6 ⟨rfl, h6⟩
  go_wp2_with (fail)
  refine (count7_ok 1 _).mono ?_
  rintro e u7 ⟨rfl, h7⟩
  go_wp2_with (fail)
  refine (count5_ok 1 _).mono ?_
  rintro e u8 ⟨rfl, h8⟩
  have s8 := fresh_trans (fresh_trans h6 h7) h8
  have hR9 := reads_new u8 45 three24
  have s9 := fresh_alloc s8 (.cells (flat three24).toArray 45)
  go_wp2_with (refine st_val rfl (run_rowN 25 45 3 [(0, .tmp 13), (1, .tmp 14), (2, .tmp 15)] rfl Try.underlying25 Count.zero 40 info45 three24 rfl rfl (by decide) (by decide)) ?_)
  generalize u8.alloc (.cells (flat three24).toArray 45) = u9 at hR9 s9 ⊢
  have hO9 := hO1.fresh s9
  obtain ⟨A1, c1, rfl, hRd9, _⟩ := hO9.shape
  refine (delta_ok A1 _ c1 3 two24 three24 u9 hRd9 hR9 (by decide) (by decide)).mono ?_
  rintro e u10 ⟨v2, L2, rfl, hO2, hT2, h10⟩
  have hL2 := tells_rest hT2
  subst hL2
  go_wp2_with (fail)
  refine (count5_ok 1 _).mono ?_
  rintro e u11 ⟨rfl, h11⟩
  go_wp2_with (fail)
  refine (count7_ok 2 _).mono ?_
  rintro e u12 ⟨rfl, h12⟩
  have s12 := fresh_trans (fresh_trans h10 h11) h12
  have hR13 := reads_new u12 45 two24
  have s13 := fresh_alloc s12 (.cells (flat two24).toArray 45)
  have r13 := fresh_alloc (fresh_trans h11 h12) (.cells (flat two24).toArray 45)
  go_wp2_with (refine st_val rfl (run_rowN 25 45 2 [(0, .tmp 19), (1, .tmp 20)] rfl Try.underlying25 Count.zero 40 info45 two24 rfl rfl (by decide) (by decide)) ?_)
  generalize u12.alloc (.cells (flat two24).toArray 45) = u13 at hR13 s13 r13 ⊢
  refine (samec_ok two24 two24 _ 2 u13 (hO9.fresh s13) hR13 (by decide) true (by simp)).mono ?_
  rintro e u14 ⟨rfl, h14⟩
  go_wp2_with (fail)
  refine (count7_ok (-1) _).mono ?_
  rintro e u15 ⟨rfl, h15⟩
  go_wp2_with (fail)
  refine (count9_ok 4 _).mono ?_
  rintro e u16 ⟨rfl, h16⟩
  have s16 := fresh_trans (fresh_trans h14 h15) h16
  have hR17 := reads_new u16 45 rest24
  have s17 := fresh_alloc s16 (.cells (flat rest24).toArray 45)
  go_wp2_with (refine st_val rfl (run_rowN 25 45 2 [(0, .tmp 25), (1, .tmp 26)] rfl Try.underlying25 Count.zero 40 info45 rest24 rfl rfl (by decide) (by decide)) ?_)
  generalize u16.alloc (.cells (flat rest24).toArray 45) = u17 at hR17 s17 ⊢
  refine (samec_ok rest24 rest24 _ 2 u17 ((hO2.fresh r13).fresh s17) hR17 (by decide) true (by simp)).mono ?_
  rintro e u18 ⟨rfl, h18⟩
  go_wp2
  go_ret
  exact ⟨rfl, fresh_trans (fresh_trans (fresh_trans (fresh_trans k5 s9) s13) s17) h18⟩
end Go.Pb
