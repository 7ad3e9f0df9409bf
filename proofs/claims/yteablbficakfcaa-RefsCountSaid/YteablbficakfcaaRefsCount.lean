/- RefsCount, the walk. -/
import Derived.Test.YteablbficakfcaaApartCounts
import Derived.Test.YteablbficakfcaaKept
import Derived.Test.YteablbficakfcaaDuo
import Derived.Test.YteablbficakfcaaCount24
import Derived.Test.YteablbficakfcaaLaw24B
set_option linter.unusedVariables false
set_option linter.unusedSimpArgs false
set_option linter.unusedSectionVars false
namespace Go.Pb
open Go.RowKit Go.Proofs Go.BigFrame

set_option maxRecDepth 100000 in
set_option maxHeartbeats 1000000 in
theorem refsCount_ok (A : Option Addr) (c : Nat) (l : List Item) (w : World) (hA : Reads w A l) :
    Calls Try.prog 3 #[.slice A l.length c] w fun e w' => e = .returned (.bool true) ∧ Below w.heap.size w w' := by
  by_cases h1 : 600 < l.length
  · go_enter Try.func3, Try.ntmps3
    go_wp2_with (go_at_call 11; refine (awake24_ok _).mono ?_; rintro e w1 ⟨rfl, hb1⟩)
    go_ret
    exact ⟨rfl, hb1⟩
  have hl : l.length ≤ 600 := by omega
  go_enter Try.func3, Try.ntmps3
  go_wp2_with (fail)
  refine (lentItems_ok A c l w hA (by omega)).mono ?_
  rintro e w1 ⟨g, rfl, hL, hb1⟩
  go_wp2_with (fail)
  refine (count_ok (some ⟨g, 0, none⟩) (l.length + 12) l w1 hL.reads (by omega)).mono ?_
  rintro e w2 ⟨va, La, rfl, hOa, hTa, hb2⟩
  have hLa := count_same (by omega) hTa
  subst hLa
  obtain ⟨sa, rfl⟩ := sl_of hOa
  go_wp2_with (fail)
  refine (count_ok (some ⟨g, 0, none⟩) (l.length + 12) l w2 (hL.fresh hb2).reads (by omega)).mono ?_
  rintro e w3 ⟨vb, Lb, rfl, hOb, hTb, hb3⟩
  have hLb := count_same (by omega) hTb
  subst hLb
  obtain ⟨sb, rfl⟩ := sl_of hOb
  have hb13 := fresh_trans hb1 (fresh_trans hb2 hb3)
  have hcr := countRow_len l
  go_wp2_with (fail)
  refine (count24r_ok A c l w3 (hA.fresh hb13) (by omega)).mono ?_
  rintro e w4 ⟨vr, rfl, hOr, hb4⟩
  obtain ⟨Ar, cr, rfl, hRr, -⟩ := hOr.shape
  go_wp2_with (fail)
  refine (samec_ok (countRow l) (countRow l) Ar cr w4 (hOa.fresh (fresh_trans hb3 hb4)) hRr (by omega) true (by simp)).mono ?_
  rintro e w5 ⟨rfl, hb5⟩
  have hb25 := fresh_trans (fresh_trans hb2 hb3) (fresh_trans hb4 hb5)
  have hb15 := fresh_trans hb1 hb25
  go_wp2_with (fail)
  refine (keptItems_ok g A c _ l w5 (hL.fresh hb25) (hA.fresh hb15) (by omega)).mono ?_
  rintro e w6 ⟨rfl, hb6⟩
  have hb26 := fresh_trans hb25 hb6
  have hb16 := fresh_trans hb1 hb26
  have hap := duo_apart hOa hOb (Nat.le_refl _)
  have hOa6 := (hOa.fresh (fresh_trans (fresh_trans hb3 hb4) (fresh_trans hb5 hb6))).alloc (.cells (flat [sa, sb]).toArray 25)
  have hOb6 := ((hOb.fresh (fresh_trans hb4 (fresh_trans hb5 hb6))).lower hb2.size).alloc (.cells (flat [sa, sb]).toArray 25)
  have hrow := Owns.lit (w := w6) w6.heap.size 25 [sa, sb] (Nat.le_refl _) (by unfold maxLen; simp)
  have hb17 := fresh_alloc hb16 (.cells (flat [sa, sb]).toArray 25)
  have hw1 : w1.heap.size ≤ (w6.alloc (.cells (flat [sa, sb]).toArray 25)).heap.size := by have := hb26.size; simp; omega
  go_wp2_with (refine st_val rfl (run_duo 30 25 _ _ rfl Try.underlying30 24 infoS_Counts sa sb rfl rfl) ?_)
  generalize w6.alloc (.cells (flat [sa, sb]).toArray 25) = w7 at hOa6 hOb6 hrow hb17 hw1 ⊢
  generalize w6.heap.size = g6 at hrow ⊢
  refine (apartCounts_ok w7 w1.heap.size 2 (duo sa sb) (duo (countRow l) (countRow l)) (duo (countRow l).length (countRow l).length) _ g6 2 [sa, sb] hrow rfl duo_lsl (duo_own hOa6 hOb6) (duo_dis hap) (duo_len rfl rfl) (by omega) (by omega) (duo_le (by omega) (by omega)) hw1).mono ?_
  rintro e w8 ⟨rfl, hk8⟩
  have hb8 := fresh_keep hb17 hk8 (fun i hi => Nat.le_trans hb1.size (duo_in (fun g hg => (hOa6.block g hg).1) (fun g hg => (hOb6.block g hg).1) hi))
  go_wp2_with (fail)
  refine (awake24_ok _).mono ?_
  rintro e w9 ⟨rfl, hb9⟩
  go_wp2
  go_ret
  exact ⟨rfl, fresh_trans hb8 hb9⟩
end Go.Pb
