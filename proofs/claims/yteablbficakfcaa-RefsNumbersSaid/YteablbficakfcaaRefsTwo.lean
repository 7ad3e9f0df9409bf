/- RefsCount, the walk. -/
import Derived.Test.YteablbficakfcaaApartCounts
import Derived.Test.YteablbficakfcaaLent
import Derived.Test.YteablbficakfcaaDuo
import Derived.Test.YteablbficakfcaaRef24W
import Derived.Test.YteablbficakfcaaLaw24B
set_option linter.unusedVariables false
set_option linter.unusedSimpArgs false
set_option linter.unusedSectionVars false
namespace Go.Pb
open Go.RowKit Go.Proofs Go.BigFrame

set_option maxRecDepth 100000 in
set_option maxHeartbeats 1000000 in
theorem refsCount_ok (A : Option Addr) (c : Nat) (l : List Item) (w : World) (hA : Reads w A l) :
    Calls Try.prog 3 #[.slice A l.length c] w fun e w' => e = .returned (.bool true) ∧ Below w.heap.size w w' := by
  by_cases h1 : 600 < l.length
  · go_enter Try.func3, Try.ntmps3
    go_wp2_with (go_at_call 11; refine (awake24_ok _).mono ?_; rintro e w1 ⟨rfl, hb1⟩)
    go_ret
    exact ⟨rfl, hb1⟩
  have hl : l.length ≤ 600 := by omega
  go_enter Try.func3, Try.ntmps3
  go_wp2_with (fail)
  refine (lentItems_ok A c l w hA (by omega)).mono ?_
  rintro e w1 ⟨g, rfl, hL, hb1⟩
  go_wp2_with (fail)
  refine (count_ok (some ⟨g, 0, none⟩) (l.length + 12) l w1 hL.reads (by omega)).mono ?_
  rintro e w2 ⟨va, La, rfl, hOa, hTa, hb2⟩
  have hLa := count_same (by omega) hTa
  subst hLa
  obtain ⟨sa, rfl⟩ := sl_of hOa
  go_wp2_with (fail)
  refine (count_ok (some ⟨g, 0, none⟩) (l.length + 12) l w2 (hL.fresh hb2).reads (by omega)).mono ?_
  rintro e w3 ⟨vb, Lb, rfl, hOb, hTb, hb3⟩
  have hLb := count_same (by omega) hTb
  subst hLb
  obtain ⟨sb, rfl⟩ := sl_of hOb
  have hb13 := fresh_trans hb1 (fresh_trans hb2 hb3)
  have hcr := countRow_len l
  go_wp2_with (fail)
  refine (count24r_ok A c l w3 (hA.fresh hb13) (by omega)).mono ?_
  rintro e w4 ⟨vr, rfl, hOr, hb4⟩
  obtain ⟨Ar, cr, rfl, hRr, -⟩ := hOr.shape
  go_wp2_with (fail)
  refine (samec_ok (countRow l) (countRow l) Ar cr w4 (hOa.fresh (fresh_trans hb3 hb4)) hRr (by omega) true (by simp)).mono ?_
  rintro e w5 ⟨rfl, hb5⟩
  have hb25 := fresh_trans (fresh_trans hb2 hb3) (fresh_trans hb4 hb5)
  have hb15 := fresh_trans hb1 hb25
  go_wp2_with (fail)
  refine (keptItems_ok g A c _ l w5 (hL.fresh hb25) (hA.fresh hb15) (by omega)).mono ?_
  rintro e w6 ⟨rfl, hb6⟩
  have hb26 := fresh_trans hb25 hb6
  have hb16 := fresh_trans hb1 hb26
  have hap := duo_apart hOa hOb (Nat.le_refl _)
  have hOa6 := (hOa.fresh (fresh_trans (fresh_trans hb3 hb4) (fresh_trans hb5 hb6))).alloc (.cells (flat [sa, sb]).toArray 25)
  have hOb6 := ((hOb.fresh (fresh_trans hb4 (fresh_trans hb5 hb6))).lower hb2.size).alloc (.cells (flat [sa, sb]).toArray 25)
  have hrow := Owns.lit (w := w6) w6.heap.size 25 [sa, sb] (Nat.le_refl _) (by unfold maxLen; simp)
  have hb17 := fresh_alloc hb16 (.cells (flat [sa, sb]).toArray 25)
  have hw1 : w1.heap.size ≤ (w6.alloc (.cells (flat [sa, sb]).toArray 25)).heap.size := by have := hb26.size; simp; omega
  go_wp2_with (refine st_val rfl (run_duo 30 25 _ _ rfl Try.underlying30 24 infoS_Counts sa sb rfl rfl) ?_)
  generalize w6.alloc (.cells (flat [sa, sb]).toArray 25) = w7 at hOa6 hOb6 hrow hb17 hw1 ⊢
  generalize w6.heap.size = g6 at hrow ⊢
  refine (apartCounts_ok w7 w1.heap.size 2 (duo sa sb) (duo (countRow l) (countRow l)) (duo (countRow l).length (countRow l).length) _ g6 2 [sa, sb] hrow rfl duo_lsl (duo_own hOa6 hOb6) (duo_dis hap) (duo_len rfl rfl) (by omega) (by omega) (duo_le (by omega) (by omega)) hw1).mono ?_
  rintro e w8 ⟨rfl, hk8⟩
  have hb8 := fresh_keep hb17 hk8 (fun i hi => Nat.le_trans hb1.size (duo_in (fun g hg => (hOa6.block g hg).1) (fun g hg => (hOb6.block g hg).1) hi))
  go_wp2_with (fail)
  refine (awake24_ok _).mono ?_
  rintro e w9 ⟨rfl, hb9⟩
  go_wp2
  go_ret
  exact ⟨rfl, fresh_trans hb8 hb9⟩
end Go.Pb
set_option linter.unusedVariables false
set_option linter.unusedSimpArgs false
set_option linter.unusedSectionVars false
namespace Go.Pb
open Go.RowKit Go.Proofs Go.BigFrame

theorem deltaRow_len (la lb : List Count) : (deltaRow la lb).length ≤ la.length + lb.length := by
  have h1 := downRow_len la []
  have h2 := upRow_len lb (downRow [] la)
  have h3 : (deltaRow la lb).length ≤ (upRow (downRow [] la) lb).length := List.length_filter_le _ _
  simp at h1
  omega
set_option maxRecDepth 100000 in
set_option maxHeartbeats 1000000 in
theorem refsDelta_ok (A B : Option Addr) (c cb : Nat) (la lb : List Count) (w : World) (hA : Reads w A la) (hB : Reads w B lb) (hfit : ∀ c ∈ lb, inR c.refs) :
    Calls Try.prog 4 #[.slice A la.length c, .slice B lb.length cb] w fun e w' => e = .returned (.bool true) ∧ Below w.heap.size w w' := by
  by_cases h1 : 600 < la.length
  · go_enter Try.func4, Try.ntmps4
    go_wp2_with (go_at_call 11; refine (awake24_ok _).mono ?_; rintro e w1 ⟨rfl, hb1⟩)
    go_ret
    exact ⟨rfl, hb1⟩
  by_cases h2 : 600 < lb.length
  · go_enter Try.func4, Try.ntmps4
    go_wp2_with (go_at_call 11; refine (awake24_ok _).mono ?_; rintro e w1 ⟨rfl, hb1⟩)
    go_ret
    exact ⟨rfl, hb1⟩
  have hla : la.length ≤ 600 := by omega
  have hlb : lb.length ≤ 600 := by omega
  have hdl := deltaRow_len la lb
  go_enter Try.func4, Try.ntmps4
  go_wp2_with (fail)
  refine (lentCounts_ok A c la w hA (by omega)).mono ?_
  rintro e w1 ⟨g, rfl, hL, hb1⟩
  go_wp2_with (fail)
  refine (lentCounts_ok B cb lb w1 (hB.fresh hb1) (by omega)).mono ?_
  rintro e w2 ⟨g', rfl, hL', hb2⟩
  have hL2 := hL.fresh hb2
  go_wp2_with (fail)
  refine (delta_ok (some ⟨g, 0, none⟩) (some ⟨g', 0, none⟩) (la.length + 12) (lb.length + 12) la lb w2 hL2.reads hL'.reads (by omega) (by omega)).mono ?_
  rintro e w3 ⟨va, La, rfl, hOa, hTa, hb3⟩
  have hLa := delta_same hfit hTa
  subst hLa
  obtain ⟨sa, rfl⟩ := sl_of hOa
  go_wp2_with (fail)
  refine (delta_ok (some ⟨g, 0, none⟩) (some ⟨g', 0, none⟩) (la.length + 12) (lb.length + 12) la lb w3 (hL2.fresh hb3).reads (hL'.fresh hb3).reads (by omega) (by omega)).mono ?_
  rintro e w4 ⟨vb, Lb, rfl, hOb, hTb, hb4⟩
  have hLb := delta_same hfit hTb
  subst hLb
  obtain ⟨sb, rfl⟩ := sl_of hOb
  have hb34 := fresh_trans hb3 hb4
  have hb14 := fresh_trans (fresh_trans hb1 hb2) hb34
  go_wp2_with (fail)
  refine (delta24r_ok A B c cb la lb w4 (hA.fresh hb14) (hB.fresh hb14) (by omega) (by omega)).mono ?_
  rintro e w5 ⟨vr, rfl, hOr, hb5⟩
  obtain ⟨Ar, cr, rfl, hRr, -⟩ := hOr.shape
  go_wp2_with (fail)
  refine (samec_ok (deltaRow la lb) (deltaRow la lb) Ar cr w5 (hOa.fresh (fresh_trans hb4 hb5)) hRr (by omega) true (by simp)).mono ?_
  rintro e w6 ⟨rfl, hb6⟩
  have hb26 := fresh_trans hb34 (fresh_trans hb5 hb6)
  have hb16 := fresh_trans (fresh_trans hb1 hb2) hb26
  go_wp2_with (fail)
  refine (keptCounts_ok g A c _ la w6 (hL2.fresh hb26) (hA.fresh hb16) (by omega)).mono ?_
  rintro e w7 ⟨rfl, hb7⟩
  have hb27 := fresh_trans hb26 hb7
  have hb17 := fresh_trans hb16 hb7
  go_wp2_with (fail)
  refine (keptCounts_ok g' B cb _ lb w7 (hL'.fresh hb27) (hB.fresh hb17) (by omega)).mono ?_
  rintro e w8 ⟨rfl, hb8⟩
  have hb28 := fresh_trans hb27 hb8
  have hb18 := fresh_trans hb17 hb8
  have hap := duo_apart hOa hOb (Nat.le_refl _)
  have hb48 := fresh_trans (fresh_trans hb5 hb6) (fresh_trans hb7 hb8)
  have hOa8 := (hOa.fresh (fresh_trans hb4 hb48)).alloc (.cells (flat [sa, sb]).toArray 25)
  have hOb8 := ((hOb.fresh hb48).lower hb3.size).alloc (.cells (flat [sa, sb]).toArray 25)
  have hrow := Owns.lit (w := w8) w8.heap.size 25 [sa, sb] (Nat.le_refl _) (by unfold maxLen; simp)
  have hb19 := fresh_alloc hb18 (.cells (flat [sa, sb]).toArray 25)
  have hw2 : w2.heap.size ≤ (w8.alloc (.cells (flat [sa, sb]).toArray 25)).heap.size := by have := hb28.size; simp; omega
  have hw12 : w.heap.size ≤ w2.heap.size := Nat.le_trans hb1.size hb2.size
  go_wp2_with (refine st_val rfl (run_duo 30 25 _ _ rfl Try.underlying30 24 infoS_Counts sa sb rfl rfl) ?_)
  generalize w8.alloc (.cells (flat [sa, sb]).toArray 25) = w9 at hOa8 hOb8 hrow hb19 hw2 ⊢
  generalize w8.heap.size = g8 at hrow ⊢
  refine (apartCounts_ok w9 w2.heap.size 2 (duo sa sb) (duo (deltaRow la lb) (deltaRow la lb)) (duo (deltaRow la lb).length (deltaRow la lb).length) _ g8 2 [sa, sb] hrow rfl duo_lsl (duo_own hOa8 hOb8) (duo_dis hap) (duo_len rfl rfl) (by omega) (by omega) (duo_le (by omega) (by omega)) hw2).mono ?_
  rintro e w10 ⟨rfl, hk10⟩
  have hb10 := fresh_keep hb19 hk10 (fun i hi => Nat.le_trans hw12 (duo_in (fun g hg => (hOa8.block g hg).1) (fun g hg => (hOb8.block g hg).1) hi))
  go_wp2_with (fail)
  refine (awake24_ok _).mono ?_
  rintro e w11 ⟨rfl, hb11⟩
  go_wp2
  go_ret
  exact ⟨rfl, fresh_trans hb10 hb11⟩
end Go.Pb
