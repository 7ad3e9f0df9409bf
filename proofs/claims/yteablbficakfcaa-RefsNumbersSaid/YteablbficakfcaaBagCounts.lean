/- Do lists that were handed out lie apart? Here, of one kind: Counts. -/
import Derived.Test.YteablbficakfcaaBag
import Derived.Test.YteablbficakfcaaFlat
set_option linter.unusedVariables false
set_option linter.unusedSimpArgs false
set_option linter.unusedSectionVars false
namespace Go.Pb
open Go.RowKit Go.Proofs Go.BigFrame

theorem sB0_Counts : (Try.prog.info? 77).map (·.size) = some 1 := by kernel_rfl
theorem sB1_Counts : (Try.prog.info? 78).map (·.size) = some 1 := by kernel_rfl
theorem sB2_Counts : (Try.prog.info? 79).map (·.size) = some 1 := by kernel_rfl
theorem sB3_Counts : (Try.prog.info? 80).map (·.size) = some 1 := by kernel_rfl
theorem sB4_Counts : (Try.prog.info? 81).map (·.size) = some 1 := by kernel_rfl
theorem sB5_Counts : (Try.prog.info? 82).map (·.size) = some 1 := by kernel_rfl
theorem sB6_Counts : (Try.prog.info? 83).map (·.size) = some 1 := by kernel_rfl
theorem sB7_Counts : (Try.prog.info? 84).map (·.size) = some 1 := by kernel_rfl
theorem sB8_Counts : (Try.prog.info? 85).map (·.size) = some 1 := by kernel_rfl
theorem sB9_Counts : (Try.prog.info? 86).map (·.size) = some 1 := by kernel_rfl
theorem sB10_Counts : (Try.prog.info? 87).map (·.size) = some 1 := by kernel_rfl
theorem sB11_Counts : (Try.prog.info? 88).map (·.size) = some 1 := by kernel_rfl
theorem sB12_Counts : (Try.prog.info? 89).map (·.size) = some 1 := by kernel_rfl
theorem sB13_Counts : (Try.prog.info? 90).map (·.size) = some 1 := by kernel_rfl
theorem sB14_Counts : (Try.prog.info? 30).map (·.size) = some 1 := by kernel_rfl
theorem sB15_Counts : (Try.prog.info? 91).map (·.size) = some 1 := by kernel_rfl
theorem sB16_Counts : (Try.prog.info? 92).map (·.size) = some 1 := by kernel_rfl
theorem sB17_Counts : (Try.prog.info? 93).map (·.size) = some 1 := by kernel_rfl
theorem sB18_Counts : (Try.prog.info? 94).map (·.size) = some 1 := by kernel_rfl
theorem sB19_Counts : (Try.prog.info? 95).map (·.size) = some 1 := by kernel_rfl
theorem sB20_Counts : (Try.prog.info? 96).map (·.size) = some 1 := by kernel_rfl
set_option maxRecDepth 100000 in
set_option maxHeartbeats 4000000 in
theorem bagCounts_ok (w : World) (gb base N : Nat) (V : Nat → Sl) (L0 : Nat → List Count) (ns : Nat → Nat) (bl gl c : Nat) (lsl : List Sl) (hB : w.heap[gb]? = some (.cells (Enc.enc (Bag.only 14 ⟨some ⟨gl, 0, none⟩, N, c⟩)).toArray 98)) (hls : Owns w bl 25 (.slice (some ⟨gl, 0, none⟩) N c) lsl) (hV : ∀ i, i < N → lsl[i]? = some (V i))
    (hown : ∀ i, i < N → Owns w base 45 (V i).val (L0 i)) (hdis : ∀ i j g, i < N → j < N → (V i).own = some g → (V j).own = some g → i = j) (hns : ∀ i, i < N → (L0 i).length = ns i) (hN : N ≤ 1000) (hns2 : ∀ i, i < N → ns i ≤ 1000000) (hbase : base ≤ w.heap.size) :
    Calls Try.prog 43 #[.pointer (some ⟨gb, 0, none⟩)] w fun e w' => e = .returned (.bool true) ∧ Keep (InV N V) w w' := by
  have hgb : ¬ InV N V gb := fun ⟨i, hi, h⟩ => (hown i hi).not_block hB (by decide) h
  have KB : ∀ u : World, Keep (InV N V) w u → ∀ i, i < 21 → i ≠ 14 → u.cell? ⟨gb, i, none⟩ = some (.slice none 0 0) := fun u hu i hi hne => bag_off (hu.heap hB hgb) i hi hne
  have KJ : ∀ u : World, Keep (InV N V) w u → u.cell? ⟨gb, 14, none⟩ = some (.slice (some ⟨gl, 0, none⟩) N c) := fun u hu => bag_at (hu.heap hB hgb) (by decide)
  have k0 : Keep (InV N V) w w := Keep.refl w
  have KF : ∀ u : World, Below w.heap.size w u → Calls Try.prog 75 #[.slice (some ⟨gl, 0, none⟩) N c] u fun e w' => e = .returned (.bool true) ∧ Keep (InV N V) u w' := fun u hu =>
    flatcount_ok u base N V L0 ns bl gl c lsl (hls.fresh hu) hV (fun i hi => (hown i hi).fresh hu) hdis hns hN hns2 (Nat.le_trans hbase hu.size)
  have b0 : Below w.heap.size w w := fresh_refl w
  have hc0 := KB w k0 0 (by decide) (by decide)
  have HKB := Lib.hid KB
  have HKJ := Lib.hid KJ
  have HKF := Lib.hid KF
  clear KB KJ KF hB hls hV hown hdis hns hns2
  go_enter Try.func43, Try.ntmps43
  go_wp2_with (first
    | (refine st_val rfl (run_faddr 98 _ 0 rfl rfl _ Try.underlying98 0 _ rfl rfl 0 sB0_Counts) ?_)
    | (refine st_val rfl (run_load1 77 _ rfl rfl ?_ _ Try.underlying77 rfl) ?_; (with_reducible exact hc0)))
  refine (flatLimbs_none _).mono ?_
  rintro e u0 ⟨rfl, hb0⟩
  have k1 := k0.trans (Keep.below hb0)
  have b1 := fresh_trans b0 hb0
  clear hb0 hc0 k0 b0
  have hc1 := HKB.out _ k1 1 (by decide) (by decide)
  go_wp2_with (first
    | (refine st_val rfl (run_faddr 98 _ 1 rfl rfl _ Try.underlying98 1 _ rfl rfl 0 sB1_Counts) ?_)
    | (refine st_val rfl (run_load1 78 _ rfl rfl ?_ _ Try.underlying78 rfl) ?_; (with_reducible exact hc1)))
  refine (flatWords_none _).mono ?_
  rintro e u1 ⟨rfl, hb1⟩
  have k2 := k1.trans (Keep.below hb1)
  have b2 := fresh_trans b1 hb1
  clear hb1 hc1 k1 b1
  have hc2 := HKB.out _ k2 2 (by decide) (by decide)
  go_wp2_with (first
    | (refine st_val rfl (run_faddr 98 _ 2 rfl rfl _ Try.underlying98 2 _ rfl rfl 0 sB2_Counts) ?_)
    | (refine st_val rfl (run_load1 79 _ rfl rfl ?_ _ Try.underlying79 rfl) ?_; (with_reducible exact hc2)))
  refine (flatInts_none _).mono ?_
  rintro e u2 ⟨rfl, hb2⟩
  have k3 := k2.trans (Keep.below hb2)
  have b3 := fresh_trans b2 hb2
  clear hb2 hc2 k2 b2
  have hc3 := HKB.out _ k3 3 (by decide) (by decide)
  go_wp2_with (first
    | (refine st_val rfl (run_faddr 98 _ 3 rfl rfl _ Try.underlying98 3 _ rfl rfl 0 sB3_Counts) ?_)
    | (refine st_val rfl (run_load1 80 _ rfl rfl ?_ _ Try.underlying80 rfl) ?_; (with_reducible exact hc3)))
  refine (flatLongs_none _).mono ?_
  rintro e u3 ⟨rfl, hb3⟩
  have k4 := k3.trans (Keep.below hb3)
  have b4 := fresh_trans b3 hb3
  clear hb3 hc3 k3 b3
  have hc4 := HKB.out _ k4 4 (by decide) (by decide)
  go_wp2_with (first
    | (refine st_val rfl (run_faddr 98 _ 4 rfl rfl _ Try.underlying98 4 _ rfl rfl 0 sB4_Counts) ?_)
    | (refine st_val rfl (run_load1 81 _ rfl rfl ?_ _ Try.underlying81 rfl) ?_; (with_reducible exact hc4)))
  refine (flatTexts_none _).mono ?_
  rintro e u4 ⟨rfl, hb4⟩
  have k5 := k4.trans (Keep.below hb4)
  have b5 := fresh_trans b4 hb4
  clear hb4 hc4 k4 b4
  have hc5 := HKB.out _ k5 5 (by decide) (by decide)
  go_wp2_with (first
    | (refine st_val rfl (run_faddr 98 _ 5 rfl rfl _ Try.underlying98 5 _ rfl rfl 0 sB5_Counts) ?_)
    | (refine st_val rfl (run_load1 82 _ rfl rfl ?_ _ Try.underlying82 rfl) ?_; (with_reducible exact hc5)))
  refine (flatBytes_none _).mono ?_
  rintro e u5 ⟨rfl, hb5⟩
  have k6 := k5.trans (Keep.below hb5)
  have b6 := fresh_trans b5 hb5
  clear hb5 hc5 k5 b5
  have hc6 := HKB.out _ k6 6 (by decide) (by decide)
  go_wp2_with (first
    | (refine st_val rfl (run_faddr 98 _ 6 rfl rfl _ Try.underlying98 6 _ rfl rfl 0 sB6_Counts) ?_)
    | (refine st_val rfl (run_load1 83 _ rfl rfl ?_ _ Try.underlying83 rfl) ?_; (with_reducible exact hc6)))
  refine (flatTreeKeys_none _).mono ?_
  rintro e u6 ⟨rfl, hb6⟩
  have k7 := k6.trans (Keep.below hb6)
  have b7 := fresh_trans b6 hb6
  clear hb6 hc6 k6 b6
  have hc7 := HKB.out _ k7 7 (by decide) (by decide)
  go_wp2_with (first
    | (refine st_val rfl (run_faddr 98 _ 7 rfl rfl _ Try.underlying98 7 _ rfl rfl 0 sB7_Counts) ?_)
    | (refine st_val rfl (run_load1 84 _ rfl rfl ?_ _ Try.underlying84 rfl) ?_; (with_reducible exact hc7)))
  refine (flatPieces_none _).mono ?_
  rintro e u7 ⟨rfl, hb7⟩
  have k8 := k7.trans (Keep.below hb7)
  have b8 := fresh_trans b7 hb7
  clear hb7 hc7 k7 b7
  have hc8 := HKB.out _ k8 8 (by decide) (by decide)
  go_wp2_with (first
    | (refine st_val rfl (run_faddr 98 _ 8 rfl rfl _ Try.underlying98 8 _ rfl rfl 0 sB8_Counts) ?_)
    | (refine st_val rfl (run_load1 85 _ rfl rfl ?_ _ Try.underlying85 rfl) ?_; (with_reducible exact hc8)))
  refine (flatFates_none _).mono ?_
  rintro e u8 ⟨rfl, hb8⟩
  have k9 := k8.trans (Keep.below hb8)
  have b9 := fresh_trans b8 hb8
  clear hb8 hc8 k8 b8
  have hc9 := HKB.out _ k9 9 (by decide) (by decide)
  go_wp2_with (first
    | (refine st_val rfl (run_faddr 98 _ 9 rfl rfl _ Try.underlying98 9 _ rfl rfl 0 sB9_Counts) ?_)
    | (refine st_val rfl (run_load1 86 _ rfl rfl ?_ _ Try.underlying86 rfl) ?_; (with_reducible exact hc9)))
  refine (flatFrames_none _).mono ?_
  rintro e u9 ⟨rfl, hb9⟩
  have k10 := k9.trans (Keep.below hb9)
  have b10 := fresh_trans b9 hb9
  clear hb9 hc9 k9 b9
  have hc10 := HKB.out _ k10 10 (by decide) (by decide)
  go_wp2_with (first
    | (refine st_val rfl (run_faddr 98 _ 10 rfl rfl _ Try.underlying98 10 _ rfl rfl 0 sB10_Counts) ?_)
    | (refine st_val rfl (run_load1 87 _ rfl rfl ?_ _ Try.underlying87 rfl) ?_; (with_reducible exact hc10)))
  refine (flatPlaces_none _).mono ?_
  rintro e u10 ⟨rfl, hb10⟩
  have k11 := k10.trans (Keep.below hb10)
  have b11 := fresh_trans b10 hb10
  clear hb10 hc10 k10 b10
  have hc11 := HKB.out _ k11 11 (by decide) (by decide)
  go_wp2_with (first
    | (refine st_val rfl (run_faddr 98 _ 11 rfl rfl _ Try.underlying98 11 _ rfl rfl 0 sB11_Counts) ?_)
    | (refine st_val rfl (run_load1 88 _ rfl rfl ?_ _ Try.underlying88 rfl) ?_; (with_reducible exact hc11)))
  refine (flatEntries_none _).mono ?_
  rintro e u11 ⟨rfl, hb11⟩
  have k12 := k11.trans (Keep.below hb11)
  have b12 := fresh_trans b11 hb11
  clear hb11 hc11 k11 b11
  have hc12 := HKB.out _ k12 12 (by decide) (by decide)
  go_wp2_with (first
    | (refine st_val rfl (run_faddr 98 _ 12 rfl rfl _ Try.underlying98 12 _ rfl rfl 0 sB12_Counts) ?_)
    | (refine st_val rfl (run_load1 89 _ rfl rfl ?_ _ Try.underlying89 rfl) ?_; (with_reducible exact hc12)))
  refine (flatNodes_none _).mono ?_
  rintro e u12 ⟨rfl, hb12⟩
  have k13 := k12.trans (Keep.below hb12)
  have b13 := fresh_trans b12 hb12
  clear hb12 hc12 k12 b12
  have hc13 := HKB.out _ k13 13 (by decide) (by decide)
  go_wp2_with (first
    | (refine st_val rfl (run_faddr 98 _ 13 rfl rfl _ Try.underlying98 13 _ rfl rfl 0 sB13_Counts) ?_)
    | (refine st_val rfl (run_load1 90 _ rfl rfl ?_ _ Try.underlying90 rfl) ?_; (with_reducible exact hc13)))
  refine (flatItems_none _).mono ?_
  rintro e u13 ⟨rfl, hb13⟩
  have k14 := k13.trans (Keep.below hb13)
  have b14 := fresh_trans b13 hb13
  clear hb13 hc13 k13 b13
  have hc14 := HKJ.out _ k14
  go_wp2_with (first
    | (refine st_val rfl (run_faddr 98 _ 14 rfl rfl _ Try.underlying98 14 _ rfl rfl 0 sB14_Counts) ?_)
    | (refine st_val rfl (run_load1 30 _ rfl rfl ?_ _ Try.underlying30 rfl) ?_; (with_reducible exact hc14)))
  refine (HKF.out _ b14).mono ?_
  rintro e u14 ⟨rfl, hk14⟩
  have k15 := k14.trans hk14
  clear hk14 hc14 k14 b14
  have hc15 := HKB.out _ k15 15 (by decide) (by decide)
  go_wp2_with (first
    | (refine st_val rfl (run_faddr 98 _ 15 rfl rfl _ Try.underlying98 15 _ rfl rfl 0 sB15_Counts) ?_)
    | (refine st_val rfl (run_load1 91 _ rfl rfl ?_ _ Try.underlying91 rfl) ?_; (with_reducible exact hc15)))
  refine (flatFreshes_none _).mono ?_
  rintro e u15 ⟨rfl, hb15⟩
  have k16 := k15.trans (Keep.below hb15)
  clear hb15 hc15 k15
  have hc16 := HKB.out _ k16 16 (by decide) (by decide)
  go_wp2_with (first
    | (refine st_val rfl (run_faddr 98 _ 16 rfl rfl _ Try.underlying98 16 _ rfl rfl 0 sB16_Counts) ?_)
    | (refine st_val rfl (run_load1 92 _ rfl rfl ?_ _ Try.underlying92 rfl) ?_; (with_reducible exact hc16)))
  refine (flatPuts_none _).mono ?_
  rintro e u16 ⟨rfl, hb16⟩
  have k17 := k16.trans (Keep.below hb16)
  clear hb16 hc16 k16
  have hc17 := HKB.out _ k17 17 (by decide) (by decide)
  go_wp2_with (first
    | (refine st_val rfl (run_faddr 98 _ 17 rfl rfl _ Try.underlying98 17 _ rfl rfl 0 sB17_Counts) ?_)
    | (refine st_val rfl (run_load1 93 _ rfl rfl ?_ _ Try.underlying93 rfl) ?_; (with_reducible exact hc17)))
  refine (flatOps_none _).mono ?_
  rintro e u17 ⟨rfl, hb17⟩
  have k18 := k17.trans (Keep.below hb17)
  clear hb17 hc17 k17
  have hc18 := HKB.out _ k18 18 (by decide) (by decide)
  go_wp2_with (first
    | (refine st_val rfl (run_faddr 98 _ 18 rfl rfl _ Try.underlying98 18 _ rfl rfl 0 sB18_Counts) ?_)
    | (refine st_val rfl (run_load1 94 _ rfl rfl ?_ _ Try.underlying94 rfl) ?_; (with_reducible exact hc18)))
  refine (flatSteps_none _).mono ?_
  rintro e u18 ⟨rfl, hb18⟩
  have k19 := k18.trans (Keep.below hb18)
  clear hb18 hc18 k18
  have hc19 := HKB.out _ k19 19 (by decide) (by decide)
  go_wp2_with (first
    | (refine st_val rfl (run_faddr 98 _ 19 rfl rfl _ Try.underlying98 19 _ rfl rfl 0 sB19_Counts) ?_)
    | (refine st_val rfl (run_load1 95 _ rfl rfl ?_ _ Try.underlying95 rfl) ?_; (with_reducible exact hc19)))
  refine (flatStats_none _).mono ?_
  rintro e u19 ⟨rfl, hb19⟩
  have k20 := k19.trans (Keep.below hb19)
  clear hb19 hc19 k19
  have hc20 := HKB.out _ k20 20 (by decide) (by decide)
  go_wp2_with (first
    | (refine st_val rfl (run_faddr 98 _ 20 rfl rfl _ Try.underlying98 20 _ rfl rfl 0 sB20_Counts) ?_)
    | (refine st_val rfl (run_load1 96 _ rfl rfl ?_ _ Try.underlying96 rfl) ?_; (with_reducible exact hc20)))
  refine (flatTales_none _).mono ?_
  rintro e u20 ⟨rfl, hb20⟩
  have k21 := k20.trans (Keep.below hb20)
  clear hb20 hc20 k20
  go_wp2
  go_ret
  exact ⟨rfl, k21⟩
end Go.Pb
