/- RefsSums, plain: how many slices there are, and what the counts are together. -/
import Derived.Test.YteablbficakfcaaRefsLaw
set_option linter.unusedVariables false
set_option linter.unusedSimpArgs false
set_option linter.unusedSectionVars false
namespace Go.Pb
open Go.RowKit

def tot (l : List Count) : Int := (l.map (·.refs)).sum
def totP (m : List (Key × Int)) : Int := (m.map (·.2)).sum
def slicesOf (l : List Item) : Int := (l.map (fun i => if i.kind = 2 then (1 : Int) else 0)).sum
theorem tot_cons (c : Count) (l : List Count) : tot (c :: l) = c.refs + tot l := by simp [tot]
theorem totP_cons (c : Key × Int) (l : List (Key × Int)) : totP (c :: l) = c.2 + totP l := by simp [totP]
theorem tot_perm {a b : List Count} (h : a.Perm b) : tot a = tot b := by
  induction h with
  | nil => rfl
  | cons x _ ih => rw [tot_cons, tot_cons, ih]
  | swap x y l => simp only [tot_cons]; omega
  | trans _ _ ih1 ih2 => exact ih1.trans ih2
theorem totP_perm {a b : List (Key × Int)} (h : a.Perm b) : totP a = totP b := by
  induction h with
  | nil => rfl
  | cons x _ ih => rw [totP_cons, totP_cons, ih]
  | swap x y l => simp only [totP_cons]; omega
  | trans _ _ ih1 ih2 => exact ih1.trans ih2
theorem tot_nz (m : List (Key × Int)) : tot ((m.filter nzB).map countOf) = totP m := by
  induction m with
  | nil => rfl
  | cons p m ih =>
    rw [List.filter_cons, totP_cons]
    by_cases h : p.2 = 0
    · rw [if_neg (by simp [nzB, h]), ih, h, Int.zero_add]
    · rw [if_pos (by simp [nzB, h]), List.map_cons, tot_cons, ih]
      rfl
theorem totP_put {m : List (Key × Int)} (ha : Apart m) (k : Key) (v : Int) : totP (put m k v) = totP m - getN m k + v := by
  cases hl : look m k with
  | none =>
    rw [put_none hl]
    simp [totP, getN, hl]
  | some u =>
    have h1 := totP_perm (put_perm (v := v) ha (by rw [hl]; rfl))
    have h2 := totP_perm (perm_del ha (mem_of_look hl))
    have h3 : getN m k = u := by simp [getN, hl]
    rw [totP_cons] at h1 h2
    rw [h1, h2, h3]
    show v + _ = u + _ - u + v
    omega
theorem slicesOf_take (l : List Item) (k : Nat) (h : k < l.length) : slicesOf (l.take (k + 1)) = slicesOf (l.take k) + (if l[k].kind = 2 then 1 else 0) := by
  rw [List.take_succ_eq_append_getElem h]
  unfold slicesOf
  rw [List.map_append, List.sum_append]
  simp
theorem slicesOf_bound (l : List Item) : 0 ≤ slicesOf l ∧ slicesOf l ≤ l.length := by
  induction l with
  | nil => simp [slicesOf]
  | cons i l ih =>
    have : slicesOf (i :: l) = (if i.kind = 2 then (1 : Int) else 0) + slicesOf l := by simp [slicesOf]
    rw [this, List.length_cons]
    split <;> omega
theorem countMap_tot (l : List Item) (h : l.length ≤ 1000000) : totP (countMap l) = slicesOf l := by
  have hs : ∀ k, k ≤ l.length → totP (countMap (l.take k)) = slicesOf (l.take k) := by
    intro k
    induction k with
    | zero => intro _; rfl
    | succ k ih =>
      intro hk
      have hlt : k < l.length := by omega
      rw [countMap_take l k hlt, slicesOf_take l k hlt]
      have ht : (l.take k).length ≤ 1000000 := by rw [List.length_take]; omega
      obtain ⟨ha, hg⟩ := countMap_fine (l.take k) ht
      by_cases hkd : l[k].kind = 2
      · rw [if_pos hkd, if_pos hkd]
        have hc := cnt_bound (l.take k) l[k].slice.key
        have hgk := hg l[k].slice.key
        show totP (put (countMap (l.take k)) l[k].slice.key (wrap64 (getN (countMap (l.take k)) l[k].slice.key + 1))) = _
        rw [totP_put ha, ih (by omega), hgk, wrap_in' (by unfold inR; omega)]
        omega
      · rw [if_neg hkd, if_neg hkd, ih (by omega), Int.add_zero]
  have := hs l.length (Nat.le_refl _)
  rwa [List.take_length] at this
theorem counts_fine {l : List Item} {X : List Count} (h : l.length ≤ 300) (hT : TellsC ((countMap l).filter nzB) X) : (∀ c ∈ X, 1 ≤ c.refs ∧ c.refs ≤ 300) ∧ X.length ≤ 300 ∧ tot X = slicesOf l := by
  obtain ⟨ha, hg⟩ := countMap_fine l (by omega)
  refine ⟨fun c hc => ?_, ?_, ?_⟩
  · obtain ⟨q, hq, rfl⟩ := List.mem_map.1 (hT.perm.mem_iff.1 hc)
    obtain ⟨h1, h2⟩ := (mem_nz ha q.1 q.2).1 hq
    rw [hg] at h1
    have := cnt_bound l q.1
    show 1 ≤ q.2 ∧ q.2 ≤ 300
    omega
  · have h1 := hT.len
    have h2 := List.length_filter_le nzB (countMap l)
    have h3 := countMap_len l
    omega
  · rw [tot_perm hT.perm, tot_nz, countMap_tot l (by omega)]
theorem tot_bound (X : List Count) (h : ∀ c ∈ X, 1 ≤ c.refs ∧ c.refs ≤ 300) : 0 ≤ tot X ∧ tot X ≤ 300 * X.length := by
  induction X with
  | nil => simp [tot]
  | cons c X ih =>
    have h1 := h c (by simp)
    have h2 := ih (fun d hd => h d (by simp [hd]))
    rw [tot_cons, List.length_cons]
    omega
theorem tot_take (l : List Count) (k : Nat) (h : k < l.length) : tot (l.take (k + 1)) = tot (l.take k) + l[k].refs := by
  rw [List.take_succ_eq_append_getElem h]
  unfold tot
  rw [List.map_append, List.sum_append]
  simp
theorem sumC_count {l : List Item} {X : List Count} (h : l.length ≤ 1000000) (hT : TellsC ((countMap l).filter nzB) X) (k : Key) : sumC X k = cnt l k := by
  rw [sumC_tells (countMap_fine l h).1 hT, (countMap_fine l h).2]
theorem cnt_in (l : List Item) (h : l.length ≤ 1000000) (k : Key) : inR (cnt l k) := by
  have := cnt_bound l k
  unfold inR
  omega
theorem sums_delta {a b : List Item} {X Y D Z : List Count} (ha : a.length ≤ 300) (hb : b.length ≤ 300) (hX : TellsC ((countMap a).filter nzB) X) (hY : TellsC ((countMap (a ++ b)).filter nzB) Y) (hD : TellsC ((deltaMap X Y).filter nzB) D) (hZ : TellsC ((countMap b).filter nzB) Z) : D = Z := by
  have hab : (a ++ b).length ≤ 1000000 := by rw [List.length_append]; omega
  refine tells_same hD hZ (delta_fine X Y).1 (countMap_fine b (by omega)).1 (fun k => ?_)
  rw [(delta_fine X Y).2 k, (countMap_fine b (by omega)).2 k, sumC_count hab hY, sumC_count (by omega) hX, cnt_append]
  rw [show cnt a k + cnt b k - cnt a k = cnt b k by omega]
  exact wrap_in' (cnt_in b (by omega) k)
theorem sums_none {X D : List Count} (hD : TellsC ((deltaMap X X).filter nzB) D) : D = [] := by
  have h0 : TellsC (([] : List (Key × Int)).filter nzB) [] := TellsK.nil (fun _ => rfl)
  refine tells_same hD h0 (delta_fine X X).1 (by simp [Apart]) (fun k => ?_)
  rw [(delta_fine X X).2 k, Int.sub_self]
  exact wrap_in' (by unfold inR; omega)
theorem sums_same {a : List Item} {X D : List Count} (ha : a.length ≤ 300) (hX : TellsC ((countMap a).filter nzB) X) (hD : TellsC ((deltaMap [] X).filter nzB) D) : D = X := by
  refine tells_same hD hX (delta_fine [] X).1 (countMap_fine a (by omega)).1 (fun k => ?_)
  rw [(delta_fine [] X).2 k, (countMap_fine a (by omega)).2 k, sumC_count (by omega) hX, sumC_nil, Int.sub_zero]
  exact wrap_in' (cnt_in a (by omega) k)
end Go.Pb
