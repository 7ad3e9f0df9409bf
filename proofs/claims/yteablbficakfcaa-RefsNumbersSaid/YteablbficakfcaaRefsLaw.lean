/- Counts, plain: sums by keys, and the rows that tell them. -/
import Derived.Test.YteablbficakfcaaRefsD
set_option linter.unusedVariables false
set_option linter.unusedSimpArgs false
set_option linter.unusedSectionVars false
namespace Go.Pb
open Go.RowKit

def getN (m : List (Key × Int)) (k : Key) : Int := (look m k).getD 0
def inR (n : Int) : Prop := -9223372036854775808 ≤ n ∧ n ≤ 9223372036854775807
def FineN (m : List (Key × Int)) : Prop := Apart m ∧ ∀ k, inR (getN m k)
theorem wrap_in' {n : Int} (h : inR n) : wrap64 n = n := by
  obtain ⟨h1, h2⟩ := h
  unfold wrap64
  omega
theorem wrap_inR (n : Int) : inR (wrap64 n) := by
  unfold inR wrap64
  omega
theorem wrap_add (a b : Int) : wrap64 (wrap64 a + b) = wrap64 (a + b) := by unfold wrap64; omega
theorem wrap_sub (a b : Int) : wrap64 (wrap64 a - b) = wrap64 (a - b) := by unfold wrap64; omega
theorem FineN.nil : FineN [] := ⟨by simp [Apart], fun k => by simp [getN, look_nil, inR]⟩
theorem getN_put (m : List (Key × Int)) (k k' : Key) (v : Int) : getN (put m k v) k' = if k' = k then v else getN m k' := by
  unfold getN
  rw [look_put]
  split <;> rfl
theorem FineN.put {m : List (Key × Int)} (h : FineN m) (k : Key) (v : Int) : FineN (put m k (wrap64 v)) := by
  refine ⟨put_apart h.1 _ _, fun k' => ?_⟩
  rw [getN_put]
  split
  · exact wrap_inR v
  · exact h.2 k'
theorem mem_getN {m : List (Key × Int)} (h : Apart m) {k : Key} {v : Int} (hm : (k, v) ∈ m) : getN m k = v := by
  unfold getN
  rw [look_mem h hm]
  rfl
theorem mem_nz {m : List (Key × Int)} (h : Apart m) (k : Key) (v : Int) : (k, v) ∈ m.filter nzB ↔ getN m k = v ∧ v ≠ 0 := by
  rw [List.mem_filter]
  constructor
  · rintro ⟨h1, h2⟩
    exact ⟨mem_getN h h1, by simpa [nzB] using h2⟩
  · rintro ⟨rfl, h2⟩
    refine ⟨?_, by simpa [nzB] using h2⟩
    unfold getN at h2 ⊢
    cases hl : look m k with
    | none => rw [hl] at h2; exact absurd rfl h2
    | some v => exact mem_of_look hl
theorem nodup_pairs {m : List (Key × Int)} (h : Apart m) : m.Nodup := by
  unfold Apart List.Nodup at h
  rw [List.pairwise_map] at h
  exact h.imp (fun hne e => hne (by rw [e]))
theorem apart_filter {m : List (Key × Int)} (h : Apart m) : Apart (m.filter nzB) := by
  unfold Apart at h ⊢
  exact h.sublist (List.filter_sublist.map _)
/-- The same sums: the same pairs, but for those of nothing. -/
theorem same_nz {m1 m2 : List (Key × Int)} (h1 : Apart m1) (h2 : Apart m2) (h : ∀ k, getN m1 k = getN m2 k) : (m1.filter nzB).Perm (m2.filter nzB) := by
  rw [List.perm_ext_iff_of_nodup (nodup_pairs (apart_filter h1)) (nodup_pairs (apart_filter h2))]
  rintro ⟨k, v⟩
  rw [mem_nz h1, mem_nz h2, h k]
theorem tells_same {m1 m2 : List (Key × Int)} {L1 L2 : List Count} (h1 : TellsC (m1.filter nzB) L1) (h2 : TellsC (m2.filter nzB) L2) (a1 : Apart m1) (a2 : Apart m2) (h : ∀ k, getN m1 k = getN m2 k) : L1 = L2 := by
  have := (TellsK.of_perm h1 (same_nz a1 a2 h))
  exact (h2.one this.perm this.rising)

/-- What a row of counts has of a key. -/
def sumC (l : List Count) (k : Key) : Int := (l.map (fun c => if c.key = k then c.refs else 0)).sum
theorem sumC_nil (k : Key) : sumC [] k = 0 := rfl
theorem sumC_cons (c : Count) (l : List Count) (k : Key) : sumC (c :: l) k = (if c.key = k then c.refs else 0) + sumC l k := by simp [sumC]
theorem sumC_append (a b : List Count) (k : Key) : sumC (a ++ b) k = sumC a k + sumC b k := by simp [sumC]
theorem sumC_perm {a b : List Count} (h : a.Perm b) (k : Key) : sumC a k = sumC b k := by
  induction h with
  | nil => rfl
  | cons x _ ih => rw [sumC_cons, sumC_cons, ih]
  | swap x y l => simp only [sumC_cons]; omega
  | trans _ _ ih1 ih2 => exact ih1.trans ih2
theorem sumC_pairs {m : List (Key × Int)} (h : Apart m) (k : Key) : sumC (m.map countOf) k = getN m k := by
  induction m with
  | nil => rfl
  | cons p m ih =>
    have hnd : p.1 ∉ m.map (·.1) ∧ (m.map (·.1)).Nodup := by simpa [Apart] using h
    rw [List.map_cons, sumC_cons, ih hnd.2]
    unfold getN
    rw [look_cons]
    by_cases he : p.1 = k
    · have hn : look m k = none := look_none (fun q hq e => hnd.1 (List.mem_map.2 ⟨q, hq, e.trans he.symm⟩))
      simp [countOf, he, hn]
    · simp [countOf, he]
theorem getN_nz {m : List (Key × Int)} (h : Apart m) (k : Key) : getN (m.filter nzB) k = getN m k := by
  by_cases h0 : getN m k = 0
  · rw [h0]
    unfold getN
    cases hl : look (m.filter nzB) k with
    | none => rfl
    | some v =>
      have hm := (mem_nz h k v).1 (mem_of_look hl)
      rw [h0] at hm
      exact hm.1.symm
  · have := (mem_nz h k (getN m k)).2 ⟨rfl, h0⟩
    exact mem_getN (apart_filter h) this
theorem sumC_tells {m : List (Key × Int)} {L : List Count} (a : Apart m) (h : TellsC (m.filter nzB) L) (k : Key) : sumC L k = getN m k := by
  rw [sumC_perm h.perm, sumC_pairs (apart_filter a), getN_nz a]
theorem upMap_fine (l : List Count) : ∀ m, FineN m → FineN (upMap m l) ∧ ∀ k, getN (upMap m l) k = wrap64 (getN m k + sumC l k) := by
  induction l with
  | nil => intro m h; exact ⟨h, fun k => by simp [upMap, sumC_nil, wrap_in' (h.2 k)]⟩
  | cons c l ih =>
    intro m h
    have h1 : FineN (bump m c.key c.refs) := h.put c.key _
    obtain ⟨h2, h3⟩ := ih _ h1
    refine ⟨h2, fun k => ?_⟩
    show getN (upMap (bump m c.key c.refs) l) k = _
    rw [h3 k, sumC_cons]
    unfold bump
    rw [getN_put]
    by_cases he : k = c.key
    · subst he
      rw [if_pos rfl, if_pos rfl, wrap_add]
      unfold getN
      rw [Int.add_assoc]
    · rw [if_neg he, if_neg (fun e => he e.symm), Int.zero_add]
theorem downMap_fine (l : List Count) : ∀ m, FineN m → FineN (downMap m l) ∧ ∀ k, getN (downMap m l) k = wrap64 (getN m k - sumC l k) := by
  induction l with
  | nil => intro m h; exact ⟨h, fun k => by simp [downMap, sumC_nil, wrap_in' (h.2 k)]⟩
  | cons c l ih =>
    intro m h
    have h1 : FineN (drop_ m c.key c.refs) := h.put c.key _
    obtain ⟨h2, h3⟩ := ih _ h1
    refine ⟨h2, fun k => ?_⟩
    show getN (downMap (drop_ m c.key c.refs) l) k = _
    rw [h3 k, sumC_cons]
    unfold drop_
    rw [getN_put]
    by_cases he : k = c.key
    · subst he
      rw [if_pos rfl, if_pos rfl, wrap_sub]
      unfold getN
      congr 1
      omega
    · rw [if_neg he, if_neg (fun e => he e.symm), Int.zero_add]
theorem delta_fine (a b : List Count) : Apart (deltaMap a b) ∧ ∀ k, getN (deltaMap a b) k = wrap64 (sumC b k - sumC a k) := by
  rw [deltaMap_eq]
  obtain ⟨h1, h2⟩ := downMap_fine a [] FineN.nil
  obtain ⟨h3, h4⟩ := upMap_fine b _ h1
  refine ⟨h3.1, fun k => ?_⟩
  rw [h4, h2, wrap_add]
  have : getN [] k = 0 := rfl
  rw [this]
  congr 1
  omega

/-- How many slices have a key. -/
def cnt (l : List Item) (k : Key) : Int := (l.map (fun i => if i.kind = 2 ∧ i.slice.key = k then (1 : Int) else 0)).sum
theorem cnt_append (a b : List Item) (k : Key) : cnt (a ++ b) k = cnt a k + cnt b k := by simp [cnt]
theorem cnt_bound (l : List Item) (k : Key) : 0 ≤ cnt l k ∧ cnt l k ≤ l.length := by
  induction l with
  | nil => simp [cnt]
  | cons i l ih =>
    have : cnt (i :: l) k = (if i.kind = 2 ∧ i.slice.key = k then (1 : Int) else 0) + cnt l k := by simp [cnt]
    rw [this, List.length_cons]
    split <;> omega
theorem countMap_fine (l : List Item) (h : l.length ≤ 1000000) : Apart (countMap l) ∧ ∀ k, getN (countMap l) k = cnt l k := by
  suffices hs : ∀ (l : List Item) (pre : List Item), pre.length + l.length ≤ 1000000 → ∀ m, Apart m → (∀ k, getN m k = cnt pre k) → Apart (l.foldl (fun m i => if i.kind = 2 then bump m i.slice.key 1 else m) m) ∧ ∀ k, getN (l.foldl (fun m i => if i.kind = 2 then bump m i.slice.key 1 else m) m) k = cnt (pre ++ l) k by
    have := hs l [] (by simpa using h) [] (by simp [Apart]) (fun k => rfl)
    simpa [countMap] using this
  intro l
  induction l with
  | nil => intro pre _ m ha hg; exact ⟨ha, fun k => by simpa using hg k⟩
  | cons i l ih =>
    intro pre hb m ha hg
    have h1 : ∀ k, cnt (pre ++ [i]) k = cnt pre k + (if i.kind = 2 ∧ i.slice.key = k then (1 : Int) else 0) := fun k => by rw [cnt_append]; simp [cnt]
    have := ih (pre ++ [i]) (by simp at hb ⊢; omega) (if i.kind = 2 then bump m i.slice.key 1 else m) (by split; exact put_apart ha _ _; exact ha) (fun k => by
      rw [h1]
      by_cases hk : i.kind = 2
      · rw [if_pos hk]
        unfold bump
        rw [getN_put]
        by_cases he : k = i.slice.key
        · subst he
          have hc := cnt_bound pre i.slice.key
          have hgk := hg i.slice.key
          unfold getN at hgk
          rw [if_pos rfl, if_pos ⟨hk, rfl⟩, hgk, wrap_in' (by unfold inR; simp at hb; omega)]
        · rw [if_neg he, if_neg (fun e => he e.2.symm), hg k, Int.add_zero]
      · rw [if_neg hk, if_neg (fun e => hk e.1), hg k, Int.add_zero])
    simpa using this
end Go.Pb
