/- RefsTurned, plain: Delta the other way round, and with a row between. -/
import Derived.Test.YteablbficakfcaaRefsSumsL
set_option linter.unusedVariables false
set_option linter.unusedSimpArgs false
set_option linter.unusedSectionVars false
namespace Go.Pb
open Go.RowKit

def negC (c : Count) : Count := ⟨c.key, -c.refs⟩
def negP (p : Key × Int) : Key × Int := (p.1, -p.2)
def Small (l : List Count) : Prop := ∀ c ∈ l, -1073741824 ≤ c.refs ∧ c.refs ≤ 1073741824
theorem sumC_bound (l : List Count) (h : Small l) (k : Key) : -(1073741824 * (l.length : Int)) ≤ sumC l k ∧ sumC l k ≤ 1073741824 * (l.length : Int) := by
  induction l with
  | nil => simp [sumC]
  | cons c l ih =>
    have h1 := h c (by simp)
    have h2 := ih (fun d hd => h d (by simp [hd]))
    rw [sumC_cons, List.length_cons]
    split <;> omega
theorem look_neg (m : List (Key × Int)) (k : Key) : look (m.map negP) k = (look m k).map (fun v => -v) := by
  induction m with
  | nil => simp [look_nil]
  | cons p m ih =>
    rw [List.map_cons, look_cons, look_cons, ih]
    by_cases h : p.1 = k
    · simp [negP, h]
    · simp [negP, h]
theorem getN_neg (m : List (Key × Int)) (k : Key) : getN (m.map negP) k = -getN m k := by
  unfold getN
  rw [look_neg]
  cases look m k <;> simp
theorem apart_neg {m : List (Key × Int)} (h : Apart m) : Apart (m.map negP) := by
  unfold Apart at h ⊢
  rw [List.map_map]
  exact h
theorem filter_neg (m : List (Key × Int)) : (m.map negP).filter nzB = (m.filter nzB).map negP := by
  induction m with
  | nil => rfl
  | cons p m ih =>
    rw [List.map_cons, List.filter_cons, List.filter_cons, ih]
    by_cases h : p.2 = 0
    · simp [nzB, negP, h]
    · simp [nzB, negP, h]
theorem tells_neg {m : List (Key × Int)} {D : List Count} (h : TellsC (m.filter nzB) D) : TellsC ((m.map negP).filter nzB) (D.map negC) := by
  refine ⟨?_, ?_, ?_, fun _ => rfl⟩
  · rw [filter_neg]
    have := h.perm.map negC
    rw [List.map_map] at this ⊢
    exact this
  · rw [List.pairwise_map]
    exact h.rising
  · rw [filter_neg]
    exact apart_neg h.apart
theorem turned_rows {a b D E : List Count} (ha : Small a) (hb : Small b) (la : a.length ≤ 300) (lb : b.length ≤ 300) (hm : TellsC ((deltaMap a b).filter nzB) D) (hE : TellsC ((deltaMap b a).filter nzB) E) : E = D.map negC := by
  refine tells_same hE (tells_neg hm) (delta_fine b a).1 (apart_neg (delta_fine a b).1) (fun k => ?_)
  have h1 := sumC_bound a ha k
  have h2 := sumC_bound b hb k
  rw [getN_neg, (delta_fine b a).2 k, (delta_fine a b).2 k, wrap_in' (by unfold inR; omega), wrap_in' (by unfold inR; omega)]
  omega
theorem between_rows {a b c D B R S : List Count} (hD : TellsC ((deltaMap a b).filter nzB) D) (hB : TellsC ((deltaMap b c).filter nzB) B) (hR : TellsC ((deltaMap [] (D ++ B)).filter nzB) R) (hS : TellsC ((deltaMap a c).filter nzB) S) : R = S := by
  refine tells_same hR hS (delta_fine [] (D ++ B)).1 (delta_fine a c).1 (fun k => ?_)
  rw [(delta_fine [] (D ++ B)).2 k, (delta_fine a c).2 k, sumC_nil, sumC_append, sumC_tells (delta_fine a b).1 hD, sumC_tells (delta_fine b c).1 hB, (delta_fine a b).2 k, (delta_fine b c).2 k]
  unfold wrap64
  omega
/-- A row of Delta is no longer than the two. -/
theorem delta_len {a b D : List Count} (h : TellsC ((deltaMap a b).filter nzB) D) : D.length ≤ a.length + b.length := by
  have h1 := h.len
  have h2 := List.length_filter_le nzB (deltaMap a b)
  have h3 := upMap_len b (downMap [] a)
  have h4 := downMap_len a []
  rw [deltaMap_eq] at h1 h2
  simp only [List.length_nil, Nat.zero_add] at h4
  omega
/-- Numbers of Delta's row lie within the sums. -/
theorem delta_in {a b D : List Count} (ha : Small a) (hb : Small b) (la : a.length ≤ 300) (lb : b.length ≤ 300) (h : TellsC ((deltaMap a b).filter nzB) D) : ∀ c ∈ D, -644245094400 ≤ c.refs ∧ c.refs ≤ 644245094400 := by
  intro c hc
  obtain ⟨q, hq, rfl⟩ := List.mem_map.1 (h.perm.mem_iff.1 hc)
  obtain ⟨h1, -⟩ := (mem_nz (delta_fine a b).1 q.1 q.2).1 hq
  have h3 := sumC_bound a ha q.1
  have h4 := sumC_bound b hb q.1
  rw [(delta_fine a b).2 q.1, wrap_in' (by unfold inR; omega)] at h1
  show -644245094400 ≤ q.2 ∧ q.2 ≤ 644245094400
  omega
end Go.Pb
