/- The document's row by keys, plain: a key's sum grows. -/
import Derived.Test.YteablbficakfcaaRefsSumsL
set_option linter.unusedVariables false
set_option linter.unusedSimpArgs false
set_option linter.unusedSectionVars false
namespace Go.Pb
open Go.RowKit

abbrev keyC : Count → Key := (·.key)
/-- The row after 'add'. -/
def addC (L : List Count) (k : Key) (n : Int) : List Count :=
  if h : isAtK keyC L k = true then
    match L[placeK keyC L k]? with
    | some c => L.set (placeK keyC L k) ⟨k, wrap64 (c.refs + n)⟩
    | none => L
  else rowAddK keyC L k ⟨k, n⟩
/-- The row tells all pairs, those of 0 too. -/
theorem addC_tells {m : List (Key × Int)} {L : List Count} (h : TellsC m L) (k : Key) (n : Int) (hn : wrap64 n = n) : TellsC (bump m k n) (addC L k n) := by
  have hat := h.isAt k
  unfold addC bump
  cases hl : look m k with
  | none =>
    rw [hl, Option.isSome_none] at hat
    rw [dif_neg (by rw [hat]; simp)]
    have := h.add hl n
    rw [show (none : Option Int).getD 0 + n = n by simp, hn]
    exact this
  | some q =>
    rw [hl, Option.isSome_some] at hat
    rw [dif_pos hat, h.at_some hl]
    exact h.set hl (wrap64 (q + n))
theorem addC_len (L : List Count) (k : Key) (n : Int) : (addC L k n).length ≤ L.length + 1 := by
  unfold addC
  split
  · split
    · simp
    · omega
  · unfold rowAddK
    rw [List.length_append, List.length_cons, List.length_take, List.length_drop]
    omega
/-- 'Count', step by step. -/
def countRow (l : List Item) : List Count := l.foldl (fun L i => if i.kind = 2 then addC L i.slice.key 1 else L) []
theorem countRow_take (l : List Item) (k : Nat) (h : k < l.length) : countRow (l.take (k + 1)) = if l[k].kind = 2 then addC (countRow (l.take k)) l[k].slice.key 1 else countRow (l.take k) := by
  rw [List.take_succ_eq_append_getElem h]
  unfold countRow
  rw [List.foldl_append]
  rfl
theorem countRow_tells (l : List Item) : TellsC (countMap l) (countRow l) := by
  have hs : ∀ k, k ≤ l.length → TellsC (countMap (l.take k)) (countRow (l.take k)) := by
    intro k
    induction k with
    | zero => intro _; exact TellsK.nil (fun _ => rfl)
    | succ k ih =>
      intro hk
      have hlt : k < l.length := by omega
      rw [countMap_take l k hlt, countRow_take l k hlt]
      by_cases hkd : l[k].kind = 2
      · rw [if_pos hkd, if_pos hkd]
        exact addC_tells (ih (by omega)) _ 1 (wrap_in' (by unfold inR; omega))
      · rw [if_neg hkd, if_neg hkd]
        exact ih (by omega)
  have := hs l.length (Nat.le_refl _)
  rwa [List.take_length] at this
theorem countMap_some (l : List Item) (h : l.length ≤ 1000000) : ∀ x, (look (countMap l) x).isSome → 1 ≤ getN (countMap l) x := by
  have hs : ∀ k, k ≤ l.length → ∀ x, (look (countMap (l.take k)) x).isSome → 1 ≤ getN (countMap (l.take k)) x := by
    intro k
    induction k with
    | zero => intro _ x hx; simp [countMap, look_nil] at hx
    | succ k ih =>
      intro hk x hx
      have hlt : k < l.length := by omega
      have ht : (l.take k).length ≤ 1000000 := by rw [List.length_take]; omega
      obtain ⟨ha, hg⟩ := countMap_fine (l.take k) ht
      rw [countMap_take l k hlt] at hx ⊢
      by_cases hkd : l[k].kind = 2
      · rw [if_pos hkd] at hx ⊢
        have hc := cnt_bound (l.take k) l[k].slice.key
        have hgk := hg l[k].slice.key
        unfold bump at hx ⊢
        rw [getN_put]
        rw [look_put] at hx
        by_cases he : x = l[k].slice.key
        · rw [if_pos he]
          show 1 ≤ wrap64 (getN (countMap (l.take k)) l[k].slice.key + 1)
          rw [hgk, wrap_in' (by unfold inR; omega)]
          omega
        · rw [if_neg he] at hx ⊢
          exact ih (by omega) x hx
      · rw [if_neg hkd] at hx ⊢
        exact ih (by omega) x hx
  have := hs l.length (Nat.le_refl _)
  rwa [List.take_length] at this
theorem countMap_nz (l : List Item) (h : l.length ≤ 1000000) : (countMap l).filter nzB = countMap l := by
  rw [List.filter_eq_self]
  intro p hp
  have ha := (countMap_fine l h).1
  have h1 := look_mem ha (x := p.1) (v := p.2) hp
  have h2 := countMap_some l h p.1 (by rw [h1]; rfl)
  rw [mem_getN ha (k := p.1) (v := p.2) hp] at h2
  simp [nzB]
  omega
/-- The program's counts are the document's. -/
theorem count_same {l : List Item} {L : List Count} (h : l.length ≤ 1000000) (hT : TellsC ((countMap l).filter nzB) L) : L = countRow l := by
  rw [countMap_nz l h] at hT
  have h2 := countRow_tells l
  exact h2.one hT.perm hT.rising
end Go.Pb
