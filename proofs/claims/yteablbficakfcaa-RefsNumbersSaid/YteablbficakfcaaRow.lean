/- Lists of pairs, and rows of things by their keys that say the same. Nothing here names the program. -/
import Derived.Test.YteablbficakfcaaData
import Derived.Test.YteablbficakfcaaMaps
set_option linter.unusedVariables false
set_option linter.unusedSimpArgs false
set_option linter.unusedSectionVars false
namespace Go.Pb

theorem perm_del {K V : Type} [DecidableEq K] {l : List (K × V)} (hn : Apart l) {x : K} {v : V} (h : (x, v) ∈ l) : l.Perm ((x, v) :: del l x) := by
  induction l with
  | nil => simp at h
  | cons p l ih =>
    have hnd : p.1 ∉ l.map (·.1) ∧ (l.map (·.1)).Nodup := by simpa [Apart] using hn
    rcases List.mem_cons.1 h with rfl | h
    · have hd : del l x = l := del_none (look_none (fun q hq e => hnd.1 (List.mem_map.2 ⟨q, hq, e⟩)))
      have : del ((x, v) :: l) x = l := by
        unfold del at hd ⊢
        rw [List.filter_cons_of_neg (by simp)]
        exact hd
      rw [this]
    · have hne : p.1 ≠ x := fun e => hnd.1 (List.mem_map.2 ⟨(x, v), h, e.symm⟩)
      have : del (p :: l) x = p :: del l x := by
        unfold del
        rw [List.filter_cons_of_pos (by simpa using hne)]
      rw [this]
      exact (List.Perm.cons p (ih hnd.2 h)).trans (List.Perm.swap _ _ _)
section
variable {K V : Type} [DecidableEq K] {l : List (K × V)} {x : K} {u v : V}
theorem put_same (ha : Apart l) (h : look l x = some v) : put l x v = l := by
  unfold put
  rw [h, Option.isSome_some, if_pos rfl]
  conv => rhs; rw [← List.map_id l]
  refine List.map_congr_left (fun p hp => ?_)
  split
  · rename_i he
    have : look l x = some p.2 := look_mem ha (by rw [← he]; exact hp)
    rw [h] at this
    injection this with this
    rw [this, ← he]
    rfl
  · rfl
theorem look_put_same (l : List (K × V)) (x : K) (v : V) : look (put l x v) x = some v := by rw [look_put, if_pos rfl]
theorem put_put (ha : Apart l) (h : (look l x).isSome) : put (put l x u) x v = put l x v := by
  have h1 : put l x u = l.map (fun p => if p.1 = x then (x, u) else p) := by unfold put; rw [if_pos h]
  have h2 : put l x v = l.map (fun p => if p.1 = x then (x, v) else p) := by unfold put; rw [if_pos h]
  have h3 : (look (put l x u) x).isSome := by rw [look_put_same]; rfl
  rw [h2]
  unfold put at h3 ⊢
  rw [if_pos h3, if_pos h, List.map_map]
  refine List.map_congr_left (fun p _ => ?_)
  by_cases he : p.1 = x <;> simp [he]
theorem del_put (h : (look l x).isSome) : del (put l x v) x = del l x := by
  have h2 : put l x v = l.map (fun p => if p.1 = x then (x, v) else p) := by unfold put; rw [if_pos h]
  rw [h2]
  clear h h2
  unfold del
  induction l with
  | nil => rfl
  | cons p l ih =>
    rw [List.map_cons, List.filter_cons, List.filter_cons]
    by_cases he : p.1 = x
    · rw [if_pos he]
      simp only [ne_eq, not_true_eq_false, decide_false, Bool.false_eq_true, if_false, he]
      exact ih
    · rw [if_neg he]
      simp only [ne_eq, he, not_false_eq_true, decide_true, if_true]
      rw [ih]
theorem put_none (h : look l x = none) : put l x v = l ++ [(x, v)] := by
  unfold put
  rw [h]
  rfl
theorem look_del_same (l : List (K × V)) (x : K) : look (del l x) x = none := by rw [look_del, if_pos rfl]
theorem put_perm (ha : Apart l) (h : (look l x).isSome) : (put l x v).Perm ((x, v) :: del l x) := by
  have := perm_del (put_apart ha x v) (mem_of_look (look_put_same l x v))
  rwa [del_put h] at this
theorem put_del_perm (ha : Apart l) (h : look l x = some v) : (put (del l x) x v).Perm l := by
  rw [put_none (look_del_same l x)]
  exact (List.perm_append_comm).trans (perm_del ha (mem_of_look h)).symm
theorem del_length (ha : Apart l) (h : look l x = some v) : (del l x).length + 1 = l.length := by
  have := (perm_del ha (mem_of_look h)).length_eq
  simpa using this.symm
theorem apart_perm {m : List (K × V)} (h : l.Perm m) (ha : Apart l) : Apart m := by
  have h1 : (l.map Prod.fst).Perm (m.map Prod.fst) := h.map Prod.fst
  exact h1.nodup_iff.1 ha
theorem look_perm {m : List (K × V)} (h : l.Perm m) (ha : Apart l) (x : K) : look l x = look m x := by
  cases hl : look l x with
  | none =>
    refine (look_none (fun p hp => ?_)).symm
    exact look_none_iff.1 hl p (h.mem_iff.2 hp)
  | some v => exact (look_mem (apart_perm h ha) (h.mem_iff.1 (mem_of_look hl))).symm
end

/-- Sorted rows of the same things are one. -/
theorem sorted_unique {α : Type} (f : α → Key) {l1 l2 : List α} (hp : l1.Perm l2) (h1 : l1.Pairwise (fun a b => klt (f b) (f a) = false)) (h2 : l2.Pairwise (fun a b => klt (f b) (f a) = false)) (hn : (l1.map f).Nodup) : l1 = l2 := by
  refine List.Perm.eq_of_pairwise (le := fun a b => klt (f b) (f a) = false) ?_ h1 h2 hp
  intro a b ha hb hab hba
  have hb' := hp.mem_iff.2 hb
  have he : f a = f b := klt_total hba hab
  obtain ⟨i, hi, rfl⟩ := List.getElem_of_mem ha
  obtain ⟨j, hj, rfl⟩ := List.getElem_of_mem hb'
  have : i = j := nodup_idx hn (i := i) (j := j) (by simpa using hi) (by simpa using hj) (by simpa using he)
  subst this
  rfl

section
variable {α V : Type} {key : α → Key} {mk : Key × V → α}
def placeK (key : α → Key) (L : List α) (k : Key) : Nat := (L.takeWhile (fun i => klt (key i) k)).length
def isAtK (key : α → Key) (L : List α) (k : Key) : Bool := match L[placeK key L k]? with | some i => decide (key i = k) | none => false
/-- The row says what the pairs say. -/
structure TellsK (key : α → Key) (mk : Key × V → α) (m : List (Key × V)) (L : List α) : Prop where
  perm : L.Perm (m.map mk)
  rising : L.Pairwise (fun a b => klt (key b) (key a) = false)
  apart : Apart m
  mkey : ∀ p, key (mk p) = p.1
theorem TellsK.nil (h : ∀ p, key (mk p) = p.1) : TellsK key mk [] [] := ⟨List.Perm.refl _, List.Pairwise.nil, by simp [Apart], h⟩
variable {m : List (Key × V)} {L l : List α}
theorem TellsK.len (h : TellsK key mk m L) : L.length = m.length := by simpa using h.perm.length_eq
theorem TellsK.nodup (h : TellsK key mk m L) : (L.map key).Nodup := by
  have h1 := h.perm.map key
  rw [List.map_map, show key ∘ mk = (·.1) from funext h.mkey] at h1
  exact h1.nodup_iff.2 h.apart
theorem TellsK.one (h : TellsK key mk m L) (hp : l.Perm (m.map mk)) (hr : l.Pairwise (fun a b => klt (key b) (key a) = false)) : l = L :=
  (sorted_unique key (h.perm.trans hp.symm) h.rising hr h.nodup).symm
theorem TellsK.of_perm (h : TellsK key mk m L) {m' : List (Key × V)} (hp : m.Perm m') : TellsK key mk m' L := ⟨h.perm.trans (hp.map mk), h.rising, apart_perm hp h.apart, h.mkey⟩
theorem TellsK.strict (h : TellsK key mk m L) : L.Pairwise (fun a b => klt (key a) (key b) = true) := by
  have h1 := h.rising
  have h2 := h.nodup
  unfold List.Nodup at h2
  rw [List.pairwise_map] at h2
  refine (List.Pairwise.and h1 h2).imp ?_
  rintro a b ⟨h3, h4⟩
  cases h5 : klt (key a) (key b) with
  | true => rfl
  | false => exact absurd (klt_total h5 h3) h4
theorem TellsK.mem (h : TellsK key mk m L) {i : α} (hi : i ∈ L) : ∃ k p, i = mk (k, p) ∧ look m k = some p := by
  obtain ⟨q, hq, rfl⟩ := List.mem_map.1 (h.perm.mem_iff.1 hi)
  exact ⟨q.1, q.2, rfl, look_mem h.apart hq⟩
theorem cut_row (key : α → Key) (L : List α) (k : Key) : L.take (placeK key L k) = L.takeWhile (fun i => klt (key i) k) ∧ L.drop (placeK key L k) = L.dropWhile (fun i => klt (key i) k) := by
  have h := List.takeWhile_append_dropWhile (p := fun i : α => klt (key i) k) (l := L)
  unfold placeK
  constructor
  · conv => lhs; arg 2; rw [← h]
    rw [List.take_left' rfl]
  · conv => lhs; arg 2; rw [← h]
    rw [List.drop_left' rfl]
theorem below_all (key : α → Key) (L : List α) (k : Key) : ∀ i ∈ L.take (placeK key L k), klt (key i) k = true := by
  rw [(cut_row key L k).1]
  intro i hi
  have := List.all_takeWhile (p := fun i : α => klt (key i) k) (l := L)
  exact List.all_eq_true.1 this i hi
theorem above_all (hr : L.Pairwise (fun a b => klt (key b) (key a) = false)) (k : Key) : ∀ i ∈ L.drop (placeK key L k), klt (key i) k = false := by
  rw [(cut_row key L k).2]
  intro i hi
  have hd : (L.dropWhile (fun i => klt (key i) k)).Pairwise (fun a b => klt (key b) (key a) = false) := List.Pairwise.sublist (List.dropWhile_sublist _) hr
  cases hl : L.dropWhile (fun i => klt (key i) k) with
  | nil => rw [hl] at hi; cases hi
  | cons b r =>
    have hb : klt (key b) k = false := by
      have := List.head?_dropWhile_not (p := fun i : α => klt (key i) k) L
      rw [hl] at this
      simpa using this
    rw [hl] at hi hd
    rcases List.mem_cons.1 hi with rfl | hi
    · exact hb
    · have h2 := List.rel_of_pairwise_cons hd hi
      cases h3 : klt (key i) k with
      | false => rfl
      | true =>
        cases h4 : klt (key b) (key i) with
        | true => exact absurd (hb.symm.trans (klt_trans h4 h3)) (by decide)
        | false =>
          have := klt_total h4 h2
          rw [this, h3] at hb
          cases hb
theorem TellsK.at_some (h : TellsK key mk m L) {k : Key} {q : V} (hl : look m k = some q) : L[placeK key L k]? = some (mk (k, q)) := by
  have hm : mk (k, q) ∈ L := h.perm.mem_iff.2 (List.mem_map.2 ⟨(k, q), mem_of_look hl, rfl⟩)
  have hkk : key (mk (k, q)) = k := h.mkey _
  have hsplit : L.take (placeK key L k) ++ L.drop (placeK key L k) = L := List.take_append_drop _ _
  have hd : mk (k, q) ∈ L.drop (placeK key L k) := by
    rw [← hsplit] at hm
    rcases List.mem_append.1 hm with hm | hm
    · have := below_all key L k _ hm
      rw [hkk, klt_irrefl] at this
      cases this
    · exact hm
  have hab := above_all h.rising k
  have hrd : (L.drop (placeK key L k)).Pairwise (fun a b => klt (key b) (key a) = false) := List.Pairwise.sublist (List.drop_sublist _ _) h.rising
  cases hc : L.drop (placeK key L k) with
  | nil => rw [hc] at hd; cases hd
  | cons b r =>
    have hget : L[placeK key L k]? = some b := by
      have := congrArg List.head? hc
      rw [List.head?_drop] at this
      exact this
    rw [hc] at hd hab hrd
    have hbk : key b = k := by
      have h1 := hab b (by simp)
      rcases List.mem_cons.1 hd with he | hd
      · rw [← he]; exact hkk
      · have h2 := List.rel_of_pairwise_cons hrd hd
        rw [hkk] at h2
        exact klt_total h1 h2
    have hbm : b ∈ L := List.mem_of_getElem? hget
    obtain ⟨k', p', rfl, hl'⟩ := h.mem hbm
    have hbk' : k' = k := (h.mkey (k', p')).symm.trans hbk
    subst hbk'
    rw [hl] at hl'
    injection hl' with hl'
    subst hl'
    exact hget
theorem TellsK.at_none (h : TellsK key mk m L) {k : Key} (hl : look m k = none) : isAtK key L k = false := by
  unfold isAtK
  cases hg : L[placeK key L k]? with
  | none => rfl
  | some i =>
    obtain ⟨k', p', rfl, hl'⟩ := h.mem (List.mem_of_getElem? hg)
    show decide (key (mk (k', p')) = k) = false
    rw [h.mkey, decide_eq_false_iff_not]
    rintro rfl
    rw [hl] at hl'
    cases hl'
theorem TellsK.isAt (h : TellsK key mk m L) (k : Key) : isAtK key L k = (look m k).isSome := by
  cases hl : look m k with
  | none => exact h.at_none hl
  | some q =>
    unfold isAtK
    rw [h.at_some hl]
    simp [h.mkey]
theorem rising_keys {l l' : List α} (h : l.map key = l'.map key) (hr : l.Pairwise (fun a b => klt (key b) (key a) = false)) : l'.Pairwise (fun a b => klt (key b) (key a) = false) := by
  have h1 : (l.map key).Pairwise (fun a b => klt b a = false) := by rw [List.pairwise_map]; exact hr
  rw [h, List.pairwise_map] at h1
  exact h1
def rowDelK (key : α → Key) (L : List α) (k : Key) : List α := L.take (placeK key L k) ++ L.drop (placeK key L k + 1)
theorem TellsK.rest (h : TellsK key mk m L) {k : Key} {q : V} (hl : look m k = some q) : (rowDelK key L k).Perm ((del m k).map mk) ∧ L = L.take (placeK key L k) ++ mk (k, q) :: L.drop (placeK key L k + 1) := by
  have hat := h.at_some hl
  obtain ⟨hlt, hge⟩ := List.getElem?_eq_some_iff.1 hat
  have hL : L = L.take (placeK key L k) ++ mk (k, q) :: L.drop (placeK key L k + 1) := by
    rw [← hge, ← List.drop_eq_getElem_cons hlt, List.take_append_drop]
  refine ⟨?_, hL⟩
  have h1 : (mk (k, q) :: rowDelK key L k).Perm L := by
    have h0 : (L.take (placeK key L k) ++ mk (k, q) :: L.drop (placeK key L k + 1)).Perm (mk (k, q) :: rowDelK key L k) := List.perm_middle
    rw [← hL] at h0
    exact h0.symm
  have h2 : (mk (k, q) :: (Go.Pb.del m k).map mk).Perm (m.map mk) := ((perm_del h.apart (mem_of_look hl)).map mk).symm
  exact (h1.trans (h.perm.trans h2.symm)).cons_inv
theorem TellsK.del (h : TellsK key mk m L) {k : Key} {q : V} (hl : look m k = some q) : TellsK key mk (del m k) (rowDelK key L k) := by
  obtain ⟨h1, h2⟩ := h.rest hl
  refine ⟨h1, ?_, del_apart h.apart k, h.mkey⟩
  have hs : (rowDelK key L k).Sublist (L.take (placeK key L k) ++ mk (k, q) :: L.drop (placeK key L k + 1)) := List.Sublist.append (List.Sublist.refl _) (List.sublist_cons_self _ _)
  rw [← h2] at hs
  exact List.Pairwise.sublist hs h.rising
theorem TellsK.set (h : TellsK key mk m L) {k : Key} {q : V} (hl : look m k = some q) (p : V) : TellsK key mk (put m k p) (L.set (placeK key L k) (mk (k, p))) := by
  obtain ⟨h1, h2⟩ := h.rest hl
  have hat := h.at_some hl
  obtain ⟨hlt, hge⟩ := List.getElem?_eq_some_iff.1 hat
  have hS : L.set (placeK key L k) (mk (k, p)) = L.take (placeK key L k) ++ mk (k, p) :: L.drop (placeK key L k + 1) := by
    rw [List.set_eq_take_append_cons_drop, if_pos hlt]
  rw [hS]
  refine ⟨?_, ?_, put_apart h.apart _ _, h.mkey⟩
  · have h3 : (L.take (placeK key L k) ++ mk (k, p) :: L.drop (placeK key L k + 1)).Perm (mk (k, p) :: rowDelK key L k) := List.perm_middle
    have h4 := ((put_perm (v := p) h.apart (by rw [hl]; rfl : (look m k).isSome)).map mk)
    exact h3.trans ((List.Perm.cons _ h1).trans h4.symm)
  · have hr := h.rising
    rw [h2] at hr
    refine rising_keys ?_ hr
    simp only [List.map_append, List.map_cons, h.mkey]
def rowAddK (key : α → Key) (L : List α) (k : Key) (x : α) : List α := L.take (placeK key L k) ++ x :: L.drop (placeK key L k)
theorem TellsK.add (h : TellsK key mk m L) {k : Key} (hl : look m k = none) (p : V) : TellsK key mk (put m k p) (rowAddK key L k (mk (k, p))) := by
  refine ⟨?_, ?_, put_apart h.apart _ _, h.mkey⟩
  · have h3 : (rowAddK key L k (mk (k, p))).Perm (mk (k, p) :: L) := by
      have := @List.perm_middle _ (mk (k, p)) (L.take (placeK key L k)) (L.drop (placeK key L k))
      rwa [List.take_append_drop] at this
    rw [put_none hl, List.map_append]
    exact h3.trans ((List.Perm.cons _ h.perm).trans (List.perm_append_comm (l₁ := [mk (k, p)])))
  · have hb := below_all key L k
    have ha := above_all h.rising k
    have h1 := List.Pairwise.sublist (List.take_sublist (placeK key L k) L) h.rising
    have h2 := List.Pairwise.sublist (List.drop_sublist (placeK key L k) L) h.rising
    unfold rowAddK
    rw [List.pairwise_append]
    refine ⟨h1, List.pairwise_cons.2 ⟨fun b hb' => by rw [h.mkey]; exact ha b hb', h2⟩, fun a ha' b hb' => ?_⟩
    have hak := hb a ha'
    rcases List.mem_cons.1 hb' with rfl | hb'
    · rw [h.mkey]
      exact klt_asymm hak
    · cases h5 : klt (key b) (key a) with
      | false => rfl
      | true =>
        have := klt_trans h5 hak
        rw [ha b hb'] at this
        cases this
end
end Go.Pb
