/- IndexOrders: what is added in any order is told alike, rising: the plain law, and the walk. -/
import Derived.Test.YteablbficakfcaaIndexLaw
import Derived.Test.YteablbficakfcaaDeed

set_option linter.unusedVariables false
set_option linter.unusedSimpArgs false
set_option linter.unusedSectionVars false
namespace Go.Pb
open Go.RowKit Go.Proofs Go.BigFrame

/-! ### The plain law -/
def addAll (ds : List Deed) : List (Key × Place) := ds.foldl (fun m d => (ixAdd m d.key d.place).2) []
def KeysApart (ds : List Deed) : Prop := (ds.map (·.key)).Nodup
theorem addAll_snoc (ds : List Deed) (d : Deed) : addAll (ds ++ [d]) = (ixAdd (addAll ds) d.key d.place).2 := by simp [addAll]
theorem addAll_fine (ds : List Deed) : IxFine (addAll ds) := by
  suffices h : ∀ (ds : List Deed) m, IxFine m → IxFine (ds.foldl (fun m d => (ixAdd m d.key d.place).2) m) from h ds [] IxFine.nil
  intro ds
  induction ds with
  | nil => intro m h; exact h
  | cons d ds ih => intro m h; exact ih _ (h.add _ _)
theorem addAll_eq (ds : List Deed) (h : KeysApart ds) : addAll ds = (ds.filter (fun d => ixMay d.place)).map (fun d => (d.key, d.place)) := by
  suffices hs : ∀ (ds : List Deed) (m : List (Key × Place)), (∀ d ∈ ds, look m d.key = none) → KeysApart ds → ds.foldl (fun m d => (ixAdd m d.key d.place).2) m = m ++ (ds.filter (fun d => ixMay d.place)).map (fun d => (d.key, d.place)) by
    have := hs ds [] (fun d _ => rfl) h
    rwa [List.nil_append] at this
  intro ds
  induction ds with
  | nil => intro m _ _; simp
  | cons d ds ih =>
    intro m hm hk
    have hk' : d.key ∉ ds.map (·.key) ∧ (ds.map (·.key)).Nodup := by simpa [KeysApart] using hk
    rw [List.foldl_cons]
    by_cases hmay : ixMay d.place = true
    · have h0 : (ixAdd m d.key d.place).2 = m ++ [(d.key, d.place)] := by
        rw [add_fine (hm d (by simp)) hmay, put_none (hm d (by simp))]
      rw [h0, ih _ ?_ hk'.2, List.filter_cons, if_pos hmay]
      · simp
      · intro e he
        rw [look_append, hm e (by simp [he]), look_cons, look_nil, if_neg]
        · rfl
        · intro hh
          exact hk'.1 (List.mem_map.2 ⟨e, he, hh.symm⟩)
    · have h0 : (ixAdd m d.key d.place).2 = m := by simp [ixAdd, hmay]
      rw [h0, ih _ (fun e he => hm e (by simp [he])) hk'.2, List.filter_cons, if_neg hmay]
theorem addAll_perm {a b : List Deed} (ha : KeysApart a) (h : a.Perm b) : (addAll a).Perm (addAll b) := by
  have h1 : (a.map (fun d : Deed => d.key)).Perm (b.map (fun d : Deed => d.key)) := h.map _
  have hb : KeysApart b := h1.nodup_iff.1 ha
  rw [addAll_eq a ha, addAll_eq b hb]
  exact (h.filter _).map _
/-- The row from place k on, round. -/
def turned (own : List Deed) (k : Nat) : List Deed := own.drop (k % own.length) ++ own.take (k % own.length)
theorem turned_perm (own : List Deed) (k : Nat) : own.Perm (turned own k) := by
  have h := List.perm_append_comm (l₁ := own.take (k % own.length)) (l₂ := own.drop (k % own.length))
  rwa [List.take_append_drop] at h
theorem turned_len (own : List Deed) (k : Nat) : (turned own k).length = own.length := ((turned_perm own k).length_eq).symm
theorem turned_get? (own : List Deed) (k i : Nat) (hi : i < own.length) : (turned own k)[i]? = own[(i + k) % own.length]? := by
  have hlt : k % own.length < own.length := Nat.mod_lt _ (by omega)
  have hm : (i + k) % own.length = (i + k % own.length) % own.length := by rw [Nat.add_mod_mod]
  unfold turned
  generalize k % own.length = r at hlt hm ⊢
  have hl : (own.drop r).length = own.length - r := by simp
  by_cases h : i < own.length - r
  · have hm2 : (i + k) % own.length = r + i := by rw [hm, Nat.mod_eq_of_lt (by omega)]; omega
    rw [List.getElem?_append_left (by rw [hl]; exact h), List.getElem?_drop, hm2]
  · have hm2 : (i + k) % own.length = i - (own.length - r) := by rw [hm, Nat.mod_eq_sub_mod (by omega), Nat.mod_eq_of_lt (by omega)]; omega
    rw [List.getElem?_append_right (by rw [hl]; omega), List.getElem?_take, if_pos (by rw [hl]; omega), hm2, hl]
theorem turned_get (own : List Deed) (k i : Nat) (hi : i < own.length) : (turned own k)[i]'(by rw [turned_len]; exact hi) = own[(i + k) % own.length]'(Nat.mod_lt _ (by omega)) := by
  have h := turned_get? own k i hi
  rw [List.getElem?_eq_getElem (by rw [turned_len]; exact hi), List.getElem?_eq_getElem (Nat.mod_lt _ (by omega))] at h
  injection h
theorem addAll_take (ds : List Deed) (k : Nat) (h : k < ds.length) : addAll (ds.take (k + 1)) = (ixAdd (addAll (ds.take k)) ds[k].key ds[k].place).2 := by
  rw [List.take_succ_eq_append_getElem h, addAll_snoc]
theorem addAll_len (ds : List Deed) : (addAll ds).length ≤ ds.length := by
  suffices h : ∀ (ds : List Deed) m, (ds.foldl (fun m d => (ixAdd m d.key d.place).2) m).length ≤ m.length + ds.length from by simpa [addAll] using h ds []
  intro ds
  induction ds with
  | nil => intro m; simp
  | cons d ds ih =>
    intro m
    have h1 := ih (ixAdd m d.key d.place).2
    have h2 := add_length m d.key d.place
    simp only [List.foldl_cons, List.length_cons]
    omega
end Go.Pb
