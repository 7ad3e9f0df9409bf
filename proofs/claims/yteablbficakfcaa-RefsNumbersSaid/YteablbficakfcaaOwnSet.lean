/- An element of an owned row is stored into, in part or whole. Nothing here names the program. -/
import Derived.Test.YteablbficakfcaaHeld
import Derived.Test.YteablbficakfcaaFill
set_option linter.unusedVariables false
set_option linter.unusedSimpArgs false
set_option linter.unusedSectionVars false
namespace Go.Pb
open Go.RowKit

theorem splice_cons (cs : List Value) (o : Nat) (v : Value) (r : List Value) (h : o + (r.length + 1) ≤ cs.length) : splice' (cs.set o v) (o + 1) r = splice' cs o (v :: r) := by
  unfold splice'
  have h1 : (cs.set o v).take (o + 1) = cs.take o ++ [v] := by
    rw [List.set_eq_take_append_cons_drop, if_pos (by omega), List.take_append, List.length_take, Nat.min_eq_left (by omega), List.take_of_length_le (by simp; omega), show o + 1 - o = 1 by omega]
    simp
  have h2 : (cs.set o v).drop (o + 1 + r.length) = cs.drop (o + (v :: r).length) := by
    rw [List.drop_set, if_pos (by omega)]
    congr 1
    simp
    omega
  rw [h1, h2]
  simp
theorem heap_setCells (b : Nat) (t : TypeId) : ∀ (vs : List Value) (o : Nat) (w : World) (cur : Array Value), w.heap[b]? = some (.cells cur t (0, 0)) → o + vs.length ≤ cur.size →
    ∃ cur', (w.setCells b o vs).heap[b]? = some (.cells cur' t (0, 0)) ∧ cur'.size = cur.size ∧ cur'.toList = splice' cur.toList o vs
  | [], o, w, cur, h, hb => ⟨cur, h, rfl, by simp [splice']⟩
  | v :: r, o, w, cur, h, hb => by
    simp only [List.length_cons] at hb
    obtain ⟨cur', h1, h2, h3⟩ := heap_setCells b t r (o + 1) (w.setCell ⟨b, o, none⟩ v) (cur.setIfInBounds o v) (heap_setCell_same h o v) (by simp; omega)
    refine ⟨cur', h1, by simpa using h2, ?_⟩
    rw [h3, Array.toList_setIfInBounds]
    exact splice_cons _ _ _ _ (by simpa using hb)
theorem splice_in (a b c vs : List Value) (o : Nat) (h : o + vs.length ≤ b.length) : splice' (a ++ (b ++ c)) (a.length + o) vs = a ++ (splice' b o vs ++ c) := by
  unfold splice'
  have h1 : (a ++ (b ++ c)).take (a.length + o) = a ++ b.take o := by
    rw [List.take_append, List.take_of_length_le (by omega), show a.length + o - a.length = o by omega, List.take_append_of_le_length (by omega)]
  have h2 : (a ++ (b ++ c)).drop (a.length + o + vs.length) = b.drop (o + vs.length) ++ c := by
    rw [List.drop_append, List.drop_of_length_le (by omega), show a.length + o + vs.length - a.length = o + vs.length by omega, List.nil_append, List.drop_append_of_le_length h]
  rw [h1, h2]
  simp
section
variable {α : Type} [Enc α]
theorem flat_set (L : List α) (i : Nat) (hi : i < L.length) (z : α) (o : Nat) (vs : List Value) (h : o + vs.length ≤ Enc.sz α) (hz : splice' (Enc.enc L[i]) o vs = Enc.enc z) : splice' (flat L) (i * Enc.sz α + o) vs = flat (L.set i z) := by
  have hL : L = L.take i ++ (L[i] :: L.drop (i + 1)) := by rw [← List.drop_eq_getElem_cons hi, List.take_append_drop]
  have h1 : flat L = flat (L.take i) ++ (Enc.enc L[i] ++ flat (L.drop (i + 1))) := by
    conv => lhs; rw [hL]
    rw [flat_append, flat_cons]
  have hl : (flat (L.take i)).length = i * Enc.sz α := by rw [flat_length, List.length_take, Nat.min_eq_left (by omega)]
  rw [h1, ← hl, splice_in _ _ _ _ _ (by rw [Enc.len]; exact h), hz, List.set_eq_take_append_cons_drop, if_pos hi, flat_append, flat_cons]
theorem Owns.set {w : World} {base : Nat} {e : TypeId} {g n cap : Nat} {L : List α} (H : Owns w base e (.slice (some ⟨g, 0, none⟩) n cap) L) (hn : n = L.length) (i : Nat) (hi : i < L.length) (z : α) (o : Nat) (vs : List Value) (h : o + vs.length ≤ Enc.sz α) (hz : splice' (Enc.enc L[i]) o vs = Enc.enc z) :
    Owns (w.setCells g (i * Enc.sz α + o) vs) base e (.slice (some ⟨g, 0, none⟩) n cap) (L.set i z) := by
  subst hn
  obtain ⟨_, H⟩ := H
  rcases H with ⟨H, _⟩ | ⟨g', cap', cur, H, hb, hg, hc, hm, hs, ht⟩
  · simp at H
  · simp only [Value.slice.injEq, Option.some.injEq, Addr.mk.injEq, and_true, true_and] at H
    obtain ⟨rfl, rfl⟩ := H
    have hin : i * Enc.sz α + o + vs.length ≤ L.length * Enc.sz α := by
      have : (i + 1) * Enc.sz α ≤ L.length * Enc.sz α := Nat.mul_le_mul_right _ hi
      rw [Nat.add_mul, Nat.one_mul] at this
      omega
    have hcap : L.length * Enc.sz α ≤ cap * Enc.sz α := Nat.mul_le_mul_right _ hc
    obtain ⟨cur', h1, h2, h3⟩ := heap_setCells g e vs (i * Enc.sz α + o) w cur hg (by omega)
    refine ⟨flat_length _ |>.trans (by rw [List.length_set]), .inr ⟨g, cap, cur', by simp, hb, h1, by simpa using hc, hm, by omega, ?_⟩⟩
    rw [List.length_set, h3, ← flat_set L i hi z o vs h hz]
    have hcur : cur.toList = flat L ++ cur.toList.drop (L.length * Enc.sz α) := by rw [← ht, List.take_append_drop]
    have hfl : (flat L).length = L.length * Enc.sz α := flat_length L
    conv => lhs; rw [hcur]
    have := splice_in [] (flat L) (cur.toList.drop (L.length * Enc.sz α)) vs (i * Enc.sz α + o) (by rw [hfl]; exact hin)
    simp only [List.nil_append, List.length_nil, Nat.zero_add] at this
    rw [this, List.take_left' (by
      unfold splice'
      simp [hfl]
      omega)]
end
end Go.Pb
