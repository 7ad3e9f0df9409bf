/- The library's sort at items, by their keys. -/
import Derived.Test.YteablbficakfcaaShelf
import Derived.Test.YteablbficakfcaaItems
set_option linter.unusedVariables false
set_option linter.unusedSimpArgs false
set_option linter.unusedSectionVars false
namespace Go.Pb
open Go.RowKit Go.Proofs Go.Sort Go.Shelf

/-- An order by keys, of whatever has a key. -/
theorem keySWO {α : Type} (f : α → Key) : SWO (ltOf (fun a b : α => kcmp (f a) (f b))) where
  irrefl x := klt_irrefl (f x)
  trans x y z h1 h2 := klt_trans (a := f x) (b := f y) (c := f z) h1 h2
  ntrans x y z h1 h2 := by
    cases h3 : ltOf (fun a b : α => kcmp (f a) (f b)) x z with
    | false => rfl
    | true =>
      have h3' : klt (f x) (f z) = true := h3
      cases h4 : klt (f y) (f x) with
      | true =>
        have : klt (f y) (f z) = true := klt_trans h4 h3'
        exact absurd (this.symm.trans h2) (by decide)
      | false =>
        have he : f x = f y := klt_total h1 h4
        rw [he] at h3'
        exact absurd (h3'.symm.trans h2) (by decide)
/-- What the sort says, of lists. -/
theorem sorted_list {α : Type} [Inhabited α] {lt : α → α → Bool} {l : List α} {d' : Array α} (hp : PermIn 0 l.toArray.size l.toArray d') (hs : SortedIn lt 0 l.toArray.size d') : d'.toList.Perm l ∧ d'.toList.Pairwise (fun a b => lt b a = false) := by
  obtain ⟨hsz, _, hperm⟩ := hp
  have hsz' : d'.size = l.length := by simpa using hsz
  constructor
  · have h1 : d'.extract 0 l.toArray.size = d' := by rw [← hsz]; simp
    have h2 : l.toArray.extract 0 l.toArray.size = l.toArray := by simp
    rw [h1, h2] at hperm
    exact hperm
  · rw [List.pairwise_iff_getElem]
    intro i j hi hj hij
    have h := hs i j (Nat.zero_le _) hij (by simp at hj ⊢; omega)
    rw [getElem!_pos d' j (by simpa using hj), getElem!_pos d' i (by simpa using hi)] at h
    simpa using h
theorem enter_itemCmp (args : Array Value) (w : World) : (callFunc 48 args).run Try.prog w = .ok (.enter 48 args) w := run_enter Try.func48 (by kernel_rfl) rfl args w
theorem agg_item (w : World) : (isAgg 42).run Try.prog w = .ok true w := by
  unfold isAgg
  rw [Sem.run_bind, run_underlying Try.underlying42 w]
  simp
theorem size_item (w : World) : (Go.sizeOf 42).run Try.prog w = .ok 73 w := by
  obtain ⟨i, hi, hs⟩ := Option.map_eq_some_iff.1 s42
  simp [Go.sizeOf, typeInfo, hi, hs]
theorem sortItems_ok (w : World) (base : Nat) (v : Value) (l : List Item) (hO : Owns w base 42 v l) (hl : l.length ≤ 1000000000) :
    Calls Try.prog 47 #[v, .func (.func 48) #[] #[]] w fun e w' => e = .returned (.tuple #[]) ∧ ∃ l', l'.Perm l ∧ l'.Pairwise (fun a b => klt b.key a.key = false) ∧ Owns w' base 42 v l' ∧ Keep (fun k => some k = v.ownBlock) w w' := by
  rcases hO.2 with ⟨rfl, hn⟩ | ⟨g, cap, cur, rfl, hb, hg, hcap, hmax, hcs, htk⟩
  · have hnil : l = [] := List.eq_nil_of_length_eq_zero hn
    subst hnil
    have hcon := AnyF.slices_SortFunc_none Try.sortItem none 0 (.func (.func 48) #[] #[]) w
    refine Calls.mono hcon ?_
    rintro e w' ⟨rfl, rfl⟩
    exact ⟨rfl, [], List.Perm.refl _, List.Pairwise.nil, hO, Keep.refl _⟩
  · have hr : w.rangeAt g 0 (flat l) := by
      have h1 := range_sub (range_block hg) 0 (l.length * Enc.sz Item)
      rw [List.drop_zero, htk] at h1
      exact h1
    have hH := holdsK_of hr (frozen_of_block hg)
    have hcmp : CmpLays Try.prog 48 #[] (Enc.enc (α := Item)) 73 (fun a b : Item => kcmp a.key b.key) g 0 l.toArray.size w := fun m os dk hdk x y => itemCmp_ok x y _
    have hcon := AnyQ.slices_SortFunc Try.sortItem 73 agg_item size_item (Enc.enc (α := Item)) Enc.len Enc.one (fun a b : Item => kcmp a.key b.key) (keySWO (fun i : Item => i.key)) 48 #[] g 0 cap l.toArray w enter_itemCmp hcmp hH (Array.getElem?_eq_some_iff.1 hg).1 (by simp; omega)
    rw [List.size_toArray] at hcon
    refine Calls.mono hcon ?_
    rintro e w' ⟨rfl, d', n, os, hp, hs, rfl⟩
    obtain ⟨h1, h2⟩ := sorted_list (l := l) (by simpa using hp) (by simpa using hs)
    refine ⟨rfl, d'.toList, h1, h2, ?_, ?_⟩
    · have := sortW_owns hO (l' := d'.toList) h1.length_eq n os
      rw [h1.length_eq] at this
      exact this
    · exact (sortW_keep w g 0 n d' os).mono (fun k _ hk => by rw [hk]; rfl)
/-- Items of an index: all places, in the order of their keys. -/
theorem items_of_ok (x : Value) (b : Nat) (m : List (Key × Place)) (w : World) (h : IxIs w x b m) (hlen : m.length ≤ 1000000000) : Calls Try.prog 29 #[x] w fun e w' =>
    ∃ v l, e = .returned v ∧ Owns w' w.heap.size 42 v l ∧ l.Perm (m.map itemOf) ∧ l.Pairwise (fun a b => klt b.key a.key = false) ∧ Below w.heap.size w w' := items_ok sortItems_ok x b m w h hlen
end Go.Pb
