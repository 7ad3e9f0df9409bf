/- The bag of lists that were found. -/
import Derived.Test.YteablbficakfcaaFlat0
import Derived.Test.YteablbficakfcaaOps
set_option linter.unusedVariables false
set_option linter.unusedSimpArgs false
set_option linter.unusedSectionVars false
namespace Go.Pb
open Go.RowKit Go.Proofs Go.BigFrame

structure Bag where
  l : List Sl
  h : l.length = 21
instance : Enc Bag := ⟨fun b => b.l.map Sl.val, 21, fun b => by simp [b.h], fun b v hv => by
  simp only [List.mem_map] at hv
  obtain ⟨s, _, rfl⟩ := hv
  rfl, by decide⟩
def Bag.zero : Bag := ⟨List.replicate 21 Sl.nil, by simp⟩
/-- Only the j-th kind is there. -/
def Bag.only (j : Nat) (s : Sl) : Bag := ⟨(List.replicate 21 Sl.nil).set j s, by simp⟩
theorem Bag.only_nil (j : Nat) : Bag.only j Sl.nil = Bag.zero := by
  unfold Bag.only Bag.zero
  congr 1
  apply List.ext_getElem?
  intro i
  rw [List.getElem?_set]
  split
  · rename_i h
    subst h
    by_cases h2 : j < 21
    · rw [if_pos (by simpa using h2), List.getElem?_replicate, if_pos h2]
    · rw [if_neg (by simpa using h2), List.getElem?_replicate, if_neg h2]
  · rfl
theorem bag_cell {w : World} {gb : Nat} {t : TypeId} {j : Nat} {s : Sl} (h : w.heap[gb]? = some (.cells (Enc.enc (Bag.only j s)).toArray t)) (i : Nat) (hi : i < 21) : w.cell? ⟨gb, i, none⟩ = some (if i = j then s.val else .slice none 0 0) := by
  have hr := range_block h i (if i = j then s.val else .slice none 0 0) (by
    show ((Bag.only j s).l.map Sl.val)[i]? = _
    rw [List.getElem?_map]
    unfold Bag.only
    simp only [List.getElem?_set]
    by_cases he : i = j
    · subst he; simp [hi]
    · rw [if_neg (fun e => he e.symm), if_neg he]
      rw [List.getElem?_replicate, if_pos hi]
      rfl)
  simpa using hr
theorem bag_at {w : World} {gb : Nat} {t : TypeId} {j : Nat} {s : Sl} (h : w.heap[gb]? = some (.cells (Enc.enc (Bag.only j s)).toArray t)) (hj : j < 21) : w.cell? ⟨gb, j, none⟩ = some s.val := by
  have := bag_cell h j hj
  rwa [if_pos rfl] at this
theorem bag_off {w : World} {gb : Nat} {t : TypeId} {j : Nat} {s : Sl} (h : w.heap[gb]? = some (.cells (Enc.enc (Bag.only j s)).toArray t)) (i : Nat) (hi : i < 21) (hne : i ≠ j) : w.cell? ⟨gb, i, none⟩ = some (.slice none 0 0) := by
  have := bag_cell h i hi
  rwa [if_neg hne] at this
theorem bag_set {w : World} {gb : Nat} {t : TypeId} {j : Nat} {s : Sl} (h : w.heap[gb]? = some (.cells (Enc.enc (Bag.only j s)).toArray t)) (s' : Sl) : (w.setCell ⟨gb, j, none⟩ s'.val).heap[gb]? = some (.cells (Enc.enc (Bag.only j s')).toArray t) := by
  rw [heap_setCell_same h]
  congr 2
  have : ∀ x : Sl, Enc.enc (Bag.only j x) = ((List.replicate 21 Sl.nil).set j x).map Sl.val := fun _ => rfl
  rw [this, this, List.setIfInBounds_toArray, List.map_set, List.map_set, List.set_set]
theorem Owns.not_block {α : Type} [Enc α] {w : World} {base : Nat} {e : TypeId} {v : Value} {l : List α} (H : Owns w base e v l) {g : Nat} {cs : Array Value} {t : TypeId} (hg : w.heap[g]? = some (.cells cs t)) (ht : e ≠ t) : v.ownBlock ≠ some g := fun e' => by
  obtain ⟨_, cur, _, _, h2, _⟩ := H.ext_block e'
  rw [hg] at h2
  injection h2 with h2
  injection h2 with _ h3 _
  exact ht h3.symm
theorem zero98 : (Try.prog.info? 98).map (·.zero) = some (some (agg Bag.zero)) := by kernel_rfl
theorem build_bag {o : Oper} {ρ : Operand → Value} {w : World} (ho : o.op = .build 98 #[]) : (execOp ρ o).run Try.prog w = .ok (.value (agg Bag.zero)) w := by
  obtain ⟨i, hi, hz⟩ := Option.map_eq_some_iff.1 zero98
  have hp : ∃ places, ∀ w, (Instr.build 98 #[]).run Try.prog w = .ok (agg Bag.zero) w := ⟨(), fun w => by kernel_rfl⟩
  obtain ⟨_, hp⟩ := hp
  have e : ((#[] : Array (Nat × Operand)).map fun (i, x) => (i, ρ x)) = #[] := by simp
  unfold execOp
  simp only [ho, e, Sem.run_bind, hp, Result.andThen_ok, Sem.run_pure]
theorem sS_Counts : (Try.prog.info? 30).map (·.size) = some 1 := by kernel_rfl
theorem putCounts_ok (w : World) (gb base : Nat) (s l : Sl) (ll : List Sl) (hB : w.heap[gb]? = some (.cells (Enc.enc (Bag.only 14 s)).toArray 98)) (hO : Owns w base 25 s.val ll) (hlen : ll.length ≤ 1000) (hbase : base ≤ w.heap.size) :
    Calls Try.prog 42 #[.pointer (some ⟨gb, 0, none⟩), l.val] w fun e w' => e = .returned (.tuple #[]) ∧ ∃ s' : Sl, Owns w' base 25 s'.val (ll ++ [l]) ∧ w'.heap[gb]? = some (.cells (Enc.enc (Bag.only 14 s')).toArray 98) ∧ Keep (fun b => b = gb ∨ s.own = some b) w w' := by
  have hc := bag_at hB (by decide)
  have hbig : (ll.length + 1) * 24 ≤ 140737488355328 := by omega
  have hne := hO.not_block hB (by decide)
  have hlt : gb < w.heap.size := (Array.getElem?_eq_some_iff.1 hB).1
  have HB := Lib.hid hB
  clear hB
  have HNE := Lib.hid hne
  clear hne
  go_enter Try.func42, Try.ntmps42
  go_wp2_with (first
    | (refine st_val rfl (run_faddr 98 _ 14 rfl rfl _ Try.underlying98 14 _ rfl rfl 0 sS_Counts) ?_)
    | (refine st_val rfl (run_load1 30 _ rfl rfl ?_ _ Try.underlying30 rfl) ?_; (with_reducible exact hc))
    | (refine st_val rfl (run_row1' 30 25 _ rfl Try.underlying30 l _ 24 infoS_Counts l.val rfl rfl (by decide)) ?_)
    | (at_builtin; refine st_push2 base rfl _ _ 30 25 rfl Try.underlying30 (.slice none 0 0) rfl 24 infoS_Counts (by decide) s.val ll l rfl rfl hO hbig hbase (fun v' w' hO' hA' => ?_);
       obtain ⟨A', c', hv', -, -⟩ := hO'.shape;
       rw [List.length_append, List.length_singleton] at hv';
       subst hv';
       have hK' := Keep.below (fresh_alloc (fresh_refl w) (.cells (Enc.enc l).toArray 25)) |>.trans (X := fun b => b = gb ∨ s.own = some b) (app_keep hA' gb);
       have hB' : w'.heap[gb]? = some (.cells (Enc.enc (Bag.only 14 s)).toArray 98) := app_heap hA' HNE.out (by rw [heap_alloc_old _ _ hlt]; exact HB.out);
       have hc' := bag_at hB' (by decide);
       have hf' := frozen_of_block hB' 14;
       have hne' := hO'.not_block hB' (by decide)))
  exact bodyPost_end (results_none Try.results42 _ _ _) rfl ⟨rfl, ⟨A', ll.length + 1, c'⟩, hO'.keep (Keep.setCell w' ⟨gb, 14, none⟩ (.slice A' (ll.length + 1) c')) (fun i hi e => by subst e; exact hne' hi), bag_set hB' ⟨A', ll.length + 1, c'⟩,
    hK'.trans ((Keep.setCell w' ⟨gb, 14, none⟩ (.slice A' (ll.length + 1) c')).mono (fun k _ h => .inl h))⟩
end Go.Pb
