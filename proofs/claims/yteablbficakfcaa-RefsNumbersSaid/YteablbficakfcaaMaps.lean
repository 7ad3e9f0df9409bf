/- A map's block told as a list of pairs, whatever its keys and elements are: looked up, stored into, deleted from, ranged over. Nothing here names the program. -/
import Derived.Test.YteablbficakfcaaBase
set_option linter.unusedVariables false
set_option linter.unusedSimpArgs false
set_option linter.unusedSectionVars false
namespace Go.Pb
open Go.RowKit Go.MapKept
open Go.ChangeMaps (setBlock)

/-! ### 1. Lists of pairs -/
section
variable {K V : Type} [DecidableEq K]
def look (l : List (K × V)) (x : K) : Option V := (l.find? (fun p => decide (p.1 = x))).map (·.2)
def put (l : List (K × V)) (x : K) (v : V) : List (K × V) := if (look l x).isSome then l.map (fun p => if p.1 = x then (x, v) else p) else l ++ [(x, v)]
def del (l : List (K × V)) (x : K) : List (K × V) := l.filter (fun p => decide (p.1 ≠ x))
def Apart (l : List (K × V)) : Prop := (l.map (·.1)).Nodup

theorem look_nil (x : K) : look ([] : List (K × V)) x = none := rfl
theorem look_cons (p : K × V) (l : List (K × V)) (x : K) : look (p :: l) x = if p.1 = x then some p.2 else look l x := by
  unfold look
  by_cases h : p.1 = x <;> simp [List.find?_cons, h]
theorem look_none {l : List (K × V)} {x : K} (h : ∀ p ∈ l, p.1 ≠ x) : look l x = none := by
  induction l with
  | nil => rfl
  | cons p l ih =>
    rw [look_cons, if_neg (h p (by simp)), ih (fun q hq => h q (by simp [hq]))]
theorem look_none_iff {l : List (K × V)} {x : K} : look l x = none ↔ ∀ p ∈ l, p.1 ≠ x := by
  refine ⟨?_, look_none⟩
  induction l with
  | nil => intro _ p hp; cases hp
  | cons q l ih =>
    intro h p hp
    rw [look_cons] at h
    split at h
    · cases h
    · rename_i hne
      rcases List.mem_cons.1 hp with rfl | hp
      · exact hne
      · exact ih h p hp
theorem look_mem {l : List (K × V)} (hn : Apart l) {x : K} {v : V} (h : (x, v) ∈ l) : look l x = some v := by
  induction l with
  | nil => cases h
  | cons p l ih =>
    rw [look_cons]
    unfold Apart at hn ih
    rw [List.map_cons, List.nodup_cons] at hn
    rcases List.mem_cons.1 h with rfl | h
    · simp
    · rw [if_neg, ih hn.2 h]
      intro e
      exact hn.1 (List.mem_map.2 ⟨_, h, e.symm⟩)
theorem mem_of_look {l : List (K × V)} {x : K} {v : V} (h : look l x = some v) : (x, v) ∈ l := by
  induction l with
  | nil => cases h
  | cons p l ih =>
    rw [look_cons] at h
    split at h
    · rename_i he
      injection h with h
      subst he
      subst h
      exact List.mem_cons_self
    · exact List.mem_cons_of_mem _ (ih h)
theorem look_append (l m : List (K × V)) (x : K) : look (l ++ m) x = (look l x).or (look m x) := by
  induction l with
  | nil => simp [look_nil]
  | cons p l ih =>
    rw [List.cons_append, look_cons, look_cons, ih]
    split <;> simp
theorem look_map_put (l : List (K × V)) (x y : K) (v : V) : look (l.map (fun p => if p.1 = x then (x, v) else p)) y = if y = x then (look l x).map (fun _ => v) else look l y := by
  induction l with
  | nil => simp [look_nil]
  | cons p l ih =>
    rw [List.map_cons, look_cons, look_cons, look_cons, ih]
    by_cases h1 : p.1 = x
    · by_cases h2 : y = x
      · subst h2; simp [h1]
      · have h3 : ¬ x = y := fun e => h2 e.symm
        simp [h1, h2, h3]
    · by_cases h2 : y = x
      · subst h2; simp [h1]
      · by_cases h3 : p.1 = y
        · simp [h1, h2, h3]
        · simp [h1, h2, h3]
theorem look_put (l : List (K × V)) (x y : K) (v : V) : look (put l x v) y = if y = x then some v else look l y := by
  unfold put
  split
  · rename_i h
    rw [look_map_put]
    split
    · obtain ⟨u, hu⟩ := Option.isSome_iff_exists.1 h
      rw [hu]; rfl
    · rfl
  · rename_i h
    have hx : look l x = none := by simpa using h
    rw [look_append, look_cons, look_nil]
    by_cases h2 : y = x
    · subst h2; simp [hx]
    · have h3 : ¬ x = y := fun e => h2 e.symm
      simp [h2, h3]
theorem look_del (l : List (K × V)) (x y : K) : look (del l x) y = if y = x then none else look l y := by
  unfold del
  induction l with
  | nil => simp [look_nil]
  | cons p l ih =>
    rw [List.filter_cons]
    by_cases h1 : p.1 = x
    · simp only [ne_eq, h1, not_true_eq_false, decide_false, Bool.false_eq_true, if_false, ih, look_cons]
      by_cases h2 : y = x
      · simp [h2]
      · have h3 : ¬ x = y := fun e => h2 e.symm
        simp [h2, h3]
    · simp only [ne_eq, h1, not_false_eq_true, decide_true, if_true, look_cons, ih]
      by_cases h2 : y = x
      · subst h2; simp [h1]
      · simp [h2]
theorem put_keys (l : List (K × V)) (x : K) (v : V) : (put l x v).map (·.1) = if (look l x).isSome then l.map (·.1) else l.map (·.1) ++ [x] := by
  unfold put
  split
  · rw [List.map_map]
    apply List.map_congr_left
    intro p _
    by_cases h : p.1 = x <;> simp [h]
  · simp
theorem put_apart {l : List (K × V)} (h : Apart l) (x : K) (v : V) : Apart (put l x v) := by
  unfold Apart
  rw [put_keys]
  split
  · exact h
  · rename_i hn
    have hx : look l x = none := by simpa using hn
    rw [List.nodup_append]
    refine ⟨h, by simp, ?_⟩
    intro a ha b hb
    obtain ⟨p, hp, rfl⟩ := List.mem_map.1 ha
    simp at hb
    subst hb
    exact look_none_iff.1 hx p hp
theorem del_apart {l : List (K × V)} (h : Apart l) (x : K) : Apart (del l x) := by
  unfold Apart del at *
  exact h.sublist (List.filter_sublist.map _)
theorem put_length (l : List (K × V)) (x : K) (v : V) : (put l x v).length = if (look l x).isSome then l.length else l.length + 1 := by
  unfold put
  split <;> simp
theorem del_none {l : List (K × V)} {x : K} (h : look l x = none) : del l x = l := by
  unfold del
  rw [List.filter_eq_self]
  intro p hp
  simpa using look_none_iff.1 h p hp
theorem set_eq_map {l : List (K × V)} (hn : Apart l) (x : K) (v : V) {j : Nat} {u : V} (hj : l[j]? = some (x, u)) : l.set j (x, v) = l.map (fun p => if p.1 = x then (x, v) else p) := by
  induction l generalizing j with
  | nil => cases hj
  | cons p l ih =>
    have hn' := hn
    unfold Apart at hn'
    rw [List.map_cons, List.nodup_cons] at hn'
    cases j with
    | zero =>
      simp at hj
      subst hj
      simp only [List.set_cons_zero, List.map_cons, if_true]
      congr 1
      symm
      conv => rhs; rw [← List.map_id l]
      apply List.map_congr_left
      intro q hq
      rw [if_neg]
      · rfl
      · intro e
        exact hn'.1 (List.mem_map.2 ⟨q, hq, e⟩)
    | succ j =>
      simp only [List.getElem?_cons_succ] at hj
      rw [List.set_cons_succ, List.map_cons, ih hn'.2 hj, if_neg]
      intro e
      exact hn'.1 (List.mem_map.2 ⟨_, List.mem_of_getElem? hj, e.symm⟩)
theorem erase_eq_del {l : List (K × V)} (hn : Apart l) (x : K) {j : Nat} {u : V} (hj : l[j]? = some (x, u)) : l.eraseIdx j = del l x := by
  induction l generalizing j with
  | nil => cases hj
  | cons p l ih =>
    have hn' := hn
    unfold Apart at hn'
    rw [List.map_cons, List.nodup_cons] at hn'
    cases j with
    | zero =>
      simp at hj
      subst hj
      have : del l x = l := del_none (look_none (fun q hq e => hn'.1 (List.mem_map.2 ⟨q, hq, e⟩)))
      unfold del at this ⊢
      rw [List.eraseIdx_cons_zero, List.filter_cons, if_neg (by simp), this]
    | succ j =>
      simp only [List.getElem?_cons_succ] at hj
      have hne : p.1 ≠ x := fun e => hn'.1 (List.mem_map.2 ⟨_, List.mem_of_getElem? hj, e.symm⟩)
      rw [List.eraseIdx_cons_succ, ih hn'.2 hj]
      unfold del
      rw [List.filter_cons, if_pos (by simpa using hne)]
end

/-! ### 2. The block -/
section
variable {K V : Type} [DecidableEq K]
/-- How keys are told: each is one of the model's keys, no two are one. -/
structure KeyCode (P : Program) (kt : TypeId) (kv : K → Value) : Prop where
  keyed : Maps.Keyed P kt
  ok : ∀ x, ∃ l, keyOf P kt (kv x) = some l
  inj : ∀ x y, kv x = kv y → x = y

def pairs (kv : K → Value) (vv : V → Value) (l : List (K × V)) : List (Value × Value) := l.map fun p => (kv p.1, vv p.2)
def ents (es : Array MapEntry) : List (Value × Value) := es.toList.map fun e => (e.key, e.val)
/-- Block b is a map of just these pairs, in the order in which they came. -/
def MapIs (w : World) (b : Nat) (kv : K → Value) (vv : V → Value) (l : List (K × V)) : Prop :=
  ∃ es clock, w.heap[b]? = some (.map es clock) ∧ Stamped es clock ∧ ents es = pairs kv vv l

variable {P : Program} {kt et : TypeId} {kv : K → Value} {vv : V → Value} {w w' : World} {b : Nat} {l : List (K × V)}
theorem MapIs.lt (h : MapIs w b kv vv l) : b < w.heap.size := by
  obtain ⟨es, clock, hb, _⟩ := h
  exact (Array.getElem?_eq_some_iff.1 hb).1
theorem MapIs.keep (h : MapIs w b kv vv l) (hb : w'.heap[b]? = w.heap[b]?) : MapIs w' b kv vv l := by
  obtain ⟨es, clock, h1, h2⟩ := h
  exact ⟨es, clock, hb.trans h1, h2⟩
theorem MapIs.fresh (h : MapIs w b kv vv l) (hb : Below w.heap.size w w') : MapIs w' b kv vv l := h.keep (hb.block b h.lt)
theorem MapIs.grown {row : Option Nat} (h : MapIs w b kv vv l) (hg : w.grownBy w' row) (hne : some b ≠ row) : MapIs w' b kv vv l := h.keep (hg.block b h.lt hne)
theorem MapIs.alloc (h : MapIs w b kv vv l) (o : Obj) : MapIs (w.alloc o) b kv vv l := h.keep (Below.heap_alloc w o b h.lt)
theorem MapIs.drew (h : MapIs w b kv vv l) : MapIs w.drew b kv vv l := h
theorem MapIs.drewN (h : MapIs w b kv vv l) (n : Nat) : MapIs (w.drewN n) b kv vv l := h
theorem MapIs.setCell (h : MapIs w b kv vv l) {p : Addr} (hp : b ≠ p.block) (u : Value) : MapIs (w.setCell p u) b kv vv l := h.keep (Below.heap_setCell w p u b hp)
theorem MapIs.made (w : World) (kv : K → Value) (vv : V → Value) : MapIs (w.alloc (.map #[] 0)) w.heap.size kv vv [] := ⟨#[], 0, heap_alloc_new w _, stamped_empty 0, rfl⟩
theorem keys_apart (C : KeyCode P kt kv) {es : Array MapEntry} {clock : Nat} (hs : Stamped es clock) (he : ents es = pairs kv vv l) : Apart l := by
  have h3 := hs.2.2
  have e1 : es.toList.map (·.key) = l.map (fun p => kv p.1) := by
    have := congrArg (List.map Prod.fst) he
    simpa [ents, pairs, List.map_map, Function.comp_def] using this
  rw [e1] at h3
  unfold Apart
  have : l.map (fun p => kv p.1) = (l.map (·.1)).map kv := by simp [List.map_map, Function.comp_def]
  rw [this] at h3
  unfold List.Nodup at h3 ⊢
  rw [List.pairwise_map] at h3
  exact h3.imp (fun hne e => hne (by rw [e]))
theorem MapIs.apart (C : KeyCode P kt kv) (h : MapIs w b kv vv l) : Apart l := by
  obtain ⟨es, clock, _, hs, he⟩ := h
  exact keys_apart C hs he
theorem ents_size {es : Array MapEntry} (he : ents es = pairs kv vv l) : es.size = l.length := by
  have := congrArg List.length he
  simpa [ents, pairs] using this
theorem ents_keys (C : KeyCode P kt kv) {es : Array MapEntry} (he : ents es = pairs kv vv l) : ∀ e ∈ es.toList, ∃ lk, keyOf P kt e.key = some lk := by
  intro e hm
  have : (e.key, e.val) ∈ ents es := List.mem_map.2 ⟨e, hm, rfl⟩
  rw [he] at this
  obtain ⟨p, _, hp⟩ := List.mem_map.1 this
  simp only [Prod.mk.injEq] at hp
  obtain ⟨lk, hk⟩ := C.ok p.1
  exact ⟨lk, hp.1 ▸ hk⟩
theorem ents_get {es : Array MapEntry} (he : ents es = pairs kv vv l) {j : Nat} {e : MapEntry} (hj : es.toList[j]? = some e) : ∃ p, l[j]? = some p ∧ e.key = kv p.1 ∧ e.val = vv p.2 := by
  have h1 : (ents es)[j]? = some (e.key, e.val) := by simp [ents, hj]
  rw [he] at h1
  simp only [pairs, List.getElem?_map, Option.map_eq_some_iff, Prod.mk.injEq] at h1
  obtain ⟨p, hp, h2, h3⟩ := h1
  exact ⟨p, hp, h2.symm, h3.symm⟩
/-- A key is looked for. -/
theorem run_find (C : KeyCode P kt kv) {es : Array MapEntry} {clock : Nat} (hs : Stamped es clock) (he : ents es = pairs kv vv l) (w : World) (x : K) :
    (look l x = none ∧ (Instr.findKey kt (kv x) es.toList).run P w = .ok none w ∧ ∀ e ∈ es.toList, e.key ≠ kv x) ∨
    ∃ j v e, look l x = some v ∧ l[j]? = some (x, v) ∧ (Instr.findKey kt (kv x) es.toList).run P w = .ok (some (j, vv v)) w ∧ es.toList[j]? = some e ∧ e.key = kv x := by
  obtain ⟨lk, hlk⟩ := C.ok x
  rcases C.keyed.find w hlk es.toList (ents_keys C he) with ⟨h1, h2⟩ | ⟨j, e, h1, h2, h3⟩
  · refine .inl ⟨look_none fun p hp hpx => ?_, h1, h2⟩
    have : (kv p.1, vv p.2) ∈ pairs kv vv l := List.mem_map.2 ⟨p, hp, rfl⟩
    rw [← he] at this
    obtain ⟨e, hm, hep⟩ := List.mem_map.1 this
    simp only [Prod.mk.injEq] at hep
    exact h2 e hm (by rw [hep.1, hpx])
  · obtain ⟨p, hp, hk, hv⟩ := ents_get he h2
    have hpx : p.1 = x := C.inj _ _ (hk.symm.trans h3)
    have hp' : l[j]? = some (x, p.2) := by rw [hp, ← hpx]
    exact .inr ⟨j, p.2, e, look_mem (keys_apart C hs he) (List.mem_of_getElem? hp'), hp', by rw [← hv]; exact h1, h2, h3⟩
/-- 'm[k]' | 'v, ok := m[k]'. -/
theorem run_look (C : KeyCode P kt kv) (t : TypeId) (ht : P.underlying t = some (.map kt et)) (z : Value) (hz : ∀ w, (zeroValue et).run P w = .ok z w) (h : MapIs w b kv vv l) (x : K) (c : Bool) :
    (Instr.lookup t (.map (some b)) (kv x) c).run P w = .ok (if c then .tuple #[(look l x).elim z vv, .bool (look l x).isSome] else (look l x).elim z vv) w := by
  obtain ⟨es, clock, hb, hs, he⟩ := h
  obtain ⟨lk, hlk⟩ := C.ok x
  rcases run_find C hs he w x with ⟨h0, h1, _⟩ | ⟨j, v, e, h0, _, h1, _⟩
  · simp [Instr.lookup, run_underlying ht, MapKept.run_getObj_map hb, C.keyed.check w _ hlk, h1, h0, hz, Result.andThen]
  · simp [Instr.lookup, run_underlying ht, MapKept.run_getObj_map hb, C.keyed.check w _ hlk, h1, h0, Result.andThen]
theorem run_look_nil (C : KeyCode P kt kv) (t : TypeId) (ht : P.underlying t = some (.map kt et)) (z : Value) (hz : ∀ w, (zeroValue et).run P w = .ok z w) (w : World) (x : K) (c : Bool) :
    (Instr.lookup t (.map none) (kv x) c).run P w = .ok (if c then .tuple #[z, .bool false] else z) w := by
  obtain ⟨lk, hlk⟩ := C.ok x
  have h1 : (Instr.findKey kt (kv x) []).run P w = .ok none w := by
    rcases C.keyed.find w hlk [] (by simp) with ⟨h1, _⟩ | ⟨j, e, _, h2, _⟩
    · exact h1
    · cases h2
  simp [Instr.lookup, run_underlying ht, C.keyed.check w _ hlk, h1, hz, Result.andThen]
theorem grown_setBlock (w : World) (b : Nat) (o : Obj) : w.grownBy (setBlock w b o) (some b) :=
  ⟨rfl, rfl, rfl, by simp [setBlock], fun k hk hne => by
    have : b ≠ k := fun e => hne (by rw [e])
    simp [setBlock, Array.getElem?_setIfInBounds, this]⟩
theorem heap_setBlock {w : World} {b : Nat} (hb : b < w.heap.size) (o : Obj) : (setBlock w b o).heap[b]? = some o := by simp [setBlock, hb]
/-- 'm[k] = v'. -/
theorem run_put (C : KeyCode P kt kv) (t : TypeId) (ht : P.underlying t = some (.map kt et)) (h : MapIs w b kv vv l) (x : K) (v : V) :
    ∃ w', (Instr.mapUpdate t (.map (some b)) (kv x) (vv v)).run P w = .ok () w' ∧ MapIs w' b kv vv (put l x v) ∧ w.grownBy w' (some b) ∧ w'.heap.size = w.heap.size := by
  obtain ⟨es, clock, hb, hs, he⟩ := h
  have hlt := (Array.getElem?_eq_some_iff.1 hb).1
  obtain ⟨lk, hlk⟩ := C.ok x
  rcases run_find C hs he w x with ⟨h0, h1, h2⟩ | ⟨j, u, e, h0, hl, h1, h2, h3⟩
  · refine ⟨setBlock w b (.map (es.push ⟨kv x, vv v, clock⟩) (clock + 1)), ?_, ⟨_, _, heap_setBlock hlt _, stamped_push hs h2, ?_⟩, grown_setBlock _ _ _, by simp [setBlock]⟩
    · simp [Instr.mapUpdate, run_underlying ht, MapKept.run_getObj_map hb, C.keyed.check w false hlk, h1, MapKept.run_setObj_map _ hb, Result.andThen, setBlock]
    · unfold put
      rw [h0]
      have : ents (es.push ⟨kv x, vv v, clock⟩) = ents es ++ [(kv x, vv v)] := by simp [ents]
      rw [this, he]
      simp [pairs]
  · have hj : es[j]? = some e := by simpa using h2
    refine ⟨setBlock w b (.map (es.modify j (fun e' => { e' with key := kv x, val := vv v })) clock), ?_, ⟨_, _, heap_setBlock hlt _, ?_, ?_⟩, grown_setBlock _ _ _, by simp [setBlock]⟩
    · simp [Instr.mapUpdate, run_underlying ht, MapKept.run_getObj_map hb, C.keyed.check w false hlk, h1, hj, h3, C.keyed.stays w hlk, MapKept.run_setObj_map _ hb, Result.andThen, setBlock]
    · exact stamped_modify hs _ _ (fun _ _ => rfl) (fun e' _ he' => by rw [hj] at he'; cases he'; exact h3.symm)
    · have e1 : (es.modify j (fun e' => { e' with key := kv x, val := vv v })).toList = es.toList.set j { e with key := kv x, val := vv v } := by
        rw [Array.toList_modify, ChangeMaps.modify_eq_set _ _ _ _ h2]
      unfold ents
      rw [e1, List.map_set]
      have e2 : es.toList.map (fun e => (e.key, e.val)) = pairs kv vv l := he
      rw [e2]
      unfold put
      rw [h0]
      simp only [Option.isSome_some, if_true]
      rw [← set_eq_map (keys_apart C hs he) x v hl]
      simp [pairs, List.map_set]
/-- 'delete(m, k)'. -/
theorem run_del (C : KeyCode P kt kv) (t ty : TypeId) (ht : P.underlying t = some (.map kt et)) (h : MapIs w b kv vv l) (x : K) :
    ∃ w', (Builtin.delete_ #[t, kt] ty #[.map (some b), kv x]).run P w = .ok (.tuple #[]) w' ∧ MapIs w' b kv vv (del l x) ∧ w.grownBy w' (some b) ∧ w'.heap.size = w.heap.size := by
  obtain ⟨es, clock, hb, hs, he⟩ := h
  have hlt := (Array.getElem?_eq_some_iff.1 hb).1
  obtain ⟨lk, hlk⟩ := C.ok x
  rcases run_find C hs he w x with ⟨h0, h1, h2⟩ | ⟨j, u, e, h0, hl, h1, h2, h3⟩
  · refine ⟨setBlock w b (.map es clock), ?_, ⟨_, _, heap_setBlock hlt _, hs, ?_⟩, grown_setBlock _ _ _, by simp [setBlock]⟩
    · simp [Builtin.delete_, run_underlying ht, MapKept.run_getObj_map hb, C.keyed.check w _ hlk, h1, MapKept.run_setObj_map _ hb, Result.andThen, setBlock]
    · rw [del_none h0]; exact he
  · refine ⟨setBlock w b (.map (es.eraseIdxIfInBounds j) clock), ?_, ⟨_, _, heap_setBlock hlt _, stamped_erase hs j, ?_⟩, grown_setBlock _ _ _, by simp [setBlock]⟩
    · simp [Builtin.delete_, run_underlying ht, MapKept.run_getObj_map hb, C.keyed.check w _ hlk, h1, MapKept.run_setObj_map _ hb, Result.andThen, setBlock]
    · have hjs : j < es.size := by simpa using (List.getElem?_eq_some_iff.1 h2).1
      have hsub : (es.eraseIdxIfInBounds j).toList = es.toList.eraseIdx j := by
        unfold Array.eraseIdxIfInBounds
        rw [dif_pos hjs]
        simp
      unfold ents
      rw [hsub, ChangeMaps.map_eraseIdx]
      have e2 : es.toList.map (fun e => (e.key, e.val)) = pairs kv vv l := he
      rw [e2]
      unfold pairs
      rw [← ChangeMaps.map_eraseIdx, erase_eq_del (keys_apart C hs he) x hl]
/-- 'len(m)'. -/
theorem run_len (t ty : TypeId) (ht : P.underlying t = some (.map kt et)) (h : MapIs w b kv vv l) : (Builtin.len_ #[t] ty #[.map (some b)]).run P w = .ok (.int .i64 (l.length : Int)) w := by
  obtain ⟨es, clock, hb, hs, he⟩ := h
  have := ents_size he
  simp [Builtin.len_, Builtin.lenOf, run_underlying ht, MapKept.run_getObj_map hb, this, goInt, Result.andThen]

/-! ### 3. Ranged over -/
/-- Block r is an iterator over the map at block b; of its pairs these are still to come. -/
def Ranging (w : World) (r b : Nat) (kv : K → Value) (vv : V → Value) (l left : List (K × V)) : Prop :=
  ∃ es clock since seen c, w.heap[r]? = some (.mapIter (some b) since seen c) ∧ w.heap[b]? = some (.map es clock) ∧ Stamped es clock ∧ ents es = pairs kv vv l ∧ since = clock ∧ since ≤ c ∧ ents (leftOf es seen) = pairs kv vv left
theorem Ranging.lt {r : Nat} {left : List (K × V)} (h : Ranging w r b kv vv l left) : r < w.heap.size ∧ b < w.heap.size ∧ r ≠ b := by
  obtain ⟨es, clock, since, seen, c, h1, h2, _⟩ := h
  refine ⟨(Array.getElem?_eq_some_iff.1 h1).1, (Array.getElem?_eq_some_iff.1 h2).1, fun e => ?_⟩
  subst e
  rw [h1] at h2
  cases h2
theorem Ranging.keep {r : Nat} {left : List (K × V)} (h : Ranging w r b kv vv l left) (hr : w'.heap[r]? = w.heap[r]?) (hb : w'.heap[b]? = w.heap[b]?) : Ranging w' r b kv vv l left := by
  obtain ⟨es, clock, since, seen, c, h1, h2, h3⟩ := h
  exact ⟨es, clock, since, seen, c, hr.trans h1, hb.trans h2, h3⟩
theorem Ranging.fresh {r : Nat} {left : List (K × V)} (h : Ranging w r b kv vv l left) (hb : Below w.heap.size w w') : Ranging w' r b kv vv l left := h.keep (hb.block r h.lt.1) (hb.block b h.lt.2.1)
theorem Ranging.alloc {r : Nat} {left : List (K × V)} (h : Ranging w r b kv vv l left) (o : Obj) : Ranging (w.alloc o) r b kv vv l left := h.keep (Below.heap_alloc w o r h.lt.1) (Below.heap_alloc w o b h.lt.2.1)
theorem Ranging.grown {r : Nat} {left : List (K × V)} {row : Option Nat} (h : Ranging w r b kv vv l left) (hg : w.grownBy w' row) (hr : some r ≠ row) (hb : some b ≠ row) : Ranging w' r b kv vv l left := h.keep (hg.block r h.lt.1 hr) (hg.block b h.lt.2.1 hb)
theorem Ranging.map {r : Nat} {left : List (K × V)} (h : Ranging w r b kv vv l left) : MapIs w b kv vv l := by
  obtain ⟨es, clock, since, seen, c, h1, h2, h3, h4, _⟩ := h
  exact ⟨es, clock, h2, h3, h4⟩
/-- 'range m': a new iterator. -/
theorem run_range (t : TypeId) (ht : P.underlying t = some (.map kt et)) (h : MapIs w b kv vv l) :
    ∃ o, (Instr.range t (.map (some b))).run P w = .ok (.pointer (some ⟨w.heap.size, 0, none⟩)) (w.alloc o) ∧ Ranging (w.alloc o) w.heap.size b kv vv l l := by
  have hlt := h.lt
  obtain ⟨es, clock, hb, hs, he⟩ := h
  refine ⟨.mapIter (some b) clock #[] clock, ?_, es, clock, clock, #[], clock, heap_alloc_new w _, (Below.heap_alloc w _ b hlt).trans hb, hs, he, rfl, Nat.le_refl _, ?_⟩
  · simp [Instr.range, run_underlying ht, MapKept.run_getObj_map hb, Result.andThen]
  · have : leftOf es #[] = es := by simp [leftOf]
    rw [this]
    exact he
theorem leftOf_push (es : Array MapEntry) (seen : Array Nat) (n : Nat) : leftOf es (seen.push n) = (leftOf es seen).filter (fun e => decide (e.born ≠ n)) := by
  unfold leftOf
  rw [Array.filter_filter]
  congr 1
  funext e
  by_cases h1 : e.born = n
  · simp [h1, Array.contains_eq_any_beq]
  · by_cases h2 : e.born ∈ seen <;> simp [Array.contains_eq_mem, h1, h2]
theorem filter_along {α β γ : Type} {f : α → γ} {g : β → γ} {p : α → Bool} {q : β → Bool} : ∀ (L : List α) (M : List β), L.map f = M.map g → (∀ a ∈ L, ∀ b ∈ M, f a = g b → p a = q b) → (L.filter p).map f = (M.filter q).map g
  | [], [], _, _ => rfl
  | [], _ :: _, h, _ => by simp at h
  | _ :: _, [], h, _ => by simp at h
  | a :: L, b :: M, h, hpq => by
    simp only [List.map_cons, List.cons.injEq] at h
    have ih := filter_along L M h.2 (fun a ha b hb => hpq a (by simp [ha]) b (by simp [hb]))
    have h0 := hpq a (by simp) b (by simp) h.1
    rw [List.filter_cons, List.filter_cons, h0]
    split
    · rw [List.map_cons, List.map_cons, ih, h.1]
    · exact ih
theorem nodup_idx {β : Type} {L : List β} (h : L.Nodup) {i j : Nat} (hi : i < L.length) (hj : j < L.length) (he : L[i] = L[j]) : i = j := by
  have hp := List.pairwise_iff_getElem.1 h
  rcases Nat.lt_trichotomy i j with h1 | h1 | h1
  · exact absurd he (hp i j hi hj h1)
  · exact h1
  · exact absurd he.symm (hp j i hj hi h1)
/-- One step: none is left, or one of them comes, whichever the tape says. -/
theorem run_next (C : KeyCode P kt kv) (ty : TypeId) {r : Nat} {left : List (K × V)} (h : Ranging w r b kv vv l left) :
    (left = [] ∧ (Instr.next (.pointer (some ⟨r, 0, none⟩)) false ty).run P w = .ok (.tuple #[.bool false]) w) ∨
    ∃ x v w', (x, v) ∈ left ∧ (Instr.next (.pointer (some ⟨r, 0, none⟩)) false ty).run P w = .ok (.tuple #[.bool true, kv x, vv v]) w' ∧ Ranging w' r b kv vv l (del left x) ∧ w.grownBy w' (some r) ∧ w'.heap.size = w.heap.size ∧
      (Instr.entry (.pointer (some ⟨r, 0, none⟩))).run P w' = .ok (.tuple #[kv x, vv v]) w' := by
  have hlt := h.lt
  obtain ⟨es, clock, since, seen, c, h1, h2, hs, he, hsc, hc, hl⟩ := h
  subst hsc
  have hmemL : ∀ e ∈ (leftOf es seen).toList, e ∈ es.toList := fun e hm => by
    unfold leftOf at hm
    rw [Array.toList_filter] at hm
    exact (List.mem_filter.1 hm).1
  rcases run_next_at (P := P) w ty r b since c seen es since h1 h2 hs.1 hc with ⟨h3, h4⟩ | ⟨e, hm, w1, hw1, h4⟩
  · left
    refine ⟨?_, h4⟩
    have := ents_size hl
    rw [h3] at this
    exact List.eq_nil_of_length_eq_zero this.symm
  · right
    have hm' : (e.key, e.val) ∈ ents (leftOf es seen) := List.mem_map.2 ⟨e, hm, rfl⟩
    rw [hl] at hm'
    obtain ⟨p, hp, hpe⟩ := List.mem_map.1 hm'
    simp only [Prod.mk.injEq] at hpe
    have hheap1 : w1.heap = w.heap := by rcases hw1 with rfl | rfl <;> rfl
    have hg1 : w.grownBy w1 (some r) := by rcases hw1 with rfl | rfl <;> exact ⟨rfl, rfl, rfl, Nat.le_refl _, fun _ _ _ => rfl⟩
    have hr1 : r < w1.heap.size := by rw [hheap1]; exact hlt.1
    have hb' : (setBlock w1 r (.mapIter (some b) since (seen.push e.born) since)).heap[b]? = some (.map es since) := by
      rw [(grown_setBlock w1 r _).block b (by rw [hheap1]; exact hlt.2.1) (fun e => hlt.2.2 (by injection e with e; exact e.symm)), hheap1]
      exact h2
    refine ⟨p.1, p.2, setBlock w1 r (.mapIter (some b) since (seen.push e.born) since), hp, ?_, ?_, hg1.trans (grown_setBlock _ _ _), by simp [setBlock, hheap1], ?_⟩
    · rw [h4, hpe.1, hpe.2]
    · refine ⟨es, since, since, seen.push e.born, since, heap_setBlock hr1 _, hb', hs, he, rfl, Nat.le_refl _, ?_⟩
      rw [leftOf_push]
      unfold ents
      rw [Array.toList_filter]
      have e2 : (leftOf es seen).toList.map (fun e => (e.key, e.val)) = left.map (fun p => (kv p.1, vv p.2)) := hl
      refine filter_along _ _ e2 fun e' hm2 q hq heq => ?_
      have hin := hmemL e' hm2
      have hin0 := hmemL e hm
      simp only [Prod.mk.injEq] at heq
      have hborn : e'.born = e.born ↔ e'.key = e.key := by
        have hn1 := hs.2.1
        have hn2 := hs.2.2
        constructor
        · intro hb
          obtain ⟨i, hi, ei⟩ := List.getElem_of_mem hin
          obtain ⟨j, hj, ej⟩ := List.getElem_of_mem hin0
          have : i = j := nodup_idx hn1 (i := i) (j := j) (by simpa using hi) (by simpa using hj) (by rw [List.getElem_map, List.getElem_map, ei, ej, hb])
          subst this
          rw [← ei, ← ej]
        · intro hb
          obtain ⟨i, hi, ei⟩ := List.getElem_of_mem hin
          obtain ⟨j, hj, ej⟩ := List.getElem_of_mem hin0
          have : i = j := nodup_idx hn2 (i := i) (j := j) (by simpa using hi) (by simpa using hj) (by rw [List.getElem_map, List.getElem_map, ei, ej, hb])
          subst this
          rw [← ei, ← ej]
      rw [decide_eq_decide]
      constructor
      · intro h1 h2
        exact h1 (hborn.2 (by rw [heq.1, h2, hpe.1]))
      · intro h1 h2
        exact h1 (C.inj _ _ (by rw [← heq.1, hborn.1 h2, ← hpe.1]))
    · rw [hpe.1, hpe.2]
      exact run_entry_at _ r b since seen es since e (heap_setBlock hr1 _) hb' (hmemL e hm) hs.2.1
end

end Go.Pb
