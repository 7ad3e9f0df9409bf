/- 'm[k] op= v' on a made map: the entry, then its store. Nothing here names the program. -/
import Derived.Test.YteablbficakfcaaHeld
import Derived.WideKeyEntry
set_option linter.unusedVariables false
set_option linter.unusedSimpArgs false
set_option linter.unusedSectionVars false
namespace Go.Pb
open Go.RowKit Go.MapKept Go.WideElems
open Go.ChangeMaps (setBlock)

section
variable {K V : Type} [DecidableEq K] {P : Program} {kt et : TypeId} {kv : K → Value} {vv : V → Value} {w w' : World} {b : Nat} {l : List (K × V)}
def mid (l : List (K × V)) (x : K) (zv : V) : List (K × V) := if (look l x).isSome then l else l ++ [(x, zv)]
theorem look_mid (l : List (K × V)) (x : K) (zv : V) : (look (mid l x zv) x).getD zv = (look l x).getD zv := by
  unfold mid
  cases h : look l x with
  | none => simp [look_append, h, look_cons]
  | some v => simp [h]
/-- The entry of a key is looked for, or made; then it is stored into: the same as 'm[k] = v'. -/
theorem run_entry_store (C : KeyCode P kt kv) (t : TypeId) (ht : P.underlying t = some (.map kt et)) (z : Value) (hz : ∀ w, (zeroValue et).run P w = .ok z w) (h : MapIs w b kv vv l) (x : K) (v : V) (zv : V) (hzv : vv zv = z) :
    ∃ (st : Nat) (v0 : Value) (w1 : World), (Instr.mapEntry t (.map (some b)) (kv x)).run P w = .ok (.tuple #[v0, goInt st]) w1 ∧ w.grownBy w1 (some b) ∧ w1.heap.size = w.heap.size ∧ MapIs w1 b kv vv (mid l x zv) ∧
      ∃ w2, (Instr.entryStore t (.map (some b)) (goInt st) (vv v)).run P w1 = .ok () w2 ∧ MapIs w2 b kv vv (put l x v) ∧ w1.grownBy w2 (some b) ∧ w2.heap.size = w1.heap.size := by
  obtain ⟨es, clock, hb, hs, he⟩ := h
  have hlt := (Array.getElem?_eq_some_iff.1 hb).1
  obtain ⟨lk, hlk⟩ := C.ok x
  rcases run_find C hs he w x with ⟨h0, h1, h2⟩ | ⟨j, u, e, h0, hl, h1, h2, h3⟩
  · have hb1 : (setBlock w b (.map (es.push ⟨kv x, z, clock⟩) (clock + 1))).heap[b]? = some (.map (es.push ⟨kv x, z, clock⟩) (clock + 1)) := heap_setBlock hlt _
    have hlt1 : b < (setBlock w b (.map (es.push ⟨kv x, z, clock⟩) (clock + 1))).heap.size := (Array.getElem?_eq_some_iff.1 hb1).1
    have hidx : (es.push ⟨kv x, z, clock⟩).findIdx? (fun e => ((e.born : Nat) : Int) == ((clock : Nat) : Int)) = some es.size := by
      rw [findIdx_arr]
      have := findIdx_born (l := (es.push ⟨kv x, z, clock⟩).toList) (j := es.size) (e0 := ⟨kv x, z, clock⟩) (by
        simp only [Array.toList_push, List.map_append, List.map_cons, List.map_nil]
        refine List.nodup_append.2 ⟨hs.2.1, by simp, fun a ha c hc e1 => ?_⟩
        simp only [List.mem_singleton] at hc
        obtain ⟨y, hy, rfl⟩ := List.mem_map.1 ha
        have := hs.1 y hy
        omega) (by simp)
      exact this
    have hmod : (es.push ⟨kv x, z, clock⟩).modify es.size (fun e => { e with val := vv v }) = es.push ⟨kv x, vv v, clock⟩ := by
      apply Array.ext'
      rw [Array.toList_modify, Array.toList_push, Array.toList_push, ← Array.length_toList, modify_last]
    have hst : ∀ w1 : World, w1.heap[b]? = some (.map (es.push ⟨kv x, z, clock⟩) (clock + 1)) → (Instr.entryStore t (.map (some b)) (goInt clock) (vv v)).run P w1 = .ok () (setBlock w1 b (.map (es.push ⟨kv x, vv v, clock⟩) (clock + 1))) := fun w1 hb1 => by
      simp [Instr.entryStore, MapKept.run_getObj_map hb1, asInt, asIntOf, goInt, hidx, hmod, MapKept.run_setObj_map _ hb1, Result.andThen, setBlock]
    refine ⟨clock, z, setBlock w b (.map (es.push ⟨kv x, z, clock⟩) (clock + 1)), ?_, grown_setBlock _ _ _, by simp [setBlock], ⟨_, _, hb1, stamped_push hs h2, ?_⟩, setBlock (setBlock w b (.map (es.push ⟨kv x, z, clock⟩) (clock + 1))) b (.map (es.push ⟨kv x, vv v, clock⟩) (clock + 1)), ?_, ⟨_, _, heap_setBlock hlt1 _, stamped_push hs h2, ?_⟩, grown_setBlock _ _ _, by simp [setBlock]⟩
    · simp [Instr.mapEntry, run_underlying ht, MapKept.run_getObj_map hb, C.keyed.check w false hlk, h1, hz, MapKept.run_setObj_map _ hb, Result.andThen, setBlock]
    · unfold mid
      rw [h0]
      have : ents (es.push ⟨kv x, z, clock⟩) = ents es ++ [(kv x, z)] := by simp [ents]
      rw [this, he]
      simp [pairs, hzv]
    · exact hst _ hb1
    · unfold put
      rw [h0]
      have : ents (es.push ⟨kv x, vv v, clock⟩) = ents es ++ [(kv x, vv v)] := by simp [ents]
      rw [this, he]
      simp [pairs]
  · have hj : es[j]? = some e := by simpa using h2
    have hsame : es.modify j (fun e => { e with key := kv x }) = es := by
      apply Array.ext'
      rw [Array.toList_modify, ChangeMaps.modify_eq_set _ _ _ _ h2]
      have : ({ e with key := kv x } : MapEntry) = e := by rw [← h3]
      rw [this]
      exact set_self _ _ _ h2
    have hb1 : (setBlock w b (.map es clock)).heap[b]? = some (.map es clock) := heap_setBlock hlt _
    have hlt1 : b < (setBlock w b (.map es clock)).heap.size := (Array.getElem?_eq_some_iff.1 hb1).1
    have hidx : es.findIdx? (fun e' => ((e'.born : Nat) : Int) == ((e.born : Nat) : Int)) = some j := by
      rw [findIdx_arr]
      exact findIdx_born hs.2.1 h2
    have hst : ∀ w1 : World, w1.heap[b]? = some (.map es clock) → (Instr.entryStore t (.map (some b)) (goInt e.born) (vv v)).run P w1 = .ok () (setBlock w1 b (.map (es.modify j (fun e' => { e' with val := vv v })) clock)) := fun w1 hb1 => by
      simp [Instr.entryStore, MapKept.run_getObj_map hb1, asInt, asIntOf, goInt, hidx, MapKept.run_setObj_map _ hb1, Result.andThen, setBlock]
    refine ⟨e.born, e.val, setBlock w b (.map es clock), ?_, grown_setBlock _ _ _, by simp [setBlock], ⟨es, clock, hb1, hs, ?_⟩, setBlock (setBlock w b (.map es clock)) b (.map (es.modify j (fun e' => { e' with val := vv v })) clock), ?_, ⟨_, _, heap_setBlock hlt1 _, ?_, ?_⟩, grown_setBlock _ _ _, by simp [setBlock]⟩
    · have hv : e.val = vv u := by
        obtain ⟨p, hp, _, hv⟩ := ents_get he h2
        rw [hl] at hp
        injection hp with hp
        rw [hv, ← hp]
      simp [Instr.mapEntry, run_underlying ht, MapKept.run_getObj_map hb, C.keyed.check w false hlk, h1, hj, h3, C.keyed.stays w hlk, hsame, MapKept.run_setObj_map _ hb, Result.andThen, setBlock, hv]
    · unfold mid
      rw [h0]
      exact he
    · exact hst _ hb1
    · exact stamped_modify hs _ _ (fun _ _ => rfl) (fun _ _ _ => rfl)
    · have e1 : (es.modify j (fun e' => { e' with val := vv v })).toList = es.toList.set j { e with val := vv v } := by
        rw [Array.toList_modify, ChangeMaps.modify_eq_set _ _ _ _ h2]
      unfold ents
      rw [e1, List.map_set]
      have e2 : es.toList.map (fun e => (e.key, e.val)) = pairs kv vv l := he
      rw [e2]
      unfold put
      rw [h0]
      simp only [Option.isSome_some, if_true]
      rw [← set_eq_map (keys_apart C hs he) x v hl]
      simp [pairs, List.map_set, h3]
end
section
variable {P : Program} {w w' : World} {o : Oper} {ρ : Operand → Value}
theorem op_entryOf (t : TypeId) (x y : Operand) (ho : o.op = .mapEntry t x y) {mv kx v : Value} (hx : ρ x = mv) (hy : ρ y = kx) (h : (Instr.mapEntry t mv kx).run P w = .ok v w') : (execOp ρ o).run P w = .ok (.value v) w' := by
  unfold execOp
  simp only [ho, hx, hy, Sem.run_bind, h, Result.andThen, Sem.run_pure]
theorem op_entryStore (t : TypeId) (x y z : Operand) (ho : o.op = .entryStore t x y z) {mv st v : Value} (hx : ρ x = mv) (hy : ρ y = st) (hz : ρ z = v) (h : (Instr.entryStore t mv st v).run P w = .ok () w') : (execOp ρ o).run P w = .ok .skip w' := by
  unfold execOp
  simp only [ho, hx, hy, hz, Sem.run_bind, h, Result.andThen, Sem.run_pure]
end
end Go.Pb
