/- Steps at rows of counts, items, numbers, by type: loads, stores, appends of one element, rows made; marks. -/
import Derived.Test.YteablbficakfcaaTypes
import Derived.Test.YteablbficakfcaaApp2
import Derived.Test.YteablbficakfcaaArith
import Derived.Test.YteablbficakfcaaGen
import Derived.Test.YteablbficakfcaaFill
set_option linter.unusedVariables false
set_option linter.unusedSimpArgs false
set_option linter.unusedSectionVars false
namespace Go.Pb
open Go.RowKit Go.Proofs Go.BigFrame

section
variable {P : Program} {o : Oper} {ρ : Operand → Value} {w : World}
/-- a row made anew; the zero value may be of one cell. -/
theorem run_makeRow2 {α : Type} [Enc α] (t e : TypeId) (x y : Operand) (ho : o.op = .makeSlice t x y) (ht : P.underlying t = some (.slice e)) (z : α) (zv : Value) (hzv : zv.cells = (Enc.enc z).toArray) (bytes : Nat) (hinfo : (P.info? e).map (fun i => (i.zero, i.size, i.bytes)) = some (some zv, Enc.sz α, bytes))
    (n c : Nat) (hx : ρ x = .int .i64 (n : Int)) (hy : ρ y = .int .i64 (c : Int)) (hnc : n ≤ c) (hb : bytes * c ≤ 281474976710656) (hc : c ≤ 9223372036854775807) :
    (execOp ρ o).run P w = .ok (.value (.slice (some ⟨w.heap.size, 0, none⟩) n c)) (w.alloc (.cells (flat (List.replicate c z)).toArray e)) := by
  obtain ⟨i, hi, hz0, hz1, hz2⟩ := info_parts hinfo
  have hb' : (i.bytes : Int) * (c : Int) ≤ 281474976710656 := by
    have h : ((i.bytes * c : Nat) : Int) ≤ 281474976710656 := by rw [hz2]; omega
    rwa [Int.natCast_mul] at h
  have hr := run_make (P := P) w t e i zv ht hi hz0 .i64 .i64 n c (by omega) (by omega) hb' (by omega)
  simp only [Int.toNat_natCast] at hr
  have hm : madeCells zv.cells (c * i.size) = (flat (List.replicate c z)).toArray := by
    rw [hz1, hzv]
    apply Array.ext'
    have hzl := Enc.len z
    have hpos := Enc.pos (α := α)
    apply List.ext_getElem?
    intro j
    simp only [madeCells, Array.toList_map, List.getElem?_map]
    by_cases hj : j < c * Enc.sz α
    · have hq : j / Enc.sz α < c := Nat.div_lt_of_lt_mul (by rw [Nat.mul_comm]; exact hj)
      have hmod := Nat.mod_lt j hpos
      have h1 : (flat (List.replicate c z))[j]? = (Enc.enc z)[j % Enc.sz α]? := by
        have := flat_get (List.replicate c z) (j / Enc.sz α) (by simpa using hq) (j % Enc.sz α) hmod
        rw [Nat.div_add_mod' j] at this
        simpa using this
      rw [h1]
      have h2 : (Array.range (c * Enc.sz α)).toList[j]? = some j := by simp [hj]
      rw [h2]
      simp only [Option.map_some, List.size_toArray, hzl]
      rw [List.getElem?_eq_getElem (by rw [hzl]; exact hmod)]
      congr 1
      exact getElem!_pos (Enc.enc z).toArray _ (by simpa [hzl] using hmod)
    · have h2 : (Array.range (c * Enc.sz α)).toList[j]? = none := by simp; omega
      rw [h2, List.getElem?_eq_none (by rw [flat_length]; simpa using hj)]
      rfl
  unfold execOp
  simp only [ho, hx, hy, Sem.run_bind, hr, hm, Result.andThen_ok, Sem.run_pure]
/-- one element laid in a row of its own, for append; of one cell too. -/
theorem run_row1' {α : Type} [Enc α] (t e : TypeId) (x : Operand) (ho : o.op = .buildSlice t 1 #[(0, x)]) (ht : P.underlying t = some (.slice e)) (z : α) (zv : Value) (bytes : Nat) (hinfo : (P.info? e).map (fun i => (i.zero, i.size, i.bytes)) = some (some zv, Enc.sz α, bytes))
    (v : Value) (hx : ρ x = v) (hv : v.cells = (Enc.enc z).toArray) (hsmall : Enc.sz α ≤ 16777216) :
    (execOp ρ o).run P w = .ok (.value (.slice (some ⟨w.heap.size, 0, none⟩) 1 1)) (w.alloc (.cells (Enc.enc z).toArray e)) := by
  obtain ⟨i, hi, hz0, hz1, hz2⟩ := info_parts hinfo
  have hpos := Enc.pos (α := α)
  have hlen := Enc.len z
  have hfill : ∀ c : Array Value, c.size = Enc.sz α → Instr.fill (fun i => some (i * Enc.sz α, Enc.sz α)) c [(0, v)] = some (Enc.enc z).toArray := by
    intro c hc
    rw [fill_cons _ c 0 0 (Enc.sz α) v [] (by simp) (by rw [hv]; simp [hlen]) (by omega), fill_nil]
    congr 1
    simp [splice', hv, hlen, hc]
  have hne : ¬ (Enc.sz α = 0) := by omega
  have hns : ¬ (2 ^ 24 < Enc.sz α) := by omega
  unfold execOp
  simp only [ho, Instr.buildSlice, Sem.run_bind, run_underlying ht w, Result.andThen_ok, sizeOf, typeInfo, run_program, hi, hz1, Sem.run_pure, Nat.one_mul, gt_iff_lt, hns, if_false, hne, zeroValue, hz0, List.map_toArray, List.map_cons, List.map_nil, hx]
  rw [hfill _ (by simp)]
  simp [newRow, Result.andThen]
end
/-- A row made anew is one's own. -/
theorem Owns.made {α : Type} [Enc α] (w : World) (base : Nat) (e : TypeId) (z : α) (n c : Nat) (hb : base ≤ w.heap.size) (hm : c ≤ maxLen) (hnc : n ≤ c) :
    Owns (w.alloc (.cells (flat (List.replicate c z)).toArray e)) base e (.slice (some ⟨w.heap.size, 0, none⟩) n c) (List.replicate n z) := by
  refine ⟨by rw [flat_length], .inr ⟨w.heap.size, c, _, by simp, hb, heap_alloc_new w _, by simpa using hnc, hm, by simp [flat_length], ?_⟩⟩
  show (flat (List.replicate c z)).take ((List.replicate n z).length * Enc.sz α) = _
  rw [← flat_take]
  congr 1
  simp [Nat.min_eq_left hnc]
theorem Owns.put {α : Type} [Enc α] {w : World} {base : Nat} {e : TypeId} {g n cap : Nat} {l : List α} (H : Owns w base e (.slice (some ⟨g, 0, none⟩) n cap) l) (i : Nat) (hi : i < l.length) (z : α) : Owns (w.setCells g (i * Enc.sz α) (Enc.enc z)) base e (.slice (some ⟨g, 0, none⟩) n cap) (l.set i z) := by
  have hn : n = l.length := by
    obtain ⟨A, c', hv, _, _⟩ := H.shape
    simp only [Value.slice.injEq] at hv
    exact hv.2.1
  have h := Owns.set H hn i hi z 0 (Enc.enc z) (by rw [Enc.len]; omega) (by
    have := splice_mid [] (Enc.enc (l[i]'hi)) [] (Enc.enc z) 0 rfl (by rw [Enc.len, Enc.len])
    simpa using this)
  simpa using h
theorem Owns.room {α : Type} [Enc α] {w : World} {base : Nat} {e : TypeId} {g n cap : Nat} {l : List α} (H : Owns w base e (.slice (some ⟨g, 0, none⟩) n cap) l) (i : Nat) (hi : i < l.length) : w.there g (i * Enc.sz α) (Enc.sz α) := by
  have := Owns.there H hi 0 (Enc.sz α) (by omega)
  simpa using this
section
variable {P : Program} {o : Oper} {ρ : Operand → Value} {w : World}
/-- the address of an element of one cell, in a row from its block's start. -/
theorem run_elem1 (t e : TypeId) (x i : Operand) (ho : o.op = .indexAddr t x i) (ht : P.underlying t = some (.slice e)) (hi : (P.info? e).map (·.size) = some 1) {b n c : Nat} (hx : ρ x = .slice (some ⟨b, 0, none⟩) n c) {ki : IntKind} (j : Nat) (hj : ρ i = .int ki (j : Int)) (hlt : j < n) :
    (execOp ρ o).run P w = .ok (.value (.pointer (some ⟨b, j, none⟩))) w := by
  have := run_elem (w := w) t e x i ho ht 1 hi hx j hj hlt
  simpa using this
end
section
variable {o : Oper} {ρ : Operand → Value} {w : World} {x y i : Operand} {ty : TypeId} {b f n c : Nat} {ki : IntKind} {k : Nat}
theorem sint1 : (Try.prog.info? 3).map (·.size) = some 1 := by kernel_rfl
theorem info3 : (Try.prog.info? 3).map (fun i => (i.zero, i.size, i.bytes)) = some (some (.int .i64 0), 1, 8) := by kernel_rfl
theorem elem_int (ho : o.op = .indexAddr 46 x i) (hx : ρ x = .slice (some ⟨b, f, none⟩) n c) (hi : ρ i = .int ki (k : Int)) (hk : k < n) : (execOp ρ o).run Try.prog w = .ok (.value (.pointer (some ⟨b, f + k * 1, none⟩))) w :=
  run_elem 46 3 x i ho Try.underlying46 1 sint1 hx k hi hk
theorem load_int (ho : o.op = .load 3 x) (hx : ρ x = .pointer (some ⟨b, f, none⟩)) (z : Int) (hc : w.rangeAt b f (Enc.enc z)) : (execOp ρ o).run Try.prog w = .ok (.value (.int .i64 z)) w :=
  run_load1 3 x ho hx (hc 0 _ rfl) _ Try.underlying3 rfl
theorem elem0_count (ho : o.op = .indexAddr 25 x i) (hx : ρ x = .slice (some ⟨b, 0, none⟩) n c) (hi : ρ i = .int ki (k : Int)) (hk : k < n) : (execOp ρ o).run Try.prog w = .ok (.value (.pointer (some ⟨b, k * 33, none⟩))) w := by
  have := elem_count (w := w) ho hx hi hk
  simpa using this
theorem put_count {base : Nat} {e : TypeId} {g n cap : Nat} {l : List Count} (H : Owns w base e (.slice (some ⟨g, 0, none⟩) n cap) l) (i : Nat) (hi : i < l.length) (z : Count) : Owns (w.setCells g (i * 33) (Enc.enc z)) base e (.slice (some ⟨g, 0, none⟩) n cap) (l.set i z) := by
  have h : Enc.sz Count = 33 := rfl
  have := Owns.put H i hi z
  rw [h] at this
  simpa using this
theorem room_count {base : Nat} {e : TypeId} {g n cap : Nat} {l : List Count} (H : Owns w base e (.slice (some ⟨g, 0, none⟩) n cap) l) (i : Nat) (hi : i < l.length) : w.there g (i * 33) (Enc.sz Count) := by
  have h : Enc.sz Count = 33 := rfl
  have := Owns.room H i hi
  rw [h] at this ⊢
  simpa using this
theorem read_count {base : Nat} {e : TypeId} {g n cap : Nat} {l : List Count} (H : Owns w base e (.slice (some ⟨g, 0, none⟩) n cap) l) {z : Count} (hz : l[k]? = some z) : w.rangeAt g (k * 33) (Enc.enc z) := by
  obtain ⟨hlt, hs⟩ := List.getElem?_eq_some_iff.1 hz
  obtain ⟨A, c', hv, hR, _⟩ := H.shape
  obtain ⟨b, o, hA, hr⟩ := hR.at_n hlt 33 rfl
  simp only [Value.slice.injEq] at hv
  obtain ⟨rfl, _, _⟩ := hv
  simp only [Option.some.injEq, Addr.mk.injEq, and_true] at hA
  obtain ⟨rfl, rfl⟩ := hA
  rw [hs] at hr
  simpa using hr
theorem elem0_item (ho : o.op = .indexAddr 22 x i) (hx : ρ x = .slice (some ⟨b, 0, none⟩) n c) (hi : ρ i = .int ki (k : Int)) (hk : k < n) : (execOp ρ o).run Try.prog w = .ok (.value (.pointer (some ⟨b, k * 73, none⟩))) w := by
  have := elem_item (w := w) ho hx hi hk
  simpa using this
theorem put_item {base : Nat} {e : TypeId} {g n cap : Nat} {l : List Item} (H : Owns w base e (.slice (some ⟨g, 0, none⟩) n cap) l) (i : Nat) (hi : i < l.length) (z : Item) : Owns (w.setCells g (i * 73) (Enc.enc z)) base e (.slice (some ⟨g, 0, none⟩) n cap) (l.set i z) := by
  have h : Enc.sz Item = 73 := rfl
  have := Owns.put H i hi z
  rw [h] at this
  simpa using this
theorem room_item {base : Nat} {e : TypeId} {g n cap : Nat} {l : List Item} (H : Owns w base e (.slice (some ⟨g, 0, none⟩) n cap) l) (i : Nat) (hi : i < l.length) : w.there g (i * 73) (Enc.sz Item) := by
  have h : Enc.sz Item = 73 := rfl
  have := Owns.room H i hi
  rw [h] at this ⊢
  simpa using this
theorem read_item {base : Nat} {e : TypeId} {g n cap : Nat} {l : List Item} (H : Owns w base e (.slice (some ⟨g, 0, none⟩) n cap) l) {z : Item} (hz : l[k]? = some z) : w.rangeAt g (k * 73) (Enc.enc z) := by
  obtain ⟨hlt, hs⟩ := List.getElem?_eq_some_iff.1 hz
  obtain ⟨A, c', hv, hR, _⟩ := H.shape
  obtain ⟨b, o, hA, hr⟩ := hR.at_n hlt 73 rfl
  simp only [Value.slice.injEq] at hv
  obtain ⟨rfl, _, _⟩ := hv
  simp only [Option.some.injEq, Addr.mk.injEq, and_true] at hA
  obtain ⟨rfl, rfl⟩ := hA
  rw [hs] at hr
  simpa using hr
theorem elem0_int (ho : o.op = .indexAddr 46 x i) (hx : ρ x = .slice (some ⟨b, 0, none⟩) n c) (hi : ρ i = .int ki (k : Int)) (hk : k < n) : (execOp ρ o).run Try.prog w = .ok (.value (.pointer (some ⟨b, k , none⟩))) w := by
  have := elem_int (w := w) ho hx hi hk
  simpa using this
theorem put_int {base : Nat} {e : TypeId} {g n cap : Nat} {l : List Int} (H : Owns w base e (.slice (some ⟨g, 0, none⟩) n cap) l) (i : Nat) (hi : i < l.length) (z : Int) : Owns (w.setCells g (i ) (Enc.enc z)) base e (.slice (some ⟨g, 0, none⟩) n cap) (l.set i z) := by
  have h : Enc.sz Int = 1 := rfl
  have := Owns.put H i hi z
  rw [h] at this
  simpa using this
theorem room_int {base : Nat} {e : TypeId} {g n cap : Nat} {l : List Int} (H : Owns w base e (.slice (some ⟨g, 0, none⟩) n cap) l) (i : Nat) (hi : i < l.length) : w.there g (i ) (Enc.sz Int) := by
  have h : Enc.sz Int = 1 := rfl
  have := Owns.room H i hi
  rw [h] at this ⊢
  simpa using this
theorem read_int {base : Nat} {e : TypeId} {g n cap : Nat} {l : List Int} (H : Owns w base e (.slice (some ⟨g, 0, none⟩) n cap) l) {z : Int} (hz : l[k]? = some z) : w.rangeAt g (k ) (Enc.enc z) := by
  obtain ⟨hlt, hs⟩ := List.getElem?_eq_some_iff.1 hz
  obtain ⟨A, c', hv, hR, _⟩ := H.shape
  obtain ⟨b, o, hA, hr⟩ := hR.at_n hlt 1 rfl
  simp only [Value.slice.injEq] at hv
  obtain ⟨rfl, _, _⟩ := hv
  simp only [Option.some.injEq, Addr.mk.injEq, and_true] at hA
  obtain ⟨rfl, rfl⟩ := hA
  rw [hs] at hr
  simpa using hr
theorem store_count (ho : o.op = .store 45 x y) (hx : ρ x = .pointer (some ⟨b, f, none⟩)) (z : Count) (hy : ρ y = agg z) (ht : w.there b f (Enc.sz Count)) : (execOp ρ o).run Try.prog w = .ok .skip (w.setCells b f (Enc.enc z)) := by
  have h := run_storeVar_mid (P := Try.prog) w b f 45 (Enc.enc z).toArray (by simpa [Enc.len] using ht) (by rw [List.size_toArray, Enc.len]; kernel_rfl) (all_oneCell_toArray (Enc.one z))
  have hc : storeVar 45 ⟨b, f, none⟩ (agg z) = storeVar 45 ⟨b, f, none⟩ (Value.agg (Enc.enc z).toArray) := rfl
  unfold execOp
  simp only [ho, hx, hy, Instr.storeAt, Instr.sureAddr, hc, Sem.run_bind, Sem.run_pure, Result.andThen_ok, h]
theorem row1_count (ho : o.op = .buildSlice 25 1 #[(0, x)]) (z : Count) (hx : ρ x = agg z) : (execOp ρ o).run Try.prog w = .ok (.value (.slice (some ⟨w.heap.size, 0, none⟩) 1 1)) (w.alloc (.cells (Enc.enc z).toArray 45)) :=
  run_row1' 25 45 x ho Try.underlying25 z _ _ info45 _ hx rfl (by decide)
theorem make_count (ho : o.op = .makeSlice 25 x y) (n c : Nat) (hx : ρ x = .int .i64 (n : Int)) (hy : ρ y = .int .i64 (c : Int)) (hnc : n ≤ c) (hc : c ≤ 1000000) :
    (execOp ρ o).run Try.prog w = .ok (.value (.slice (some ⟨w.heap.size, 0, none⟩) n c)) (w.alloc (.cells (flat (List.replicate c (Count.zero : Count))).toArray 45)) :=
  run_makeRow2 25 45 x y ho Try.underlying25 (Count.zero : Count) _ rfl _ info45 n c hx hy hnc (by omega) (by omega)
theorem make2_count (ho : o.op = .makeSlice 25 x y) (n c : Nat) (hx : ρ x = .int .i64 (n : Int)) (hy : ρ y = .int .i64 (c : Int)) (hnc : n ≤ c) (hc : c ≤ 1000000) (r : Array Value) (hr : r = (flat (List.replicate c (Count.zero : Count))).toArray) :
    (execOp ρ o).run Try.prog w = .ok (.value (.slice (some ⟨w.heap.size, 0, none⟩) n c)) (w.alloc (.cells r 45)) := by
  subst hr
  exact make_count ho n c hx hy hnc hc
theorem store_item (ho : o.op = .store 42 x y) (hx : ρ x = .pointer (some ⟨b, f, none⟩)) (z : Item) (hy : ρ y = agg z) (ht : w.there b f (Enc.sz Item)) : (execOp ρ o).run Try.prog w = .ok .skip (w.setCells b f (Enc.enc z)) := by
  have h := run_storeVar_mid (P := Try.prog) w b f 42 (Enc.enc z).toArray (by simpa [Enc.len] using ht) (by rw [List.size_toArray, Enc.len]; kernel_rfl) (all_oneCell_toArray (Enc.one z))
  have hc : storeVar 42 ⟨b, f, none⟩ (agg z) = storeVar 42 ⟨b, f, none⟩ (Value.agg (Enc.enc z).toArray) := rfl
  unfold execOp
  simp only [ho, hx, hy, Instr.storeAt, Instr.sureAddr, hc, Sem.run_bind, Sem.run_pure, Result.andThen_ok, h]
theorem row1_item (ho : o.op = .buildSlice 22 1 #[(0, x)]) (z : Item) (hx : ρ x = agg z) : (execOp ρ o).run Try.prog w = .ok (.value (.slice (some ⟨w.heap.size, 0, none⟩) 1 1)) (w.alloc (.cells (Enc.enc z).toArray 42)) :=
  run_row1' 22 42 x ho Try.underlying22 z _ _ info42 _ hx rfl (by decide)
theorem make_item (ho : o.op = .makeSlice 22 x y) (n c : Nat) (hx : ρ x = .int .i64 (n : Int)) (hy : ρ y = .int .i64 (c : Int)) (hnc : n ≤ c) (hc : c ≤ 1000000) :
    (execOp ρ o).run Try.prog w = .ok (.value (.slice (some ⟨w.heap.size, 0, none⟩) n c)) (w.alloc (.cells (flat (List.replicate c (Item.zero : Item))).toArray 42)) :=
  run_makeRow2 22 42 x y ho Try.underlying22 (Item.zero : Item) _ rfl _ info42 n c hx hy hnc (by omega) (by omega)
theorem make2_item (ho : o.op = .makeSlice 22 x y) (n c : Nat) (hx : ρ x = .int .i64 (n : Int)) (hy : ρ y = .int .i64 (c : Int)) (hnc : n ≤ c) (hc : c ≤ 1000000) (r : Array Value) (hr : r = (flat (List.replicate c (Item.zero : Item))).toArray) :
    (execOp ρ o).run Try.prog w = .ok (.value (.slice (some ⟨w.heap.size, 0, none⟩) n c)) (w.alloc (.cells r 42)) := by
  subst hr
  exact make_item ho n c hx hy hnc hc
theorem store_int (ho : o.op = .store 3 x y) (hx : ρ x = .pointer (some ⟨b, f, none⟩)) (z : Int) (hy : ρ y = intV z) (ht : w.there b f (Enc.sz Int)) : (execOp ρ o).run Try.prog w = .ok .skip (w.setCells b f (Enc.enc z)) := by
  have h := run_storeVar_mid (P := Try.prog) w b f 3 (Enc.enc z).toArray (by simpa [Enc.len] using ht) (by rw [List.size_toArray, Enc.len]; kernel_rfl) (all_oneCell_toArray (Enc.one z))
  have hc : storeVar 3 ⟨b, f, none⟩ (intV z) = storeVar 3 ⟨b, f, none⟩ (Value.agg (Enc.enc z).toArray) := rfl
  unfold execOp
  simp only [ho, hx, hy, Instr.storeAt, Instr.sureAddr, hc, Sem.run_bind, Sem.run_pure, Result.andThen_ok, h]
theorem row1_int (ho : o.op = .buildSlice 46 1 #[(0, x)]) (z : Int) (hx : ρ x = intV z) : (execOp ρ o).run Try.prog w = .ok (.value (.slice (some ⟨w.heap.size, 0, none⟩) 1 1)) (w.alloc (.cells (Enc.enc z).toArray 3)) :=
  run_row1' 46 3 x ho Try.underlying46 z _ _ info3 _ hx rfl (by decide)
theorem make_int (ho : o.op = .makeSlice 46 x y) (n c : Nat) (hx : ρ x = .int .i64 (n : Int)) (hy : ρ y = .int .i64 (c : Int)) (hnc : n ≤ c) (hc : c ≤ 1000000) :
    (execOp ρ o).run Try.prog w = .ok (.value (.slice (some ⟨w.heap.size, 0, none⟩) n c)) (w.alloc (.cells (flat (List.replicate c (0 : Int))).toArray 3)) :=
  run_makeRow2 46 3 x y ho Try.underlying46 (0 : Int) _ rfl _ info3 n c hx hy hnc (by omega) (by omega)
theorem make2_int (ho : o.op = .makeSlice 46 x y) (n c : Nat) (hx : ρ x = .int .i64 (n : Int)) (hy : ρ y = .int .i64 (c : Int)) (hnc : n ≤ c) (hc : c ≤ 1000000) (r : Array Value) (hr : r = (flat (List.replicate c (0 : Int))).toArray) :
    (execOp ρ o).run Try.prog w = .ok (.value (.slice (some ⟨w.heap.size, 0, none⟩) n c)) (w.alloc (.cells r 3)) := by
  subst hr
  exact make_int ho n c hx hy hnc hc
theorem eql_int {p q : Int} (ho : o.op = .binOp .eql 3 x y ty) (hx : ρ x = intV p) (hy : ρ y = intV q) : (execOp ρ o).run Try.prog w = .ok (.value (.bool (decide (p = q)))) w := by
  unfold execOp
  simp [ho, hx, hy, go_sem, intV, Try.underlying3]
  rfl
theorem eql_int_t {p q : Int} (ho : o.op = .binOp .eql 3 x y ty) (hx : ρ x = intV p) (hy : ρ y = intV q) (h : p = q) : (execOp ρ o).run Try.prog w = .ok (.value (.bool true)) w := by
  rw [eql_int ho hx hy, decide_eq_true h]
end
/-! ### Marks -/
def markI (r i : Int) : Int := 1000003 * (r + 7) + i
def markC (r i : Int) : Count := ⟨Key.zero, markI r i⟩
def markIt (r i : Int) : Item := { Item.zero with snap := markI r i }
set_option maxHeartbeats 400000 in
theorem markint_eq (r i : Int) (w : World) (hr0 : 0 ≤ r) (hr : r ≤ 1000000) (hi0 : 0 ≤ i) (hi : i ≤ 1000000000) : Calls Try.prog 57 #[.int .i64 r, .int .i64 i] w fun e w' => e = .returned (intV (markI r i)) ∧ w' = w := by
  go_enter Try.func57, Try.ntmps57
  go_wp2
  go_ret
  exact ⟨rfl, rfl⟩
theorem markint_ok (r i : Int) (w : World) (hr0 : 0 ≤ r) (hr : r ≤ 1000000) (hi0 : 0 ≤ i) (hi : i ≤ 1000000000) : Calls Try.prog 57 #[.int .i64 r, .int .i64 i] w fun e w' => e = .returned (intV (markI r i)) ∧ Below w.heap.size w w' :=
  (markint_eq r i w hr0 hr hi0 hi).mono fun e w' ⟨he, hw⟩ => ⟨he, by subst hw; exact fresh_refl _⟩
theorem build_markC {o : Oper} {ρ : Operand → Value} {w : World} {x : Operand} (n : Int) (ho : o.op = .build 45 #[(1, x)]) (hx : ρ x = intV n) : (execOp ρ o).run Try.prog w = .ok (.value (agg (Count.mk Key.zero n))) w :=
  run_build _ _ ho _ Try.underlying45 Count.zero _ zero45 _ (places45 _ Try.underlying45) (by
    rw [show ((#[(1, x)].map fun (p : Nat × Operand) => (p.1, ρ p.2)).toList) = [(1, intV n)] by simp [hx]]
    rw [fill_enc _ Count.zero _ 1 32 1 _ [intV n] _ rfl rfl rfl (by decide) (set_count_refs _ _), fill_nil]
    rfl)
theorem build_markIt {o : Oper} {ρ : Operand → Value} {w : World} {x : Operand} (n : Int) (ho : o.op = .build 42 #[(3, x)]) (hx : ρ x = intV n) : (execOp ρ o).run Try.prog w = .ok (.value (agg { Item.zero with snap := n })) w :=
  run_build _ _ ho _ Try.underlying42 Item.zero _ zero42 _ (places42 _ Try.underlying42) (by
    rw [show ((#[(3, x)].map fun (p : Nat × Operand) => (p.1, ρ p.2)).toList) = [(3, intV n)] by simp [hx]]
    rw [fill_enc _ Item.zero _ 3 37 1 _ [intV n] _ rfl rfl rfl (by decide) (set_item_snap _ _), fill_nil])
set_option maxHeartbeats 400000 in
theorem markcount_ok (r i : Int) (w : World) (hr0 : 0 ≤ r) (hr : r ≤ 1000000) (hi0 : 0 ≤ i) (hi : i ≤ 1000000000) : Calls Try.prog 44 #[.int .i64 r, .int .i64 i] w fun e w' => e = .returned (agg (markC r i)) ∧ Below w.heap.size w w' := by
  go_enter Try.func44, Try.ntmps44
  go_wp2_with (first
    | (refine st_val rfl (run_alloc 45 Count.zero zero45 rfl) ?_)
    | (go_at_call 57; refine (markint_eq _ _ _ hr0 hr hi0 hi).mono ?_; rintro e w' ⟨rfl, rfl⟩)
    | (refine st_val rfl (build_markC (markI r i) rfl rfl) ?_)
    | (refine st_skip rfl (run_store_new 45 _ _ rfl rfl rfl (markC r i) Count.zero rfl 45 s45) ?_))
  exact bodyPost_ret (results_agg (g := w.heap.size) Try.results44 _ _ (markC r i) _ rfl (range_block (heap_alloc_new w _)) Try.underlying45 rfl s45) rfl ⟨rfl, fresh_alloc (fresh_refl w) _⟩
theorem enter_markcount (args : Array Value) (w : World) : (callFunc 44 args).run Try.prog w = .ok (.enter 44 args) w := run_enter Try.func44 (by kernel_rfl) rfl args w
set_option maxHeartbeats 400000 in
theorem markitem_ok (r i : Int) (w : World) (hr0 : 0 ≤ r) (hr : r ≤ 1000000) (hi0 : 0 ≤ i) (hi : i ≤ 1000000000) : Calls Try.prog 39 #[.int .i64 r, .int .i64 i] w fun e w' => e = .returned (agg (markIt r i)) ∧ Below w.heap.size w w' := by
  go_enter Try.func39, Try.ntmps39
  go_wp2_with (first
    | (refine st_val rfl (run_alloc 42 Item.zero zero42 rfl) ?_)
    | (go_at_call 57; refine (markint_eq _ _ _ hr0 hr hi0 hi).mono ?_; rintro e w' ⟨rfl, rfl⟩)
    | (refine st_val rfl (build_markIt (markI r i) rfl rfl) ?_)
    | (refine st_skip rfl (run_store_new 42 _ _ rfl rfl rfl (markIt r i) Item.zero rfl 42 s42) ?_))
  exact bodyPost_ret (results_agg (g := w.heap.size) Try.results39 _ _ (markIt r i) _ rfl (range_block (heap_alloc_new w _)) Try.underlying42 rfl s42) rfl ⟨rfl, fresh_alloc (fresh_refl w) _⟩
theorem enter_markitem (args : Array Value) (w : World) : (callFunc 39 args).run Try.prog w = .ok (.enter 39 args) w := run_enter Try.func39 (by kernel_rfl) rfl args w
theorem enter_markint (args : Array Value) (w : World) : (callFunc 57 args).run Try.prog w = .ok (.enter 57 args) w := run_enter Try.func57 (by kernel_rfl) rfl args w
end Go.Pb
