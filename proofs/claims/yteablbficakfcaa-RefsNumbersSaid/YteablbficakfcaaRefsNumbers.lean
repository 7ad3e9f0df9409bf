/- RefsNumbers: what a step needs: blocks that read as a key, as an item, whatever is written into them. -/
import Derived.Test.YteablbficakfcaaRefsTwo
set_option linter.unusedVariables false
set_option linter.unusedSimpArgs false
set_option linter.unusedSectionVars false
namespace Go.Pb
open Go.RowKit Go.Proofs Go.BigFrame

/-- Block b reads as x. -/
def Whole {α : Type} [Enc α] (w : World) (t : TypeId) (b : Nat) (x : α) : Prop := w.heap[b]? = some (.cells (Enc.enc x).toArray t)
section
variable {α : Type} [Enc α] {w w' : World} {t : TypeId} {b : Nat} {x : α}
theorem Whole.fresh (h : Whole w t b x) (hb : Below w.heap.size w w') : Whole w' t b x := (hb.block b (Array.getElem?_eq_some_iff.1 h).1).trans h
theorem Whole.new (w : World) (t : TypeId) (x : α) : Whole (w.alloc (.cells (Enc.enc x).toArray t)) t w.heap.size x := heap_alloc_new w _
theorem Whole.range (h : Whole w t b x) : w.rangeAt b 0 (Enc.enc x) := range_block h
theorem Whole.lt (h : Whole w t b x) : b < w.heap.size := (Array.getElem?_eq_some_iff.1 h).1
theorem Whole.far {c : Nat} (h : Whole w t b x) (hg : w.grownBy w' (some c)) (hne : b ≠ c) : Whole w' t b x := (Keep.grown hg).heap h hne
theorem Whole.there (h : Whole w t b x) (o k : Nat) (hk : o + k ≤ Enc.sz α) : w.there b o k := by
  intro i hi
  have hl : o + i < (Enc.enc x).length := by rw [Enc.len]; omega
  have := range_block h (o + i) _ (List.getElem?_eq_getElem hl)
  rw [Nat.zero_add] at this
  exact ⟨by rw [this]; rfl, frozen_of_block h _⟩
theorem Whole.part {y : α} (h : Whole w t b x) (o : Nat) (vs : List Value) (ho : o + vs.length ≤ Enc.sz α) (hy : splice' (Enc.enc x) o vs = Enc.enc y) : Whole (w.setCells b o vs) t b y := by
  obtain ⟨cur', h1, h2, h3⟩ := heap_setCells b t vs o w _ h (by simpa [Enc.len] using ho)
  have : cur' = (Enc.enc y).toArray := by
    apply Array.ext'
    rw [h3, ← hy]
  unfold Whole
  rw [h1, this]
end
def keySet (k : Key) (i : Nat) (b : UInt8) : Key := ⟨k.1.set i b, by simp [k.2]⟩
theorem whole_key {w : World} {t : TypeId} {g : Nat} {k : Key} (h : Whole w t g k) (i : Nat) (b : UInt8) : Whole (w.setCell ⟨g, i, none⟩ (byteV b)) t g (keySet k i b) := by
  unfold Whole
  rw [heap_setCell_same h]
  congr 2
  have : ∀ k : Key, Enc.enc k = k.1.map byteV := fun _ => rfl
  rw [this, this, List.setIfInBounds_toArray]
  unfold keySet
  rw [List.map_set]
theorem set_item_skey (i : Item) (k : Key) : splice' (Enc.enc i) 39 (Enc.enc k) = Enc.enc { i with slice := { i.slice with key := k } } := by
  show splice' (encItem i) 39 (encKey k) = encItem { i with slice := { i.slice with key := k } }
  have h := splice_in ([byteV i.kind] ++ (encKey i.key ++ (encPlace i.place ++ [intV i.snap, intV i.unit]))) (encSlice i.slice) [] (encKey k) 0 (by rw [encKey_len, encSlice_len]; omega)
  have hs : splice' (encSlice i.slice) 0 (encKey k) = encSlice { i.slice with key := k } := set_slice_key i.slice k
  rw [hs] at h
  have hl : ([byteV i.kind] ++ (encKey i.key ++ (encPlace i.place ++ [intV i.snap, intV i.unit]))).length = 39 := by simp [encKey_len, encPlace]
  rw [hl] at h
  simpa [encItem] using h
theorem count1b_ok (n : Int) (w : World) : Calls Try.prog 23 #[.int .u8 1, .int .i64 n] w fun e w' => e = .returned (agg (countB 1 n)) ∧ Below w.heap.size w w' := count24_ok 1 n w
theorem count2b_ok (n : Int) (w : World) : Calls Try.prog 23 #[.int .u8 2, .int .i64 n] w fun e w' => e = .returned (agg (countB 2 n)) ∧ Below w.heap.size w w' := count24_ok 2 n w
theorem slice0_ok (w : World) : Calls Try.prog 22 #[.int .u8 0] w fun e w' => e = .returned (agg (sliceB 0)) ∧ Below w.heap.size w w' := slice24_ok 0 w
theorem enter_count24 (args : Array Value) (w : World) : (callFunc 23 args).run Try.prog w = .ok (.enter 23 args) w := run_enter Try.func23 (by kernel_rfl) rfl args w
theorem enter_refsDelta (args : Array Value) (w : World) : (callFunc 4 args).run Try.prog w = .ok (.enter 4 args) w := run_enter Try.func4 (by kernel_rfl) rfl args w
theorem build_item0 {o : Oper} {ρ : Operand → Value} {w : World} (ho : o.op = .build 42 #[]) : (execOp ρ o).run Try.prog w = .ok (.value (agg Item.zero)) w :=
  run_build _ _ ho _ Try.underlying42 Item.zero _ zero42 _ (places42 _ Try.underlying42) (by
    rw [show ((#[].map fun (p : Nat × Operand) => (p.1, ρ p.2)).toList) = [] by simp]
    rw [fill_nil])
theorem build_item3 {o : Oper} {ρ : Operand → Value} {w : World} (ho : o.op = .build 42 #[(0, .const (.int .u8 3)), (3, .const (.int .i64 1))]) (h0 : ρ (.const (.int .u8 3)) = .int .u8 3) (h1 : ρ (.const (.int .i64 1)) = .int .i64 1) :
    (execOp ρ o).run Try.prog w = .ok (.value (agg { Item.zero with kind := 3, snap := 1 })) w :=
  run_build _ _ ho _ Try.underlying42 Item.zero _ zero42 _ (places42 _ Try.underlying42) (by
    rw [show ((#[(0, Operand.const (.int .u8 3)), (3, Operand.const (.int .i64 1))].map fun (p : Nat × Operand) => (p.1, ρ p.2)).toList) = [(0, .int .u8 3), (3, .int .i64 1)] by simp [h0, h1]]
    rw [fill_enc _ Item.zero _ 0 0 1 _ [byteV 3] _ rfl rfl rfl (by decide) (set_item_kind _ _), fill_enc _ _ _ 3 37 1 _ [intV 1] _ rfl rfl rfl (by decide) (set_item_snap _ _), fill_nil])
/-! ### A literal row of numbers -/
section
variable {α : Type} [Enc α]
theorem fill_rowF (f : α → Value) (hf : ∀ z, (f z).cells = (Enc.enc z).toArray) (zs : List α) : ∀ (pre : List α) (rest : List Value), rest.length = zs.length * Enc.sz α →
    Instr.fill (fun i => some (i * Enc.sz α, Enc.sz α)) (flat pre ++ rest).toArray ((zs.zipIdx pre.length).map (fun p => (p.2, f p.1))) = some (flat (pre ++ zs)).toArray := by
  induction zs with
  | nil =>
    intro pre rest h
    have : rest = [] := List.eq_nil_of_length_eq_zero (by simpa using h)
    subst this
    simp [fill_nil]
  | cons z zs ih =>
    intro pre rest h
    rw [List.length_cons, Nat.add_mul, Nat.one_mul] at h
    have hz : (f z).cells.toList = Enc.enc z := by rw [hf]
    rw [List.zipIdx_cons, List.map_cons, fill_cons _ _ pre.length (pre.length * Enc.sz α) (Enc.sz α) (f z) _ rfl (by rw [← Array.length_toList, hz, Enc.len]) (by simp [flat_length]; omega), hz]
    have hs : splice' (flat pre ++ rest) (pre.length * Enc.sz α) (Enc.enc z) = flat (pre ++ [z]) ++ rest.drop (Enc.sz α) := by
      have hr : rest = rest.take (Enc.sz α) ++ rest.drop (Enc.sz α) := (List.take_append_drop _ _).symm
      have := splice_mid (flat pre) (rest.take (Enc.sz α)) (rest.drop (Enc.sz α)) (Enc.enc z) (pre.length * Enc.sz α) (flat_length pre).symm (by rw [Enc.len, List.length_take]; omega)
      rw [← hr] at this
      rw [this, flat_append, flat_single, List.append_assoc]
    have ht : (flat pre ++ rest).toArray.toList = flat pre ++ rest := rfl
    rw [ht, hs]
    have := ih (pre ++ [z]) (rest.drop (Enc.sz α)) (by rw [List.length_drop]; omega)
    rw [List.length_append, List.length_singleton] at this
    rw [this, List.append_assoc]
    rfl
variable {P : Program} {o : Oper} {ρ : Operand → Value} {w : World}
theorem run_rowF (f : α → Value) (hf : ∀ z, (f z).cells = (Enc.enc z).toArray) (t e : TypeId) (n : Nat) (parts : List (Nat × Operand)) (ho : o.op = .buildSlice t n parts.toArray) (ht : P.underlying t = some (.slice e)) (zv : Value) (hzv : zv.cells.size = Enc.sz α) (bytes : Nat) (hinfo : (P.info? e).map (fun i => (i.zero, i.size, i.bytes)) = some (some zv, Enc.sz α, bytes))
    (zs : List α) (hn : zs.length = n) (hp : (parts.map fun (p : Nat × Operand) => (p.1, ρ p.2)) = zs.zipIdx.map (fun p => (p.2, f p.1))) (hpos : 0 < n) (hsmall : n * Enc.sz α ≤ 16777216) :
    (execOp ρ o).run P w = .ok (.value (.slice (some ⟨w.heap.size, 0, none⟩) n n)) (w.alloc (.cells (flat zs).toArray e)) := by
  obtain ⟨i, hi, hz0, hz1, hz2⟩ := info_parts hinfo
  have hsz := Enc.pos (α := α)
  have hne : ¬ (n * Enc.sz α = 0) := by
    have := Nat.mul_pos hpos hsz
    omega
  have hns : ¬ (2 ^ 24 < n * Enc.sz α) := by omega
  have hfill : ∀ c : Array Value, c.size = n * Enc.sz α → Instr.fill (fun i => some (i * Enc.sz α, Enc.sz α)) c (zs.zipIdx.map (fun p => (p.2, f p.1))) = some (flat zs).toArray := by
    intro c hc
    have := fill_rowF f hf zs [] c.toList (by rw [Array.length_toList, hc, hn])
    simpa [flat] using this
  unfold execOp
  simp only [ho, Instr.buildSlice, Sem.run_bind, run_underlying ht w, Result.andThen_ok, sizeOf, typeInfo, run_program, hi, hz1, Sem.run_pure, gt_iff_lt, hns, if_false, hne, zeroValue, hz0, List.map_toArray, hp]
  rw [hfill _ (by simp)]
  simp [newRow, Result.andThen]
end
theorem st_callf {P : Program} {ops : Array Oper} {rest : List Oper} {o : Oper} {a : Act} {w : World} {Q : Exit → Act → World → Prop} (hw : Region.wanted o (yielded ops a.tmps) = true) (f : FuncId) (xs : List Operand) (ts : Array TypeId) (ho : o.op = .call { callee := .value (.func f), args := xs.toArray, argTypes := ts })
    (args : List Value) (hargs : xs.map a.eval = args) (eg : ∀ args w, (callFunc f args).run P w = .ok (.enter f args) w) {R : Ending → World → Prop} (h : Calls P f args.toArray w R)
    (hk : ∀ e w', R e w' → ∃ v, e = .returned v ∧ wpList P ops Q rest (a.put o.dst v) w') : wpList P ops Q (o :: rest) a w := by
  refine BigFrame.wpList_want hw fun K hK => ?_
  have hr : (execOp a.eval o).run P w = .ok (.enter f args.toArray) w := by
    unfold execOp
    simp only [ho, resolve, List.map_toArray, hargs, Act.eval, Deferred.ofValue, invoke, Sem.run_bind, Sem.run_pure, Result.andThen, Array.empty_append, Array.append_empty, eg]
  unfold Oper.wp
  rw [hr]
  refine Calls.mono h (fun e w' he => ?_)
  obtain ⟨v, rfl, h2⟩ := hk e w' he
  exact hK _ _ h2
theorem enter_refsCount (args : Array Value) (w : World) : (callFunc 3 args).run Try.prog w = .ok (.enter 3 args) w := run_enter Try.func3 (by kernel_rfl) rfl args w
def ends24 : List Int := [-9223372036854775808, -1, 0, 1, 9223372036854775807]
theorem ends24_in : ∀ n ∈ ends24, inR n := by
  intro n hn
  simp only [ends24, List.mem_cons, List.not_mem_nil, or_false] at hn
  unfold inR
  omega
end Go.Pb
set_option linter.unusedVariables false
set_option linter.unusedSimpArgs false
set_option linter.unusedSectionVars false
namespace Go.Pb
open Go.RowKit Go.Proofs Go.BigFrame

theorem run_elemA1 {P : Program} {o : Oper} {ρ : Operand → Value} {w : World} (t e : TypeId) (n : Nat) (x i : Operand) (ho : o.op = .indexAddr t x i) (ht : P.underlying t = some (.array n e)) (hi : (P.info? e).map (·.size) = some 1)
    {b : Nat} (hx : ρ x = .pointer (some ⟨b, 0, none⟩)) {ki : IntKind} (j : Nat) (hj : ρ i = .int ki (j : Int)) (hlt : j < n) : (execOp ρ o).run P w = .ok (.value (.pointer (some ⟨b, j, none⟩))) w := by
  have := run_elemA (w := w) t e n x i ho ht 1 hi hx j hj hlt
  simpa using this
theorem key_cell {w : World} {t : TypeId} {g : Nat} {k : Key} (h : Whole w t g k) (j : Nat) (hj : j < 32) : ∃ v, w.cell? ⟨g, j, none⟩ = some v := by
  have hl : j < (Enc.enc k).length := by rw [Enc.len]; exact hj
  have := range_block h j _ (List.getElem?_eq_getElem hl)
  exact ⟨_, by simpa using this⟩
theorem enc_keySet (k : Key) (i : Nat) (b : UInt8) : Enc.enc (keySet k i b) = (Enc.enc k).set i (byteV b) := by
  have : ∀ k : Key, Enc.enc k = k.1.map byteV := fun _ => rfl
  rw [this, this]
  unfold keySet
  rw [List.map_set]
def SKeys (w w' : World) (ga : Nat) (ka kb : Key) : Prop := Whole w' 35 ga ka ∧ Whole w' 35 (ga + 1) kb ∧ Below w.heap.size w w'
theorem SKeys.set {w w' : World} {ga : Nat} {ka kb : Key} (h : SKeys w w' ga ka kb) {g : Nat} (hg : ga + 1 < g) (hw : w.heap.size ≤ g) (o : Nat) (vs : List Value) : SKeys w (w'.setCells g o vs) ga ka kb :=
  ⟨h.1.far (setCells_eq g vs o w').1 (by omega), h.2.1.far (setCells_eq g vs o w').1 (by omega), fresh_grown h.2.2 (setCells_eq g vs o w').1 (fun k hk => by injection hk with hk; omega)⟩
set_option maxRecDepth 100000 in
set_option maxHeartbeats 4000000 in
theorem refsNumbers_ok (w : World) : Calls Try.prog 5 #[] w fun e w' => e = .returned (.bool true) ∧ Below w.heap.size w w' := by
  have hends : ∀ (k : Nat) (h : k < 5), ∃ x, ends24[k]? = some x ∧ inR x := fun k h => ⟨ends24[k]'h, List.getElem?_eq_getElem h, ends24_in _ (List.getElem_mem _)⟩
  have HENDS := Lib.hid hends
  clear hends
  go_enter Try.func5, Try.ntmps5
  go_wp2
  go_loopw [1] (fun i wr => ∃ (k : Nat), k ≤ 32 ∧ i = .int .i64 k ∧ Below w.heap.size w wr) (fun i _ => 32 - (RowKit.intOf i).toNat)
  case atStart => exact ⟨0, by omega, rfl, fresh_refl w⟩
  case round =>
    obtain ⟨k, hk, rfl, hb⟩ := hrel
    by_cases hlt : k < 32
    · obtain ⟨m, hm⟩ : ∃ m, m = 31 - k := ⟨_, rfl⟩
      have hm2 : Value.int .i64 (31 - (k : Int)) = Value.int .i64 (m : Int) := by rw [hm]; congr 1; omega
      have hmlt : m < 32 := by omega
      have hs1 : (wr.alloc (.cells ((Enc.enc Key.zero).set k (Value.int .u8 1)).toArray 35)).heap.size = wr.heap.size + 1 := by simp
      have hea : Enc.enc (keySet Key.zero k 1) = (Enc.enc Key.zero).set k (Value.int .u8 1) := enc_keySet _ _ _
      have heb : Enc.enc (keySet Key.zero m 255) = (Enc.enc Key.zero).set m (Value.int .u8 255) := enc_keySet _ _ _
      have hA3 := (Whole.new wr 35 (keySet Key.zero k 1)).fresh (fresh_alloc (fresh_refl _) (.cells ((Enc.enc Key.zero).set m (Value.int .u8 255)).toArray 35))
      have hB3 := Whole.new (wr.alloc (.cells ((Enc.enc Key.zero).set k (Value.int .u8 1)).toArray 35)) 35 (keySet Key.zero m 255)
      rw [hea] at hA3
      rw [heb, hs1] at hB3
      have hb3 := fresh_alloc (fresh_alloc hb (.cells ((Enc.enc Key.zero).set k (Value.int .u8 1)).toArray 35)) (.cells ((Enc.enc Key.zero).set m (Value.int .u8 255)).toArray 35)
      have hgw := hb.size
      have hA1 := (Whole.new wr 35 Key.zero).fresh (fresh_alloc (fresh_refl _) (.cells (Enc.enc Key.zero).toArray 35))
      have hB1 := Whole.new (wr.alloc (.cells (Enc.enc Key.zero).toArray 35)) 35 Key.zero
      have hs0 : (wr.alloc (.cells (Enc.enc Key.zero).toArray 35)).heap.size = wr.heap.size + 1 := by simp
      rw [hs0] at hB1
      have hB2 := hB1.far (grown_setCell ((wr.alloc (.cells (Enc.enc Key.zero).toArray 35)).alloc (.cells (Enc.enc Key.zero).toArray 35)) ⟨wr.heap.size, k, none⟩ (.int .u8 1)) (by show wr.heap.size + 1 ≠ wr.heap.size; omega)
      obtain ⟨va, hca⟩ := key_cell hA1 k hlt
      have hfa := frozen_of_block hA1 k
      obtain ⟨vb, hcb⟩ := key_cell hB2 m hmlt
      have hfb := frozen_of_block hB2 m
      clear hA1 hB1 hB2
      have HS0 := Lib.hid hs0
      clear hs0
      have HFA := Lib.hid hfa
      clear hfa
      have HCB := Lib.hid hcb
      clear hcb
      have HFB := Lib.hid hfb
      clear hfb
      clear hea heb
      have HM := Lib.hid hm
      clear hm
      have HM2 := Lib.hid hm2
      clear hm2
      have HS1 := Lib.hid hs1
      clear hs1
      have HCA := Lib.hid hca
      clear hca
      go_wp2_with (first
        | (refine st_val rfl (run_alloc 35 Key.zero zero35 rfl) ?_)
        | (refine st_val rfl (run_elemA1 35 5 32 (.tmp 2) (.tmp 13) rfl Try.underlying35 su8 rfl k rfl hlt) ?_)
        | (refine st_val rfl (run_elemA1 35 5 32 (.tmp 3) (.tmp 15) rfl Try.underlying35 su8 rfl m HM2.out hmlt) ?_)
        | (refine st_skip rfl (run_store1 5 (.tmp 16) (.const (.int .u8 1)) rfl rfl (v := .int .u8 1) rfl HCA.out HFA.out rfl rfl su8) ?_)
        | (refine st_skip rfl (run_store1 5 (.tmp 17) (.const (.int .u8 255)) rfl rfl (v := .int .u8 255) rfl HCB.out HFB.out rfl rfl su8) ?_))
      generalize (wr.alloc (.cells ((Enc.enc Key.zero).set k (Value.int .u8 1)).toArray 35)).alloc (.cells ((Enc.enc Key.zero).set m (Value.int .u8 255)).toArray 35) = w1 at hA3 hB3 hb3 ⊢
      generalize wr.heap.size = ga at hA3 hB3 hgw ⊢
      generalize keySet Key.zero k 1 = ka at hA3
      generalize keySet Key.zero m 255 = kb at hB3
      clear hb
      have hlt1 := hB3.lt
      go_wp2_with (fail)
      refine (slice0_ok _).mono ?_
      rintro e w2 ⟨rfl, hb4⟩
      go_wp2_with (fail)
      refine (slice0_ok _).mono ?_
      rintro e w3 ⟨rfl, hb5⟩
      have hb34 := fresh_trans hb4 hb5
      have hI4 := (Whole.new w3 42 (sliceB 0)).fresh (fresh_alloc (fresh_refl _) (.cells (Enc.enc (sliceB 0)).toArray 42))
      have hJ4 := Whole.new (w3.alloc (.cells (Enc.enc (sliceB 0)).toArray 42)) 42 (sliceB 0)
      have hs3 : (w3.alloc (.cells (Enc.enc (sliceB 0)).toArray 42)).heap.size = w3.heap.size + 1 := by simp
      rw [hs3] at hJ4
      have hb36 := fresh_alloc (fresh_alloc hb34 (.cells (Enc.enc (sliceB 0)).toArray 42)) (.cells (Enc.enc (sliceB 0)).toArray 42)
      have hA4 := hA3.fresh hb36
      have hB4 := hB3.fresh hb36
      have hb6 := fresh_trans hb3 hb36
      have hgi : ga + 1 < w3.heap.size := by have := hb34.size; omega
      have hgw3 : w.heap.size ≤ w3.heap.size := by have := (fresh_trans hb3 hb34).size; omega
      clear hA3 hB3 hb3 hb4 hb5 hb34 hb36
      have HS3 := Lib.hid hs3
      clear hs3
      go_wp2_with (first
        | (refine st_val rfl (run_alloc 42 Item.zero zero42 rfl) ?_)
        | (refine st_skip rfl (run_store_prev 42 (.tmp 4) (.tmp 18) rfl rfl rfl (sliceB 0) Item.zero rfl 42 _ s42) ?_)
        | (refine st_skip rfl (run_store_new 42 (.tmp 5) (.tmp 19) rfl rfl (by simp) (sliceB 0) Item.zero rfl 42 s42) ?_))
      have hs0 : (w3.alloc (.cells (Enc.enc Item.zero).toArray 42)).heap.size = w3.heap.size + 1 := by simp
      rw [hs0]
      simp only [Act.put, List.setIfInBounds_toArray, List.set_cons_succ, List.set_cons_zero]
      clear hs0
      generalize (w3.alloc (.cells (Enc.enc (sliceB 0)).toArray 42)).alloc (.cells (Enc.enc (sliceB 0)).toArray 42) = w4 at hI4 hJ4 hA4 hB4 hb6 ⊢
      generalize w3.heap.size = gi at hI4 hJ4 hgi hgw3 ⊢
      generalize sliceB 0 = i0 at hI4 hJ4
      have hS0 : SKeys w w4.drew ga ka kb := ⟨hA4.fresh (fresh_drew (fresh_refl w4)), hB4.fresh (fresh_drew (fresh_refl w4)), fresh_drew hb6⟩
      have hI5 := hI4.fresh (fresh_drew (fresh_refl w4))
      have hJ5 := hJ4.fresh (fresh_drew (fresh_refl w4))
      have hS1 := hS0.set hgi hgw3 39 (Enc.enc ka)
      have hI6 := hI5.part 39 (Enc.enc ka) (by rw [Enc.len]; decide) (set_item_skey _ _)
      have hJ6 := hJ5.far (setCells_eq gi (Enc.enc ka) 39 w4.drew).1 (by omega)
      have hth1 := hI5.there 39 32 (by decide)
      have hS2 := hS1.set (g := gi + 1) (by omega) (by omega) 39 (Enc.enc kb)
      have hJ7 := hJ6.part 39 (Enc.enc kb) (by rw [Enc.len]; decide) (set_item_skey _ _)
      have hI7 := hI6.far (setCells_eq (gi + 1) (Enc.enc kb) 39 (w4.drew.setCells gi 39 (Enc.enc ka))).1 (by omega)
      have hth2 := hJ6.there 39 32 (by decide)
      clear hA4 hB4 hb6 hI4 hJ4 hI5 hJ5 hI6 hJ6
      refine held_lit (fun w' => SKeys w w' ga ka kb) 8 rfl (by kernel_rfl) ?_
      refine hl_take 0 rfl (by kernel_rfl) (by rfl) (fun w' hw' => load_key rfl rfl ka (Whole.range hw'.1)) hS0 (fun _ _ _ h => h) ?_
      simp only [Act.put, List.setIfInBounds_toArray, List.set_cons_succ, List.set_cons_zero]
      refine hl_take 1 rfl (by kernel_rfl) (by rfl) (fun w' hw' => load_key rfl rfl kb (Whole.range hw'.2.1)) hS0 (fun _ _ _ h => h) ?_
      simp only [Act.put, List.setIfInBounds_toArray, List.set_cons_succ, List.set_cons_zero]
      refine hl_take 2 rfl (by kernel_rfl) (by rfl) (fun w' hw' => run_faddr 42 _ 5 rfl rfl _ Try.underlying42 39 _ rfl rfl 33 s40) hS0 (fun _ _ _ h => h) ?_
      simp only [Act.put, List.setIfInBounds_toArray, List.set_cons_succ, List.set_cons_zero]
      refine hl_take 3 rfl (by kernel_rfl) (by rfl) (fun w' hw' => run_faddr 40 _ 0 rfl rfl _ Try.underlying40 0 _ rfl rfl 31 s35) hS0 (fun _ _ _ h => h) ?_
      simp only [Act.put, List.setIfInBounds_toArray, List.set_cons_succ, List.set_cons_zero]
      refine hl_one 4 (by kernel_rfl) (hs_skip rfl (by rfl) (run_store_mid 35 (.tmp 23) (.tmp 20) rfl rfl ka rfl hth1 s35) hS1 ?_)
      simp only [Act.put, List.setIfInBounds_toArray, List.set_cons_succ, List.set_cons_zero]
      refine hl_take 5 rfl (by kernel_rfl) (by rfl) (fun w' hw' => run_faddr 42 _ 5 rfl rfl _ Try.underlying42 39 _ rfl rfl 33 s40) hS1 (fun _ _ _ h => h) ?_
      simp only [Act.put, List.setIfInBounds_toArray, List.set_cons_succ, List.set_cons_zero]
      refine hl_take 6 rfl (by kernel_rfl) (by rfl) (fun w' hw' => run_faddr 40 _ 0 rfl rfl _ Try.underlying40 0 _ rfl rfl 31 s35) hS1 (fun _ _ _ h => h) ?_
      simp only [Act.put, List.setIfInBounds_toArray, List.set_cons_succ, List.set_cons_zero]
      refine hl_one 7 (by kernel_rfl) (hs_skip rfl (by rfl) (run_store_mid 35 (.tmp 25) (.tmp 21) rfl rfl kb rfl hth2 s35) hS2 ?_)
      simp only [Act.put, List.setIfInBounds_toArray, List.set_cons_succ, List.set_cons_zero]
      refine hl_done (by kernel_rfl) ?_
      generalize hi1 : { i0 with slice := { i0.slice with key := ka } } = i1 at hI7
      generalize hj1 : { i0 with slice := { i0.slice with key := kb } } = j1 at hJ7
      clear hi1 hj1 hth1 hth2 hS0 hS1
      obtain ⟨w6, hw6⟩ : ∃ w6, w6 = (w4.drew.setCells gi 39 (Enc.enc ka)).setCells (gi + 1) 39 (Enc.enc kb) := ⟨_, rfl⟩
      rw [← hw6] at hI7 hJ7 hS2
      have hgoal6 : ((w4.drew.setCells gi (0 + 39 + 0) (Enc.enc ka)).setCells (gi + 1) (0 + 39 + 0) (Enc.enc kb)) = w6 := hw6.symm
      rw [hgoal6]
      clear hw6 hgoal6
      obtain ⟨hA6, hB6, hb6⟩ := hS2
      have hIr := hI7.range
      have hJr := hJ7.range
      have hR7 := reads_new w6 42 [i1, j1, i1]
      have hb67 := fresh_alloc (fresh_refl w6) (.cells (flat [i1, j1, i1]).toArray 42)
      have hb7 := fresh_trans hb6 hb67
      have hA7 := hA6.fresh hb67
      have hB7 := hB6.fresh hb67
      clear hI7 hJ7 hA6 hB6 hb67
      have hcon1 : ∀ u g, Reads u (some ⟨g, 0, none⟩) [i1, j1, i1] → Calls Try.prog 3 #[.slice (some ⟨g, 0, none⟩) 3 3] u fun e w' => e = .returned (.bool true) ∧ Below u.heap.size u w' := fun u g hu => refsCount_ok _ 3 [i1, j1, i1] u hu
      have hcon2 : ∀ u g g', Reads u (some ⟨g, 0, none⟩) [countOf (ka, 1), countOf (kb, 2)] → Reads u (some ⟨g', 0, none⟩) [countOf (kb, 1), countOf (ka, 2), countOf (kb, (k : Int))] → Calls Try.prog 4 #[.slice (some ⟨g, 0, none⟩) 2 2, .slice (some ⟨g', 0, none⟩) 3 3] u fun e w' => e = .returned (.bool true) ∧ Below u.heap.size u w' := fun u g g' hu hu' => refsDelta_ok _ _ 2 3 [countOf (ka, 1), countOf (kb, 2)] [countOf (kb, 1), countOf (ka, 2), countOf (kb, (k : Int))] u hu hu' (by
        intro c hc
        simp only [List.mem_cons, List.not_mem_nil, or_false] at hc
        unfold inR
        rcases hc with rfl | rfl | rfl <;> simp [countOf] <;> omega)
      have HCON1 := Lib.hid hcon1
      clear hcon1
      have HCON2 := Lib.hid hcon2
      clear hcon2
      go_wp2_with (
        (refine st_val (by rfl) (load_item rfl rfl i1 hIr) ?_
         simp only [Act.put, List.setIfInBounds_toArray, List.set_cons_succ, List.set_cons_zero]
         refine st_val (by rfl) (load_item rfl rfl j1 hJr) ?_
         simp only [Act.put, List.setIfInBounds_toArray, List.set_cons_succ, List.set_cons_zero]
         refine st_val (by rfl) (load_item rfl rfl i1 hIr) ?_
         simp only [Act.put, List.setIfInBounds_toArray, List.set_cons_succ, List.set_cons_zero]
         refine st_val (by rfl) (run_rowN 22 42 3 [(0, .tmp 26), (1, .tmp 27), (2, .tmp 28)] rfl Try.underlying22 Item.zero 136 info42 [i1, j1, i1] rfl rfl (by decide) (by decide)) ?_
         simp only [Act.put, List.setIfInBounds_toArray, List.set_cons_succ, List.set_cons_zero]
         generalize w6.alloc (.cells (flat [i1, j1, i1]).toArray 42) = w7 at hR7 hb7 hA7 hB7 ⊢
         generalize w6.heap.size = g6 at hR7 ⊢
         refine st_callf (by rfl) 3 [.tmp 29] _ rfl [.slice (some ⟨g6, 0, none⟩) 3 3] rfl enter_refsCount (HCON1.out w7 g6 hR7) (fun e w8 he => ?_)
         obtain ⟨rfl, hb78⟩ := he
         refine ⟨_, rfl, ?_⟩
         simp only [Act.put, List.setIfInBounds_toArray, List.set_cons_succ, List.set_cons_zero]
         have hb8 := fresh_trans hb7 hb78
         have hA8 := (hA7.fresh hb78).range
         have hB8 := (hB7.fresh hb78).range
         have hR9 := (reads_new w8 45 [countOf (ka, 1), countOf (kb, 2)]).fresh (fresh_alloc (fresh_refl _) (.cells (flat [countOf (kb, 1), countOf (ka, 2), countOf (kb, (k : Int))]).toArray 45))
         have hR10 := reads_new (w8.alloc (.cells (flat [countOf (ka, 1), countOf (kb, 2)]).toArray 45)) 45 [countOf (kb, 1), countOf (ka, 2), countOf (kb, (k : Int))]
         have hA9 := range_fresh hA8 (fresh_alloc (fresh_refl w8) (.cells (flat [countOf (ka, 1), countOf (kb, 2)]).toArray 45))
         have hB9 := range_fresh hB8 (fresh_alloc (fresh_refl w8) (.cells (flat [countOf (ka, 1), countOf (kb, 2)]).toArray 45))
         have hb10 := fresh_alloc (fresh_alloc hb8 (.cells (flat [countOf (ka, 1), countOf (kb, 2)]).toArray 45)) (.cells (flat [countOf (kb, 1), countOf (ka, 2), countOf (kb, (k : Int))]).toArray 45)
         have hs8 : (w8.alloc (.cells (flat [countOf (ka, 1), countOf (kb, 2)]).toArray 45)).heap.size = w8.heap.size + 1 := by simp
         rw [hs8] at hR10
         clear hA7 hB7 hb7 hb78 hR7 hb8
         refine st_val (by rfl) (op_not _ _ true false rfl rfl rfl) ?_
         simp only [Act.put, List.setIfInBounds_toArray, List.set_cons_succ, List.set_cons_zero]
         refine st_val (by rfl) (op_move _ (.bool false) rfl rfl) ?_
         simp only [Act.put, List.setIfInBounds_toArray, List.set_cons_succ, List.set_cons_zero]
         refine st_val (by rfl) (load_key rfl rfl ka hA8) ?_
         simp only [Act.put, List.setIfInBounds_toArray, List.set_cons_succ, List.set_cons_zero]
         refine st_val (by rfl) (build_count (x := .tmp 33) ka 1 rfl rfl rfl) ?_
         simp only [Act.put, List.setIfInBounds_toArray, List.set_cons_succ, List.set_cons_zero]
         refine st_val (by rfl) (load_key rfl rfl kb hB8) ?_
         simp only [Act.put, List.setIfInBounds_toArray, List.set_cons_succ, List.set_cons_zero]
         refine st_val (by rfl) (build_count (x := .tmp 35) kb 2 rfl rfl rfl) ?_
         simp only [Act.put, List.setIfInBounds_toArray, List.set_cons_succ, List.set_cons_zero]
         refine st_val (by rfl) (run_rowN 25 45 2 [(0, .tmp 34), (1, .tmp 36)] rfl Try.underlying25 Count.zero 40 info45 [countOf (ka, 1), countOf (kb, 2)] rfl rfl (by decide) (by decide)) ?_
         simp only [Act.put, List.setIfInBounds_toArray, List.set_cons_succ, List.set_cons_zero]
         refine st_val (by rfl) (load_key rfl rfl kb hB9) ?_
         simp only [Act.put, List.setIfInBounds_toArray, List.set_cons_succ, List.set_cons_zero]
         refine st_val (by rfl) (build_count (x := .tmp 38) kb 1 rfl rfl rfl) ?_
         simp only [Act.put, List.setIfInBounds_toArray, List.set_cons_succ, List.set_cons_zero]
         refine st_val (by rfl) (load_key rfl rfl ka hA9) ?_
         simp only [Act.put, List.setIfInBounds_toArray, List.set_cons_succ, List.set_cons_zero]
         refine st_val (by rfl) (build_count (x := .tmp 40) ka 2 rfl rfl rfl) ?_
         simp only [Act.put, List.setIfInBounds_toArray, List.set_cons_succ, List.set_cons_zero]
         refine st_val (by rfl) (load_key rfl rfl kb hB9) ?_
         simp only [Act.put, List.setIfInBounds_toArray, List.set_cons_succ, List.set_cons_zero]
         refine st_val (by rfl) (op_move _ (.int .i64 (k : Int)) rfl rfl) ?_
         simp only [Act.put, List.setIfInBounds_toArray, List.set_cons_succ, List.set_cons_zero]
         refine st_val (by rfl) (build_count (x := .tmp 42) kb (k : Int) rfl rfl rfl) ?_
         simp only [Act.put, List.setIfInBounds_toArray, List.set_cons_succ, List.set_cons_zero]
         refine st_val (by rfl) (run_rowN 25 45 3 [(0, .tmp 39), (1, .tmp 41), (2, .tmp 44)] rfl Try.underlying25 Count.zero 40 info45 [countOf (kb, 1), countOf (ka, 2), countOf (kb, (k : Int))] rfl rfl (by decide) (by decide)) ?_
         simp only [Act.put, List.setIfInBounds_toArray, List.set_cons_succ, List.set_cons_zero]
         rw [hs8]
         generalize (w8.alloc (.cells (flat [countOf (ka, 1), countOf (kb, 2)]).toArray 45)).alloc (.cells (flat [countOf (kb, 1), countOf (ka, 2), countOf (kb, (k : Int))]).toArray 45) = w10 at hR9 hR10 hb10 ⊢
         generalize w8.heap.size + 1 = g10 at hR10 ⊢
         generalize w8.heap.size = g8 at hR9 ⊢
         clear hA8 hB8 hA9 hB9
         refine st_callf (by rfl) 4 [.tmp 37, .tmp 45] _ rfl [.slice (some ⟨g8, 0, none⟩) 2 2, .slice (some ⟨g10, 0, none⟩) 3 3] rfl enter_refsDelta (HCON2.out w10 g8 g10 hR9 hR10) (fun e w11 he => ?_)
         obtain ⟨rfl, hb11⟩ := he
         refine ⟨_, rfl, ?_⟩
         simp only [Act.put, List.setIfInBounds_toArray, List.set_cons_succ, List.set_cons_zero]
         have hb12 := fresh_trans hb10 hb11
         clear hR9 hR10 hb10 hb11
         refine st_val (by rfl) (op_not _ _ true false rfl rfl rfl) ?_
         simp only [Act.put, List.setIfInBounds_toArray, List.set_cons_succ, List.set_cons_zero]
         refine st_val (by rfl) (op_pick_f _ _ _ (.bool false) rfl rfl rfl) ?_
         simp only [Act.put, List.setIfInBounds_toArray, List.set_cons_succ, List.set_cons_zero]))
      go_wp2
      go_roundw
      case rel => exact ⟨k + 1, by omega, by go_num, hb12⟩
      case measure => simp [RowKit.intOf]; omega
    · have hO1 := Owns.lit (w := wr) wr.heap.size 3 ends24 (Nat.le_refl _) (by unfold maxLen; decide)
      have hb1 := fresh_alloc hb (.cells (flat ends24).toArray 3)
      go_wp2_with (refine st_val rfl (run_rowF intV (fun _ => rfl) 46 3 5 [(0, .const (.int .i64 (-9223372036854775808))), (1, .const (.int .i64 (-1))), (2, .const (.int .i64 0)), (3, .const (.int .i64 1)), (4, .const (.int .i64 9223372036854775807))] rfl Try.underlying46 _ rfl 8 info3 ends24 rfl rfl (by decide) (by decide)) ?_)
      generalize wr.alloc (.cells (flat ends24).toArray 3) = w1 at hO1 hb1 ⊢
      generalize wr.heap.size = ge at hO1 ⊢
      clear hb hk hlt
      go_loopw [7, 8] (fun i _ wr => ∃ (k : Nat), k ≤ 5 ∧ i = .int .i64 k ∧ Below w1.heap.size w1 wr) (fun i _ _ => 5 - (RowKit.intOf i).toNat)
      case atStart => exact ⟨0, by omega, rfl, fresh_refl w1⟩
      case round =>
        obtain ⟨i0, hi0, rfl, hb⟩ := hrel
        by_cases hilt : i0 < 5
        · obtain ⟨x, hx, hxin⟩ := HENDS.out i0 hilt
          have hcx := (read_int (k := i0) hO1 hx) 0 _ rfl
          go_wp2
          go_loopw [8] (fun i wr => ∃ (k : Nat), k ≤ 5 ∧ i = .int .i64 k ∧ Below w1.heap.size w1 wr) (fun i _ => 5 - (RowKit.intOf i).toNat)
          case atStart => exact ⟨0, by omega, rfl, hb⟩
          case round =>
            clear hb
            obtain ⟨k, hk, rfl, hb⟩ := hrel
            by_cases hlt : k < 5
            · obtain ⟨y, hy, hyin⟩ := HENDS.out k hlt
              have hcy := (read_int (k := k) hO1 hy) 0 _ rfl
              have hfit : ∀ c ∈ [countB 2 x, countB 2 y], inR c.refs := by
                intro c hc
                simp only [List.mem_cons, List.not_mem_nil, or_false] at hc
                rcases hc with rfl | rfl
                · exact hxin
                · exact hyin
              have hS0 : Below wr.heap.size wr wr.drew := fresh_drew (fresh_refl wr)
              have hxF : ∀ w', Below wr.heap.size wr w' → w'.cell? ⟨ge, i0, none⟩ = some (.int .i64 x) := fun w' hw => cell_fresh hcx (fresh_trans hb hw)
              have hyF : ∀ w', Below wr.heap.size wr w' → w'.cell? ⟨ge, k, none⟩ = some (.int .i64 y) := fun w' hw => cell_fresh hcy (fresh_trans hb hw)
              clear hcy hy hyin
              have HXF := Lib.hid hxF
              clear hxF
              have HYF := Lib.hid hyF
              clear hyF
              go_wp2
              refine held_lit (fun w' => Below wr.heap.size wr w') 24 rfl (by kernel_rfl) ?_
              refine hl_take 0 rfl (by kernel_rfl) (by rfl) (fun w' hw' => op_move _ (.slice (some ⟨ge, 0, none⟩) 5 5) rfl rfl) hS0 (fun _ _ _ h => h) ?_
              simp only [Act.put, List.setIfInBounds_toArray, List.set_cons_succ, List.set_cons_zero]
              refine hl_take 1 rfl (by kernel_rfl) (by rfl) (fun w' hw' => op_move _ (.int .i64 (i0 : Int)) rfl rfl) hS0 (fun _ _ _ h => h) ?_
              simp only [Act.put, List.setIfInBounds_toArray, List.set_cons_succ, List.set_cons_zero]
              refine hl_take 2 rfl (by kernel_rfl) (by rfl) (fun w' hw' => elem0_int rfl rfl rfl hilt) hS0 (fun _ _ _ h => h) ?_
              simp only [Act.put, List.setIfInBounds_toArray, List.set_cons_succ, List.set_cons_zero]
              refine hl_take 3 rfl (by kernel_rfl) (by rfl) (fun w' hw' => run_load1 3 _ rfl rfl (HXF.out w' hw') _ Try.underlying3 rfl) hS0 (fun _ _ _ h => h) ?_
              simp only [Act.put, List.setIfInBounds_toArray, List.set_cons_succ, List.set_cons_zero]
              refine hl_take 5 rfl (by kernel_rfl) (by rfl) (fun w' hw' => op_move _ (.slice (some ⟨ge, 0, none⟩) 5 5) rfl rfl) hS0 (fun _ _ _ h => h) ?_
              simp only [Act.put, List.setIfInBounds_toArray, List.set_cons_succ, List.set_cons_zero]
              refine hl_take 6 rfl (by kernel_rfl) (by rfl) (fun w' hw' => op_move _ (.int .i64 (k : Int)) rfl rfl) hS0 (fun _ _ _ h => h) ?_
              simp only [Act.put, List.setIfInBounds_toArray, List.set_cons_succ, List.set_cons_zero]
              refine hl_take 7 rfl (by kernel_rfl) (by rfl) (fun w' hw' => elem0_int rfl rfl rfl hlt) hS0 (fun _ _ _ h => h) ?_
              simp only [Act.put, List.setIfInBounds_toArray, List.set_cons_succ, List.set_cons_zero]
              refine hl_take 8 rfl (by kernel_rfl) (by rfl) (fun w' hw' => run_load1 3 _ rfl rfl (HYF.out w' hw') _ Try.underlying3 rfl) hS0 (fun _ _ _ h => h) ?_
              simp only [Act.put, List.setIfInBounds_toArray, List.set_cons_succ, List.set_cons_zero]
              refine hl_take 11 rfl (by kernel_rfl) (by rfl) (fun w' hw' => op_move _ (.slice (some ⟨ge, 0, none⟩) 5 5) rfl rfl) hS0 (fun _ _ _ h => h) ?_
              simp only [Act.put, List.setIfInBounds_toArray, List.set_cons_succ, List.set_cons_zero]
              refine hl_take 12 rfl (by kernel_rfl) (by rfl) (fun w' hw' => op_move _ (.int .i64 (i0 : Int)) rfl rfl) hS0 (fun _ _ _ h => h) ?_
              simp only [Act.put, List.setIfInBounds_toArray, List.set_cons_succ, List.set_cons_zero]
              refine hl_take 13 rfl (by kernel_rfl) (by rfl) (fun w' hw' => elem0_int rfl rfl rfl hilt) hS0 (fun _ _ _ h => h) ?_
              simp only [Act.put, List.setIfInBounds_toArray, List.set_cons_succ, List.set_cons_zero]
              refine hl_take 14 rfl (by kernel_rfl) (by rfl) (fun w' hw' => run_load1 3 _ rfl rfl (HXF.out w' hw') _ Try.underlying3 rfl) hS0 (fun _ _ _ h => h) ?_
              simp only [Act.put, List.setIfInBounds_toArray, List.set_cons_succ, List.set_cons_zero]
              refine hl_take 16 rfl (by kernel_rfl) (by rfl) (fun w' hw' => op_move _ (.slice (some ⟨ge, 0, none⟩) 5 5) rfl rfl) hS0 (fun _ _ _ h => h) ?_
              simp only [Act.put, List.setIfInBounds_toArray, List.set_cons_succ, List.set_cons_zero]
              refine hl_take 17 rfl (by kernel_rfl) (by rfl) (fun w' hw' => op_move _ (.int .i64 (k : Int)) rfl rfl) hS0 (fun _ _ _ h => h) ?_
              simp only [Act.put, List.setIfInBounds_toArray, List.set_cons_succ, List.set_cons_zero]
              refine hl_take 18 rfl (by kernel_rfl) (by rfl) (fun w' hw' => elem0_int rfl rfl rfl hlt) hS0 (fun _ _ _ h => h) ?_
              simp only [Act.put, List.setIfInBounds_toArray, List.set_cons_succ, List.set_cons_zero]
              refine hl_take 19 rfl (by kernel_rfl) (by rfl) (fun w' hw' => run_load1 3 _ rfl rfl (HYF.out w' hw') _ Try.underlying3 rfl) hS0 (fun _ _ _ h => h) ?_
              simp only [Act.put, List.setIfInBounds_toArray, List.set_cons_succ, List.set_cons_zero]
              refine hl_one 4 (by kernel_rfl) (hs_call rfl (by rfl) 23 [.const (.int .u8 1), .tmp 61] _ rfl [.int .u8 1, .int .i64 x] rfl enter_count24 (count1b_ok x _) (fun e u1 he => ?_))
              obtain ⟨rfl, hu1⟩ := he
              have hX1 := fresh_trans hS0 hu1
              refine ⟨_, rfl, hX1, ?_⟩
              simp only [Act.put, List.setIfInBounds_toArray, List.set_cons_succ, List.set_cons_zero]
              refine hl_one 9 (by kernel_rfl) (hs_call rfl (by rfl) 23 [.const (.int .u8 2), .tmp 66] _ rfl [.int .u8 2, .int .i64 y] rfl enter_count24 (count2b_ok y _) (fun e u2 he => ?_))
              obtain ⟨rfl, hu2⟩ := he
              have hX2 := fresh_trans hX1 hu2
              refine ⟨_, rfl, hX2, ?_⟩
              simp only [Act.put, List.setIfInBounds_toArray, List.set_cons_succ, List.set_cons_zero]
              refine hl_two 10 15 (by kernel_rfl) ?_ ?_
              · refine hs_val rfl (by rfl) (run_rowN 25 45 2 [(0, .tmp 62), (1, .tmp 67)] rfl Try.underlying25 Count.zero 40 info45 [countB 1 x, countB 2 y] rfl rfl (by decide) (by decide)) (fresh_alloc hX2 _) ?_
                have hX3 := fresh_alloc hX2 (.cells (flat [countB 1 x, countB 2 y]).toArray 45)
                have hr3 := reads_new (u2) 45 [countB 1 x, countB 2 y]
                simp only [Act.put, List.setIfInBounds_toArray, List.set_cons_succ, List.set_cons_zero]
                generalize (u2).alloc (.cells (flat [countB 1 x, countB 2 y]).toArray 45) = X3 at hX3 hr3  ⊢
                generalize (u2).heap.size = g3 at hr3  ⊢
                refine hl_one 15 (by kernel_rfl) (hs_call rfl (by rfl) 23 [.const (.int .u8 2), .tmp 72] _ rfl [.int .u8 2, .int .i64 x] rfl enter_count24 (count2b_ok x _) (fun e u4 he => ?_))
                obtain ⟨rfl, hu4⟩ := he
                have hX4 := fresh_trans hX3 hu4
                refine ⟨_, rfl, hX4, ?_⟩
                simp only [Act.put, List.setIfInBounds_toArray, List.set_cons_succ, List.set_cons_zero]
                refine hl_one 20 (by kernel_rfl) (hs_call rfl (by rfl) 23 [.const (.int .u8 2), .tmp 77] _ rfl [.int .u8 2, .int .i64 y] rfl enter_count24 (count2b_ok y _) (fun e u5 he => ?_))
                obtain ⟨rfl, hu5⟩ := he
                have hX5 := fresh_trans hX4 hu5
                refine ⟨_, rfl, hX5, ?_⟩
                simp only [Act.put, List.setIfInBounds_toArray, List.set_cons_succ, List.set_cons_zero]
                refine hl_one 21 (by kernel_rfl) (hs_val rfl (by rfl) (run_rowN 25 45 2 [(0, .tmp 73), (1, .tmp 78)] rfl Try.underlying25 Count.zero 40 info45 [countB 2 x, countB 2 y] rfl rfl (by decide) (by decide)) (fresh_alloc hX5 _) ?_)
                have hX6 := fresh_alloc hX5 (.cells (flat [countB 2 x, countB 2 y]).toArray 45)
                have hr6 := reads_new (u5) 45 [countB 2 x, countB 2 y]
                have hk6R1 := (((hr3.fresh hu4).fresh hu5)).alloc (.cells (flat [countB 2 x, countB 2 y]).toArray 45)
                simp only [Act.put, List.setIfInBounds_toArray, List.set_cons_succ, List.set_cons_zero]
                generalize (u5).alloc (.cells (flat [countB 2 x, countB 2 y]).toArray 45) = X6 at hX6 hr6 hk6R1 ⊢
                generalize (u5).heap.size = g6 at hr6 hk6R1 ⊢
                refine hl_one 22 (by kernel_rfl) (hs_call rfl (by rfl) 4 [.tmp 68, .tmp 79] _ rfl [.slice (some ⟨_, 0, none⟩) 2 2, .slice (some ⟨_, 0, none⟩) 2 2] rfl enter_refsDelta (refsDelta_ok _ _ 2 2 [countB 1 x, countB 2 y] [countB 2 x, countB 2 y] _ hk6R1 hr6 hfit) (fun e u7 he => ?_))
                obtain ⟨rfl, hu7⟩ := he
                have hX7 := fresh_trans hX6 hu7
                refine ⟨_, rfl, hX7, ?_⟩
                simp only [Act.put, List.setIfInBounds_toArray, List.set_cons_succ, List.set_cons_zero]
                refine hl_take 23 rfl (by kernel_rfl) (by rfl) (fun w' hw' => op_not _ _ true false rfl rfl rfl) hX7 (fun _ _ _ h => h) ?_
                simp only [Act.put, List.setIfInBounds_toArray, List.set_cons_succ, List.set_cons_zero]
                refine hl_done (by kernel_rfl) ?_
                have hfin := fresh_trans hb hX7
                clear hX7
                generalize u7 = uf at hfin ⊢
                go_wp2
                go_roundw
                case rel => exact ⟨k + 1, by omega, by go_num, hfin⟩
                case measure => simp [RowKit.intOf]; omega
              · refine hs_call rfl (by rfl) 23 [.const (.int .u8 2), .tmp 72] _ rfl [.int .u8 2, .int .i64 x] rfl enter_count24 (count2b_ok x _) (fun e u8 he => ?_)
                obtain ⟨rfl, hu8⟩ := he
                have hX8 := fresh_trans hX2 hu8
                refine ⟨_, rfl, hX8, ?_⟩
                simp only [Act.put, List.setIfInBounds_toArray, List.set_cons_succ, List.set_cons_zero]
                refine hl_two 10 20 (by kernel_rfl) ?_ ?_
                · refine hs_val rfl (by rfl) (run_rowN 25 45 2 [(0, .tmp 62), (1, .tmp 67)] rfl Try.underlying25 Count.zero 40 info45 [countB 1 x, countB 2 y] rfl rfl (by decide) (by decide)) (fresh_alloc hX8 _) ?_
                  have hX9 := fresh_alloc hX8 (.cells (flat [countB 1 x, countB 2 y]).toArray 45)
                  have hr9 := reads_new (u8) 45 [countB 1 x, countB 2 y]
                  simp only [Act.put, List.setIfInBounds_toArray, List.set_cons_succ, List.set_cons_zero]
                  generalize (u8).alloc (.cells (flat [countB 1 x, countB 2 y]).toArray 45) = X9 at hX9 hr9  ⊢
                  generalize (u8).heap.size = g9 at hr9  ⊢
                  refine hl_one 20 (by kernel_rfl) (hs_call rfl (by rfl) 23 [.const (.int .u8 2), .tmp 77] _ rfl [.int .u8 2, .int .i64 y] rfl enter_count24 (count2b_ok y _) (fun e u10 he => ?_))
                  obtain ⟨rfl, hu10⟩ := he
                  have hX10 := fresh_trans hX9 hu10
                  refine ⟨_, rfl, hX10, ?_⟩
                  simp only [Act.put, List.setIfInBounds_toArray, List.set_cons_succ, List.set_cons_zero]
                  refine hl_one 21 (by kernel_rfl) (hs_val rfl (by rfl) (run_rowN 25 45 2 [(0, .tmp 73), (1, .tmp 78)] rfl Try.underlying25 Count.zero 40 info45 [countB 2 x, countB 2 y] rfl rfl (by decide) (by decide)) (fresh_alloc hX10 _) ?_)
                  have hX11 := fresh_alloc hX10 (.cells (flat [countB 2 x, countB 2 y]).toArray 45)
                  have hr11 := reads_new (u10) 45 [countB 2 x, countB 2 y]
                  have hk11R1 := ((hr9.fresh hu10)).alloc (.cells (flat [countB 2 x, countB 2 y]).toArray 45)
                  simp only [Act.put, List.setIfInBounds_toArray, List.set_cons_succ, List.set_cons_zero]
                  generalize (u10).alloc (.cells (flat [countB 2 x, countB 2 y]).toArray 45) = X11 at hX11 hr11 hk11R1 ⊢
                  generalize (u10).heap.size = g11 at hr11 hk11R1 ⊢
                  refine hl_one 22 (by kernel_rfl) (hs_call rfl (by rfl) 4 [.tmp 68, .tmp 79] _ rfl [.slice (some ⟨_, 0, none⟩) 2 2, .slice (some ⟨_, 0, none⟩) 2 2] rfl enter_refsDelta (refsDelta_ok _ _ 2 2 [countB 1 x, countB 2 y] [countB 2 x, countB 2 y] _ hk11R1 hr11 hfit) (fun e u12 he => ?_))
                  obtain ⟨rfl, hu12⟩ := he
                  have hX12 := fresh_trans hX11 hu12
                  refine ⟨_, rfl, hX12, ?_⟩
                  simp only [Act.put, List.setIfInBounds_toArray, List.set_cons_succ, List.set_cons_zero]
                  refine hl_take 23 rfl (by kernel_rfl) (by rfl) (fun w' hw' => op_not _ _ true false rfl rfl rfl) hX12 (fun _ _ _ h => h) ?_
                  simp only [Act.put, List.setIfInBounds_toArray, List.set_cons_succ, List.set_cons_zero]
                  refine hl_done (by kernel_rfl) ?_
                  have hfin := fresh_trans hb hX12
                  clear hX12
                  generalize u12 = uf at hfin ⊢
                  go_wp2
                  go_roundw
                  case rel => exact ⟨k + 1, by omega, by go_num, hfin⟩
                  case measure => simp [RowKit.intOf]; omega
                · refine hs_call rfl (by rfl) 23 [.const (.int .u8 2), .tmp 77] _ rfl [.int .u8 2, .int .i64 y] rfl enter_count24 (count2b_ok y _) (fun e u13 he => ?_)
                  obtain ⟨rfl, hu13⟩ := he
                  have hX13 := fresh_trans hX8 hu13
                  refine ⟨_, rfl, hX13, ?_⟩
                  simp only [Act.put, List.setIfInBounds_toArray, List.set_cons_succ, List.set_cons_zero]
                  refine hl_two 10 21 (by kernel_rfl) ?_ ?_
                  · refine hs_val rfl (by rfl) (run_rowN 25 45 2 [(0, .tmp 62), (1, .tmp 67)] rfl Try.underlying25 Count.zero 40 info45 [countB 1 x, countB 2 y] rfl rfl (by decide) (by decide)) (fresh_alloc hX13 _) ?_
                    have hX14 := fresh_alloc hX13 (.cells (flat [countB 1 x, countB 2 y]).toArray 45)
                    have hr14 := reads_new (u13) 45 [countB 1 x, countB 2 y]
                    simp only [Act.put, List.setIfInBounds_toArray, List.set_cons_succ, List.set_cons_zero]
                    generalize (u13).alloc (.cells (flat [countB 1 x, countB 2 y]).toArray 45) = X14 at hX14 hr14  ⊢
                    generalize (u13).heap.size = g14 at hr14  ⊢
                    refine hl_one 21 (by kernel_rfl) (hs_val rfl (by rfl) (run_rowN 25 45 2 [(0, .tmp 73), (1, .tmp 78)] rfl Try.underlying25 Count.zero 40 info45 [countB 2 x, countB 2 y] rfl rfl (by decide) (by decide)) (fresh_alloc hX14 _) ?_)
                    have hX15 := fresh_alloc hX14 (.cells (flat [countB 2 x, countB 2 y]).toArray 45)
                    have hr15 := reads_new (X14) 45 [countB 2 x, countB 2 y]
                    have hk15R1 := (hr14).alloc (.cells (flat [countB 2 x, countB 2 y]).toArray 45)
                    simp only [Act.put, List.setIfInBounds_toArray, List.set_cons_succ, List.set_cons_zero]
                    generalize (X14).alloc (.cells (flat [countB 2 x, countB 2 y]).toArray 45) = X15 at hX15 hr15 hk15R1 ⊢
                    generalize (X14).heap.size = g15 at hr15 hk15R1 ⊢
                    refine hl_one 22 (by kernel_rfl) (hs_call rfl (by rfl) 4 [.tmp 68, .tmp 79] _ rfl [.slice (some ⟨_, 0, none⟩) 2 2, .slice (some ⟨_, 0, none⟩) 2 2] rfl enter_refsDelta (refsDelta_ok _ _ 2 2 [countB 1 x, countB 2 y] [countB 2 x, countB 2 y] _ hk15R1 hr15 hfit) (fun e u16 he => ?_))
                    obtain ⟨rfl, hu16⟩ := he
                    have hX16 := fresh_trans hX15 hu16
                    refine ⟨_, rfl, hX16, ?_⟩
                    simp only [Act.put, List.setIfInBounds_toArray, List.set_cons_succ, List.set_cons_zero]
                    refine hl_take 23 rfl (by kernel_rfl) (by rfl) (fun w' hw' => op_not _ _ true false rfl rfl rfl) hX16 (fun _ _ _ h => h) ?_
                    simp only [Act.put, List.setIfInBounds_toArray, List.set_cons_succ, List.set_cons_zero]
                    refine hl_done (by kernel_rfl) ?_
                    have hfin := fresh_trans hb hX16
                    clear hX16
                    generalize u16 = uf at hfin ⊢
                    go_wp2
                    go_roundw
                    case rel => exact ⟨k + 1, by omega, by go_num, hfin⟩
                    case measure => simp [RowKit.intOf]; omega
                  · refine hs_val rfl (by rfl) (run_rowN 25 45 2 [(0, .tmp 73), (1, .tmp 78)] rfl Try.underlying25 Count.zero 40 info45 [countB 2 x, countB 2 y] rfl rfl (by decide) (by decide)) (fresh_alloc hX13 _) ?_
                    have hX17 := fresh_alloc hX13 (.cells (flat [countB 2 x, countB 2 y]).toArray 45)
                    have hr17 := reads_new (u13) 45 [countB 2 x, countB 2 y]
                    simp only [Act.put, List.setIfInBounds_toArray, List.set_cons_succ, List.set_cons_zero]
                    generalize (u13).alloc (.cells (flat [countB 2 x, countB 2 y]).toArray 45) = X17 at hX17 hr17  ⊢
                    generalize (u13).heap.size = g17 at hr17  ⊢
                    refine hl_one 10 (by kernel_rfl) (hs_val rfl (by rfl) (run_rowN 25 45 2 [(0, .tmp 62), (1, .tmp 67)] rfl Try.underlying25 Count.zero 40 info45 [countB 1 x, countB 2 y] rfl rfl (by decide) (by decide)) (fresh_alloc hX17 _) ?_)
                    have hX18 := fresh_alloc hX17 (.cells (flat [countB 1 x, countB 2 y]).toArray 45)
                    have hr18 := reads_new (X17) 45 [countB 1 x, countB 2 y]
                    have hk18R2 := (hr17).alloc (.cells (flat [countB 1 x, countB 2 y]).toArray 45)
                    simp only [Act.put, List.setIfInBounds_toArray, List.set_cons_succ, List.set_cons_zero]
                    generalize (X17).alloc (.cells (flat [countB 1 x, countB 2 y]).toArray 45) = X18 at hX18 hr18 hk18R2 ⊢
                    generalize (X17).heap.size = g18 at hr18 hk18R2 ⊢
                    refine hl_one 22 (by kernel_rfl) (hs_call rfl (by rfl) 4 [.tmp 68, .tmp 79] _ rfl [.slice (some ⟨_, 0, none⟩) 2 2, .slice (some ⟨_, 0, none⟩) 2 2] rfl enter_refsDelta (refsDelta_ok _ _ 2 2 [countB 1 x, countB 2 y] [countB 2 x, countB 2 y] _ hr18 hk18R2 hfit) (fun e u19 he => ?_))
                    obtain ⟨rfl, hu19⟩ := he
                    have hX19 := fresh_trans hX18 hu19
                    refine ⟨_, rfl, hX19, ?_⟩
                    simp only [Act.put, List.setIfInBounds_toArray, List.set_cons_succ, List.set_cons_zero]
                    refine hl_take 23 rfl (by kernel_rfl) (by rfl) (fun w' hw' => op_not _ _ true false rfl rfl rfl) hX19 (fun _ _ _ h => h) ?_
                    simp only [Act.put, List.setIfInBounds_toArray, List.set_cons_succ, List.set_cons_zero]
                    refine hl_done (by kernel_rfl) ?_
                    have hfin := fresh_trans hb hX19
                    clear hX19
                    generalize u19 = uf at hfin ⊢
                    go_wp2
                    go_roundw
                    case rel => exact ⟨k + 1, by omega, by go_num, hfin⟩
                    case measure => simp [RowKit.intOf]; omega
            · go_wp2
              go_roundw
              case rel => exact ⟨i0 + 1, by omega, by go_num, hb⟩
              case measure => simp [RowKit.intOf]; omega
        · have hb2 := fresh_trans hb1 hb
          clear hb hO1
          go_wp2_with (fail)
          refine (refsDelta_ok none none 0 0 [] [] _ (Reads.nil _ _) (Reads.nil _ _) (by simp)).mono ?_
          rintro e w2 ⟨rfl, hb3⟩
          have hb4 := fresh_trans hb2 hb3
          have hR5 := reads_new w2 42 [Item.zero, { Item.zero with kind := 3, snap := 1 }]
          have hb5 := fresh_alloc hb4 (.cells (flat [Item.zero, { Item.zero with kind := 3, snap := 1 }]).toArray 42)
          go_wp2_with (first
            | (refine st_val rfl (build_item0 rfl) ?_)
            | (refine st_val rfl (build_item3 rfl rfl rfl) ?_)
            | (refine st_val rfl (run_rowN 22 42 2 [(0, .tmp 84), (1, .tmp 85)] rfl Try.underlying22 Item.zero 136 info42 [Item.zero, { Item.zero with kind := 3, snap := 1 }] rfl rfl (by decide) (by decide)) ?_))
          generalize w2.alloc (.cells (flat [Item.zero, { Item.zero with kind := 3, snap := 1 }]).toArray 42) = w5 at hR5 hb5 ⊢
          refine (refsCount_ok _ 2 [Item.zero, { Item.zero with kind := 3, snap := 1 }] w5 hR5).mono ?_
          rintro e w6 ⟨rfl, hb6⟩
          go_wp2_with (fail)
          refine (awake24_ok _).mono ?_
          rintro e w7 ⟨rfl, hb7⟩
          go_wp2
          go_ret
          exact ⟨rfl, fresh_trans hb5 (fresh_trans hb6 hb7)⟩
end Go.Pb
