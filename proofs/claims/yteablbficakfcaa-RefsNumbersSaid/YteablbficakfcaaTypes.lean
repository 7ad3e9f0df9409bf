/- The program's types, as these texts ask for them: sizes, zero values, elements' addresses, loads, fields, two aggregates compared; keys as the model's. -/
import Derived.Test.YteablbficakfcaaSteps
import Derived.Test.YteablbficakfcaaMaps
import Derived.Test.YteablbficakfcaaProg
import Derived.Stop.BytesEq
import Derived.DeepKeys4
set_option linter.unusedVariables false
set_option linter.unusedSimpArgs false
set_option linter.unusedSectionVars false
namespace Go.Pb
open Go.RowKit Go.Proofs

/-! ### Two aggregates compared -/
section
variable {P : Program}
theorem eqf_step (d : Nat) (xs ys : Array Value) (nm : String) (t : TypeId) (off : Nat) (em : Bool) (tg pp : String) (bo : Nat) (fs : List Field) (w : World) (va vb : Value) (r : Bool) (hn : nm ≠ "_") (h1 : (part t xs off).run P w = .ok va w) (h2 : (part t ys off).run P w = .ok vb w)
    (h3 : (Op.equalIn d t va vb).run P w = .ok r w) : (Op.eqFields d xs ys ({ name := nm, type := t, offset := off, embedded := em, tag := tg, pkgPath := pp, byteOffset := bo } :: fs)).run P w = if r then (Op.eqFields d xs ys fs).run P w else .ok false w := by
  simp only [Op.eqFields, if_pos hn, Sem.run_bind, h1, h2, h3, Result.andThen]
  cases r <;> simp
theorem eqf_nil (d : Nat) (xs ys : Array Value) (w : World) : (Op.eqFields d xs ys []).run P w = .ok true w := by simp [Op.eqFields]
theorem part_agg (t : TypeId) (xs : Array Value) (off : Nat) (w : World) (d : TypeDesc) (hu : P.underlying t = some d) (hd : d.isRow = true) (k : Nat) (hi : (P.info? t).map (·.size) = some k) (ys : Array Value) (h : xs.extract off (off + k) = ys) :
    (part t xs off).run P w = .ok (.agg ys) w := by
  obtain ⟨ie, hie, hsz⟩ := Option.map_eq_some_iff.1 hi
  have hagg : (isAgg t).run P w = .ok true w := by
    unfold isAgg
    rw [Sem.run_bind, run_underlying hu w]
    cases d <;> simp_all
  simp [part, hagg, sizeOf, typeInfo, hie, hsz, h]
theorem part_one (t : TypeId) (xs : Array Value) (off : Nat) (w : World) (d : TypeDesc) (hu : P.underlying t = some d) (hd : d.isRow = false) (v : Value) (h : xs[off]? = some v) :
    (part t xs off).run P w = .ok v w := by
  have hagg : (isAgg t).run P w = .ok false w := by
    unfold isAgg
    rw [Sem.run_bind, run_underlying hu w]
    cases d <;> simp_all
  simp [part, hagg, h]
theorem eq_int (d : Nat) (t : TypeId) (k k' : IntKind) (a b : Int) (w : World) (h : P.underlying t = some (.int k')) : (Op.equalIn (d + 1) t (.int k a) (.int k b)).run P w = .ok (decide (a = b)) w := by
  rw [run_equalIn_int w d t k k' a b h]
  congr 1
theorem byte_eq (a b : UInt8) : decide ((a.toNat : Int) = (b.toNat : Int)) = decide (a = b) := by
  rw [decide_eq_decide]
  constructor
  · intro h; exact UInt8.toNat_inj.1 (by omega)
  · rintro rfl; rfl
/-- '==' and '!=' of two aggregates. -/
theorem run_eql_agg {o : Oper} {ρ : Operand → Value} {w : World} {t ty : TypeId} {x y : Operand} {xs ys : Array Value} {r : Bool} (ho : o.op = .binOp .eql t x y ty) (hx : ρ x = .agg xs) (hy : ρ y = .agg ys) (hg : P.eqGuardType P.depth t = false)
    (h : (Op.equalIn 10000 t (.agg xs) (.agg ys)).run P w = .ok r w) : (execOp ρ o).run P w = .ok (.value (.bool r)) w := by
  unfold execOp
  simp only [ho, hx, hy, Sem.run_bind, run_eqGuard_agg w _ t x y xs ys hg, run_eql_struct, h, Result.andThen, Sem.run_pure]
theorem run_neq_agg {o : Oper} {ρ : Operand → Value} {w : World} {t ty : TypeId} {x y : Operand} {xs ys : Array Value} {r : Bool} (ho : o.op = .binOp .neq t x y ty) (hx : ρ x = .agg xs) (hy : ρ y = .agg ys) (hg : P.eqGuardType P.depth t = false)
    (h : (Op.equalIn 10000 t (.agg xs) (.agg ys)).run P w = .ok r w) : (execOp ρ o).run P w = .ok (.value (.bool (!r))) w := by
  unfold execOp
  simp only [ho, hx, hy, Sem.run_bind, run_eqGuard_agg w _ t x y xs ys hg, run_neq_struct, h, Result.andThen, Sem.run_pure]
end

theorem s35 : (Try.prog.info? 35).map (·.size) = some 32 := by kernel_rfl
theorem s38 : (Try.prog.info? 38).map (·.size) = some 4 := by kernel_rfl
theorem s40 : (Try.prog.info? 40).map (·.size) = some 34 := by kernel_rfl
theorem s42 : (Try.prog.info? 42).map (·.size) = some 73 := by kernel_rfl
theorem s45 : (Try.prog.info? 45).map (·.size) = some 33 := by kernel_rfl

theorem eqIn_key (d : Nat) (a b : Key) (w : World) : (Op.equalIn (d + 2) 35 (agg a) (agg b)).run Try.prog w = .ok (decide (a = b)) w := by
  have h := run_equalIn_bytes (P := Try.prog) w d 35 5 32 Try.underlying35 Try.underlying5 (fun w => by simp [sizeOf, typeInfo]; kernel_rfl) a.1 b.1 a.2 b.2
  have e : decide (a = b) = (a.1 == b.1) := by
    rw [Bool.eq_iff_iff]
    simp [Subtype.ext_iff]
  rw [e]
  exact h

theorem eqIn_place (d : Nat) (a b : Place) (w : World) : (Op.equalIn (d + 2) 38 (agg a) (agg b)).run Try.prog w = .ok (decide (a = b)) w := by
  rw [agg_eq, agg_eq, run_equalIn_struct (P := Try.prog) w _ 38 _ _ (by kernel_rfl) (by kernel_rfl)]
  simp only [Program.fieldsOf, Try.underlying38]
  rw [eqf_step _ _ _ _ _ _ _ _ _ _ _ w (intV a.at_) (intV b.at_) (decide (a.at_ = b.at_)) ?_ (part_one _ _ _ w _ Try.underlying3 rfl _ ?_) (part_one _ _ _ w _ Try.underlying3 rfl _ ?_) (eq_int _ _ _ _ _ _ w Try.underlying3), eqf_step _ _ _ _ _ _ _ _ _ _ _ w (intV a.sectors) (intV b.sectors) (decide (a.sectors = b.sectors)) ?_ (part_one _ _ _ w _ Try.underlying3 rfl _ ?_) (part_one _ _ _ w _ Try.underlying3 rfl _ ?_) (eq_int _ _ _ _ _ _ w Try.underlying3), eqf_step _ _ _ _ _ _ _ _ _ _ _ w (intV a.units) (intV b.units) (decide (a.units = b.units)) ?_ (part_one _ _ _ w _ Try.underlying3 rfl _ ?_) (part_one _ _ _ w _ Try.underlying3 rfl _ ?_) (eq_int _ _ _ _ _ _ w Try.underlying3), eqf_step _ _ _ _ _ _ _ _ _ _ _ w (intV a.refs) (intV b.refs) (decide (a.refs = b.refs)) ?_ (part_one _ _ _ w _ Try.underlying3 rfl _ ?_) (part_one _ _ _ w _ Try.underlying3 rfl _ ?_) (eq_int _ _ _ _ _ _ w Try.underlying3), eqf_nil]
  rotate_left
  all_goals first | exact item_kind _ | exact item_key _ | exact item_place _ | exact item_snap _ | exact item_unit _ | exact item_slice _ | exact slice_key _ | exact slice_off _ | exact slice_mask _ | exact count_key _ | exact count_refs _ | rfl | (intro h; cases h; done) | (show (_ : String) ≠ _; decide) | skip
  obtain ⟨a1, a2, a3, a4⟩ := a
  obtain ⟨b1, b2, b3, b4⟩ := b
  by_cases h1 : a1 = b1 <;> by_cases h2 : a2 = b2 <;> by_cases h3 : a3 = b3 <;> by_cases h4 : a4 = b4 <;> simp [h1, h2, h3, h4]
theorem eqIn_slice (d : Nat) (a b : Slice) (w : World) : (Op.equalIn (d + 3) 40 (agg a) (agg b)).run Try.prog w = .ok (decide (a = b)) w := by
  rw [agg_eq, agg_eq, run_equalIn_struct (P := Try.prog) w _ 40 _ _ (by kernel_rfl) (by kernel_rfl)]
  simp only [Program.fieldsOf, Try.underlying40]
  rw [eqf_step _ _ _ _ _ _ _ _ _ _ _ w (agg a.key) (agg b.key) (decide (a.key = b.key)) ?_ (part_agg _ _ _ w _ Try.underlying35 rfl 32 s35 _ ?_) (part_agg _ _ _ w _ Try.underlying35 rfl 32 s35 _ ?_) (eqIn_key _ _ _ w), eqf_step _ _ _ _ _ _ _ _ _ _ _ w (intV a.off) (intV b.off) (decide (a.off = b.off)) ?_ (part_one _ _ _ w _ Try.underlying3 rfl _ ?_) (part_one _ _ _ w _ Try.underlying3 rfl _ ?_) (eq_int _ _ _ _ _ _ w Try.underlying3), eqf_step _ _ _ _ _ _ _ _ _ _ _ w (intV a.mask) (intV b.mask) (decide (a.mask = b.mask)) ?_ (part_one _ _ _ w _ Try.underlying3 rfl _ ?_) (part_one _ _ _ w _ Try.underlying3 rfl _ ?_) (eq_int _ _ _ _ _ _ w Try.underlying3), eqf_nil]
  rotate_left
  all_goals first | exact item_kind _ | exact item_key _ | exact item_place _ | exact item_snap _ | exact item_unit _ | exact item_slice _ | exact slice_key _ | exact slice_off _ | exact slice_mask _ | exact count_key _ | exact count_refs _ | rfl | (intro h; cases h; done) | (show (_ : String) ≠ _; decide) | skip
  obtain ⟨a1, a2, a3⟩ := a
  obtain ⟨b1, b2, b3⟩ := b
  by_cases h1 : a1 = b1 <;> by_cases h2 : a2 = b2 <;> by_cases h3 : a3 = b3 <;> simp [h1, h2, h3]
theorem eqIn_count (d : Nat) (a b : Count) (w : World) : (Op.equalIn (d + 3) 45 (agg a) (agg b)).run Try.prog w = .ok (decide (a = b)) w := by
  rw [agg_eq, agg_eq, run_equalIn_struct (P := Try.prog) w _ 45 _ _ (by kernel_rfl) (by kernel_rfl)]
  simp only [Program.fieldsOf, Try.underlying45]
  rw [eqf_step _ _ _ _ _ _ _ _ _ _ _ w (agg a.key) (agg b.key) (decide (a.key = b.key)) ?_ (part_agg _ _ _ w _ Try.underlying35 rfl 32 s35 _ ?_) (part_agg _ _ _ w _ Try.underlying35 rfl 32 s35 _ ?_) (eqIn_key _ _ _ w), eqf_step _ _ _ _ _ _ _ _ _ _ _ w (intV a.refs) (intV b.refs) (decide (a.refs = b.refs)) ?_ (part_one _ _ _ w _ Try.underlying3 rfl _ ?_) (part_one _ _ _ w _ Try.underlying3 rfl _ ?_) (eq_int _ _ _ _ _ _ w Try.underlying3), eqf_nil]
  rotate_left
  all_goals first | exact item_kind _ | exact item_key _ | exact item_place _ | exact item_snap _ | exact item_unit _ | exact item_slice _ | exact slice_key _ | exact slice_off _ | exact slice_mask _ | exact count_key _ | exact count_refs _ | rfl | (intro h; cases h; done) | (show (_ : String) ≠ _; decide) | skip
  obtain ⟨a1, a2⟩ := a
  obtain ⟨b1, b2⟩ := b
  by_cases h1 : a1 = b1 <;> by_cases h2 : a2 = b2 <;> simp [h1, h2]
theorem eqIn_item (d : Nat) (a b : Item) (w : World) : (Op.equalIn (d + 4) 42 (agg a) (agg b)).run Try.prog w = .ok (decide (a = b)) w := by
  rw [agg_eq, agg_eq, run_equalIn_struct (P := Try.prog) w _ 42 _ _ (by kernel_rfl) (by kernel_rfl)]
  simp only [Program.fieldsOf, Try.underlying42]
  rw [eqf_step _ _ _ _ _ _ _ _ _ _ _ w (byteV a.kind) (byteV b.kind) (decide (a.kind = b.kind)) ?_ (part_one _ _ _ w _ Try.underlying36 rfl _ ?_) (part_one _ _ _ w _ Try.underlying36 rfl _ ?_) ((eq_int _ _ _ _ _ _ w Try.underlying36).trans (by rw [byte_eq])),
    eqf_step _ _ _ _ _ _ _ _ _ _ _ w (agg a.key) (agg b.key) (decide (a.key = b.key)) ?_ (part_agg _ _ _ w _ Try.underlying35 rfl 32 s35 _ ?_) (part_agg _ _ _ w _ Try.underlying35 rfl 32 s35 _ ?_) (eqIn_key _ _ _ w), eqf_step _ _ _ _ _ _ _ _ _ _ _ w (agg a.place) (agg b.place) (decide (a.place = b.place)) ?_ (part_agg _ _ _ w _ Try.underlying38 rfl 4 s38 _ ?_) (part_agg _ _ _ w _ Try.underlying38 rfl 4 s38 _ ?_) (eqIn_place _ _ _ w), eqf_step _ _ _ _ _ _ _ _ _ _ _ w (intV a.snap) (intV b.snap) (decide (a.snap = b.snap)) ?_ (part_one _ _ _ w _ Try.underlying3 rfl _ ?_) (part_one _ _ _ w _ Try.underlying3 rfl _ ?_) (eq_int _ _ _ _ _ _ w Try.underlying3), eqf_step _ _ _ _ _ _ _ _ _ _ _ w (intV a.unit) (intV b.unit) (decide (a.unit = b.unit)) ?_ (part_one _ _ _ w _ Try.underlying3 rfl _ ?_) (part_one _ _ _ w _ Try.underlying3 rfl _ ?_) (eq_int _ _ _ _ _ _ w Try.underlying3), eqf_step _ _ _ _ _ _ _ _ _ _ _ w (agg a.slice) (agg b.slice) (decide (a.slice = b.slice)) ?_ (part_agg _ _ _ w _ Try.underlying40 rfl 34 s40 _ ?_) (part_agg _ _ _ w _ Try.underlying40 rfl 34 s40 _ ?_) (eqIn_slice _ _ _ w), eqf_nil]
  rotate_left
  all_goals first | exact item_kind _ | exact item_key _ | exact item_place _ | exact item_snap _ | exact item_unit _ | exact item_slice _ | exact slice_key _ | exact slice_off _ | exact slice_mask _ | exact count_key _ | exact count_refs _ | rfl | (intro h; cases h; done) | (show (_ : String) ≠ _; decide) | skip
  obtain ⟨a1, a2, a3, a4, a5, a6⟩ := a
  obtain ⟨b1, b2, b3, b4, b5, b6⟩ := b
  by_cases h1 : a1 = b1 <;> by_cases h2 : a2 = b2 <;> by_cases h3 : a3 = b3 <;> by_cases h4 : a4 = b4 <;> by_cases h5 : a5 = b5 <;> by_cases h6 : a6 = b6 <;> simp [h1, h2, h3, h4, h5, h6]

/-! ### Types' rows -/
theorem info35 : (Try.prog.info? 35).map (fun i => (i.zero, i.size, i.bytes)) = some (some (agg Key.zero), 32, 32) := by kernel_rfl
theorem zero35 : (Try.prog.info? 35).map (·.zero) = some (some (agg Key.zero)) := by kernel_rfl
theorem info38 : (Try.prog.info? 38).map (fun i => (i.zero, i.size, i.bytes)) = some (some (agg Place.zero), 4, 32) := by kernel_rfl
theorem zero38 : (Try.prog.info? 38).map (·.zero) = some (some (agg Place.zero)) := by kernel_rfl
theorem info40 : (Try.prog.info? 40).map (fun i => (i.zero, i.size, i.bytes)) = some (some (agg Slice.zero), 34, 48) := by kernel_rfl
theorem zero40 : (Try.prog.info? 40).map (·.zero) = some (some (agg Slice.zero)) := by kernel_rfl
theorem info42 : (Try.prog.info? 42).map (fun i => (i.zero, i.size, i.bytes)) = some (some (agg Item.zero), 73, 136) := by kernel_rfl
theorem zero42 : (Try.prog.info? 42).map (·.zero) = some (some (agg Item.zero)) := by kernel_rfl
theorem info45 : (Try.prog.info? 45).map (fun i => (i.zero, i.size, i.bytes)) = some (some (agg Count.zero), 33, 40) := by kernel_rfl
theorem zero45 : (Try.prog.info? 45).map (·.zero) = some (some (agg Count.zero)) := by kernel_rfl
theorem places38 : ∀ fs, Try.prog.underlying 38 = some (.struct fs) → ∀ w, (fs.mapM fun f => do pure (f.offset, ← sizeOf f.type) : Sem (Array (Nat × Nat))).run Try.prog w = .ok #[(0, 1), (1, 1), (2, 1), (3, 1)] w := by
  intro fs h
  rw [Try.underlying38] at h
  injection h with h
  injection h with h
  subst h
  intro w
  kernel_rfl
theorem places40 : ∀ fs, Try.prog.underlying 40 = some (.struct fs) → ∀ w, (fs.mapM fun f => do pure (f.offset, ← sizeOf f.type) : Sem (Array (Nat × Nat))).run Try.prog w = .ok #[(0, 32), (32, 1), (33, 1)] w := by
  intro fs h
  rw [Try.underlying40] at h
  injection h with h
  injection h with h
  subst h
  intro w
  kernel_rfl
theorem places42 : ∀ fs, Try.prog.underlying 42 = some (.struct fs) → ∀ w, (fs.mapM fun f => do pure (f.offset, ← sizeOf f.type) : Sem (Array (Nat × Nat))).run Try.prog w = .ok #[(0, 1), (1, 32), (33, 4), (37, 1), (38, 1), (39, 34)] w := by
  intro fs h
  rw [Try.underlying42] at h
  injection h with h
  injection h with h
  subst h
  intro w
  kernel_rfl
theorem places45 : ∀ fs, Try.prog.underlying 45 = some (.struct fs) → ∀ w, (fs.mapM fun f => do pure (f.offset, ← sizeOf f.type) : Sem (Array (Nat × Nat))).run Try.prog w = .ok #[(0, 32), (32, 1)] w := by
  intro fs h
  rw [Try.underlying45] at h
  injection h with h
  injection h with h
  subst h
  intro w
  kernel_rfl

/-! ### Steps, by type -/
section
variable {o : Oper} {ρ : Operand → Value} {w : World} {x y i : Operand} {ty : TypeId} {b f n c : Nat} {ki : IntKind} {k : Nat}
theorem elem_count (ho : o.op = .indexAddr 25 x i) (hx : ρ x = .slice (some ⟨b, f, none⟩) n c) (hi : ρ i = .int ki (k : Int)) (hk : k < n) : (execOp ρ o).run Try.prog w = .ok (.value (.pointer (some ⟨b, f + k * 33, none⟩))) w :=
  run_elem 25 45 x i ho Try.underlying25 33 s45 hx k hi hk
theorem load_count (ho : o.op = .load 45 x) (hx : ρ x = .pointer (some ⟨b, f, none⟩)) (z : Count) (hc : w.rangeAt b f (Enc.enc z)) : (execOp ρ o).run Try.prog w = .ok (.value (agg z)) w :=
  run_load 45 x ho hx z hc _ Try.underlying45 rfl s45
theorem elem_item (ho : o.op = .indexAddr 22 x i) (hx : ρ x = .slice (some ⟨b, f, none⟩) n c) (hi : ρ i = .int ki (k : Int)) (hk : k < n) : (execOp ρ o).run Try.prog w = .ok (.value (.pointer (some ⟨b, f + k * 73, none⟩))) w :=
  run_elem 22 42 x i ho Try.underlying22 73 s42 hx k hi hk
theorem load_item (ho : o.op = .load 42 x) (hx : ρ x = .pointer (some ⟨b, f, none⟩)) (z : Item) (hc : w.rangeAt b f (Enc.enc z)) : (execOp ρ o).run Try.prog w = .ok (.value (agg z)) w :=
  run_load 42 x ho hx z hc _ Try.underlying42 rfl s42
theorem elem_place (ho : o.op = .indexAddr 166 x i) (hx : ρ x = .slice (some ⟨b, f, none⟩) n c) (hi : ρ i = .int ki (k : Int)) (hk : k < n) : (execOp ρ o).run Try.prog w = .ok (.value (.pointer (some ⟨b, f + k * 4, none⟩))) w :=
  run_elem 166 38 x i ho Try.underlying166 4 s38 hx k hi hk
theorem load_place (ho : o.op = .load 38 x) (hx : ρ x = .pointer (some ⟨b, f, none⟩)) (z : Place) (hc : w.rangeAt b f (Enc.enc z)) : (execOp ρ o).run Try.prog w = .ok (.value (agg z)) w :=
  run_load 38 x ho hx z hc _ Try.underlying38 rfl s38
theorem load_key (ho : o.op = .load 35 x) (hx : ρ x = .pointer (some ⟨b, f, none⟩)) (z : Key) (hc : w.rangeAt b f (Enc.enc z)) : (execOp ρ o).run Try.prog w = .ok (.value (agg z)) w :=
  run_load 35 x ho hx z hc _ Try.underlying35 rfl s35
theorem load_slice (ho : o.op = .load 40 x) (hx : ρ x = .pointer (some ⟨b, f, none⟩)) (z : Slice) (hc : w.rangeAt b f (Enc.enc z)) : (execOp ρ o).run Try.prog w = .ok (.value (agg z)) w :=
  run_load 40 x ho hx z hc _ Try.underlying40 rfl s40
theorem guard_key : Try.prog.eqGuardType Try.prog.depth 35 = false := by kernel_rfl
theorem eql_key {p q : Key} (ho : o.op = .binOp .eql 35 x y ty) (hx : ρ x = agg p) (hy : ρ y = agg q) : (execOp ρ o).run Try.prog w = .ok (.value (.bool (decide (p = q)))) w :=
  run_eql_agg ho hx hy guard_key (eqIn_key 9998 p q w)
theorem neq_key {p q : Key} (ho : o.op = .binOp .neq 35 x y ty) (hx : ρ x = agg p) (hy : ρ y = agg q) : (execOp ρ o).run Try.prog w = .ok (.value (.bool (!decide (p = q)))) w :=
  run_neq_agg ho hx hy guard_key (eqIn_key 9998 p q w)
theorem eql_key_t {p q : Key} (ho : o.op = .binOp .eql 35 x y ty) (hx : ρ x = agg p) (hy : ρ y = agg q) (h : p = q) : (execOp ρ o).run Try.prog w = .ok (.value (.bool true)) w := by
  rw [eql_key ho hx hy, decide_eq_true h]
theorem eql_key_f {p q : Key} (ho : o.op = .binOp .eql 35 x y ty) (hx : ρ x = agg p) (hy : ρ y = agg q) (h : p ≠ q) : (execOp ρ o).run Try.prog w = .ok (.value (.bool false)) w := by
  rw [eql_key ho hx hy, decide_eq_false h]
theorem neq_key_f {p q : Key} (ho : o.op = .binOp .neq 35 x y ty) (hx : ρ x = agg p) (hy : ρ y = agg q) (h : p = q) : (execOp ρ o).run Try.prog w = .ok (.value (.bool false)) w := by
  rw [neq_key ho hx hy, decide_eq_true h]; rfl
theorem neq_key_t {p q : Key} (ho : o.op = .binOp .neq 35 x y ty) (hx : ρ x = agg p) (hy : ρ y = agg q) (h : p ≠ q) : (execOp ρ o).run Try.prog w = .ok (.value (.bool true)) w := by
  rw [neq_key ho hx hy, decide_eq_false h]; rfl
theorem guard_place : Try.prog.eqGuardType Try.prog.depth 38 = false := by kernel_rfl
theorem eql_place {p q : Place} (ho : o.op = .binOp .eql 38 x y ty) (hx : ρ x = agg p) (hy : ρ y = agg q) : (execOp ρ o).run Try.prog w = .ok (.value (.bool (decide (p = q)))) w :=
  run_eql_agg ho hx hy guard_place (eqIn_place 9998 p q w)
theorem neq_place {p q : Place} (ho : o.op = .binOp .neq 38 x y ty) (hx : ρ x = agg p) (hy : ρ y = agg q) : (execOp ρ o).run Try.prog w = .ok (.value (.bool (!decide (p = q)))) w :=
  run_neq_agg ho hx hy guard_place (eqIn_place 9998 p q w)
theorem eql_place_t {p q : Place} (ho : o.op = .binOp .eql 38 x y ty) (hx : ρ x = agg p) (hy : ρ y = agg q) (h : p = q) : (execOp ρ o).run Try.prog w = .ok (.value (.bool true)) w := by
  rw [eql_place ho hx hy, decide_eq_true h]
theorem eql_place_f {p q : Place} (ho : o.op = .binOp .eql 38 x y ty) (hx : ρ x = agg p) (hy : ρ y = agg q) (h : p ≠ q) : (execOp ρ o).run Try.prog w = .ok (.value (.bool false)) w := by
  rw [eql_place ho hx hy, decide_eq_false h]
theorem neq_place_f {p q : Place} (ho : o.op = .binOp .neq 38 x y ty) (hx : ρ x = agg p) (hy : ρ y = agg q) (h : p = q) : (execOp ρ o).run Try.prog w = .ok (.value (.bool false)) w := by
  rw [neq_place ho hx hy, decide_eq_true h]; rfl
theorem neq_place_t {p q : Place} (ho : o.op = .binOp .neq 38 x y ty) (hx : ρ x = agg p) (hy : ρ y = agg q) (h : p ≠ q) : (execOp ρ o).run Try.prog w = .ok (.value (.bool true)) w := by
  rw [neq_place ho hx hy, decide_eq_false h]; rfl
theorem guard_slice : Try.prog.eqGuardType Try.prog.depth 40 = false := by kernel_rfl
theorem eql_slice {p q : Slice} (ho : o.op = .binOp .eql 40 x y ty) (hx : ρ x = agg p) (hy : ρ y = agg q) : (execOp ρ o).run Try.prog w = .ok (.value (.bool (decide (p = q)))) w :=
  run_eql_agg ho hx hy guard_slice (eqIn_slice 9997 p q w)
theorem neq_slice {p q : Slice} (ho : o.op = .binOp .neq 40 x y ty) (hx : ρ x = agg p) (hy : ρ y = agg q) : (execOp ρ o).run Try.prog w = .ok (.value (.bool (!decide (p = q)))) w :=
  run_neq_agg ho hx hy guard_slice (eqIn_slice 9997 p q w)
theorem eql_slice_t {p q : Slice} (ho : o.op = .binOp .eql 40 x y ty) (hx : ρ x = agg p) (hy : ρ y = agg q) (h : p = q) : (execOp ρ o).run Try.prog w = .ok (.value (.bool true)) w := by
  rw [eql_slice ho hx hy, decide_eq_true h]
theorem eql_slice_f {p q : Slice} (ho : o.op = .binOp .eql 40 x y ty) (hx : ρ x = agg p) (hy : ρ y = agg q) (h : p ≠ q) : (execOp ρ o).run Try.prog w = .ok (.value (.bool false)) w := by
  rw [eql_slice ho hx hy, decide_eq_false h]
theorem neq_slice_f {p q : Slice} (ho : o.op = .binOp .neq 40 x y ty) (hx : ρ x = agg p) (hy : ρ y = agg q) (h : p = q) : (execOp ρ o).run Try.prog w = .ok (.value (.bool false)) w := by
  rw [neq_slice ho hx hy, decide_eq_true h]; rfl
theorem neq_slice_t {p q : Slice} (ho : o.op = .binOp .neq 40 x y ty) (hx : ρ x = agg p) (hy : ρ y = agg q) (h : p ≠ q) : (execOp ρ o).run Try.prog w = .ok (.value (.bool true)) w := by
  rw [neq_slice ho hx hy, decide_eq_false h]; rfl
theorem guard_count : Try.prog.eqGuardType Try.prog.depth 45 = false := by kernel_rfl
theorem eql_count {p q : Count} (ho : o.op = .binOp .eql 45 x y ty) (hx : ρ x = agg p) (hy : ρ y = agg q) : (execOp ρ o).run Try.prog w = .ok (.value (.bool (decide (p = q)))) w :=
  run_eql_agg ho hx hy guard_count (eqIn_count 9997 p q w)
theorem neq_count {p q : Count} (ho : o.op = .binOp .neq 45 x y ty) (hx : ρ x = agg p) (hy : ρ y = agg q) : (execOp ρ o).run Try.prog w = .ok (.value (.bool (!decide (p = q)))) w :=
  run_neq_agg ho hx hy guard_count (eqIn_count 9997 p q w)
theorem eql_count_t {p q : Count} (ho : o.op = .binOp .eql 45 x y ty) (hx : ρ x = agg p) (hy : ρ y = agg q) (h : p = q) : (execOp ρ o).run Try.prog w = .ok (.value (.bool true)) w := by
  rw [eql_count ho hx hy, decide_eq_true h]
theorem eql_count_f {p q : Count} (ho : o.op = .binOp .eql 45 x y ty) (hx : ρ x = agg p) (hy : ρ y = agg q) (h : p ≠ q) : (execOp ρ o).run Try.prog w = .ok (.value (.bool false)) w := by
  rw [eql_count ho hx hy, decide_eq_false h]
theorem neq_count_f {p q : Count} (ho : o.op = .binOp .neq 45 x y ty) (hx : ρ x = agg p) (hy : ρ y = agg q) (h : p = q) : (execOp ρ o).run Try.prog w = .ok (.value (.bool false)) w := by
  rw [neq_count ho hx hy, decide_eq_true h]; rfl
theorem neq_count_t {p q : Count} (ho : o.op = .binOp .neq 45 x y ty) (hx : ρ x = agg p) (hy : ρ y = agg q) (h : p ≠ q) : (execOp ρ o).run Try.prog w = .ok (.value (.bool true)) w := by
  rw [neq_count ho hx hy, decide_eq_false h]; rfl
theorem guard_item : Try.prog.eqGuardType Try.prog.depth 42 = false := by kernel_rfl
theorem eql_item {p q : Item} (ho : o.op = .binOp .eql 42 x y ty) (hx : ρ x = agg p) (hy : ρ y = agg q) : (execOp ρ o).run Try.prog w = .ok (.value (.bool (decide (p = q)))) w :=
  run_eql_agg ho hx hy guard_item (eqIn_item 9996 p q w)
theorem neq_item {p q : Item} (ho : o.op = .binOp .neq 42 x y ty) (hx : ρ x = agg p) (hy : ρ y = agg q) : (execOp ρ o).run Try.prog w = .ok (.value (.bool (!decide (p = q)))) w :=
  run_neq_agg ho hx hy guard_item (eqIn_item 9996 p q w)
theorem eql_item_t {p q : Item} (ho : o.op = .binOp .eql 42 x y ty) (hx : ρ x = agg p) (hy : ρ y = agg q) (h : p = q) : (execOp ρ o).run Try.prog w = .ok (.value (.bool true)) w := by
  rw [eql_item ho hx hy, decide_eq_true h]
theorem eql_item_f {p q : Item} (ho : o.op = .binOp .eql 42 x y ty) (hx : ρ x = agg p) (hy : ρ y = agg q) (h : p ≠ q) : (execOp ρ o).run Try.prog w = .ok (.value (.bool false)) w := by
  rw [eql_item ho hx hy, decide_eq_false h]
theorem neq_item_f {p q : Item} (ho : o.op = .binOp .neq 42 x y ty) (hx : ρ x = agg p) (hy : ρ y = agg q) (h : p = q) : (execOp ρ o).run Try.prog w = .ok (.value (.bool false)) w := by
  rw [neq_item ho hx hy, decide_eq_true h]; rfl
theorem neq_item_t {p q : Item} (ho : o.op = .binOp .neq 42 x y ty) (hx : ρ x = agg p) (hy : ρ y = agg q) (h : p ≠ q) : (execOp ρ o).run Try.prog w = .ok (.value (.bool true)) w := by
  rw [neq_item ho hx hy, decide_eq_false h]; rfl
end

/-! ### Keys as the model's -/
theorem mapM_some {α β : Type} (f : α → Option β) : ∀ (l : List α), (∀ a ∈ l, ∃ b, f a = some b) → ∃ bs, l.mapM f = some bs
  | [], _ => ⟨[], rfl⟩
  | a :: l, h => by
    obtain ⟨b, hb⟩ := h a (by simp)
    obtain ⟨bs, hbs⟩ := mapM_some f l (fun x hx => h x (by simp [hx]))
    exact ⟨b :: bs, by simp [List.mapM_cons, hb, hbs]⟩
theorem keyLits_byte (d : Nat) (b : UInt8) : Try.prog.keyLits (d + 1) 5 [byteV b] = some [.int .u8 (b.toNat : Int)] := by
  have hw : (Lit.int .u8 (b.toNat : Int)).wf = true := by
    have := b.toNat_lt
    simp [Lit.wf, IntKind.min, IntKind.max, IntKind.signed, IntKind.bits]
    omega
  simp [Program.keyLits, Try.underlying5, byteV, hw]
theorem cells35 : Try.prog.cellsOf 35 = 32 := by kernel_rfl
theorem cells5 : Try.prog.cellsOf 5 = 1 := by kernel_rfl
theorem keyLits_key (d : Nat) (k : Key) : ∃ ls, Try.prog.keyLits (d + 2) 35 (encKey k) = some ls := by
  have h : ∃ bs, (List.range 32).mapM (fun i => Try.prog.keyLits (d + 1) 5 (((encKey k).drop (i * Try.prog.cellsOf 5)).take (Try.prog.cellsOf 5))) = some bs := by
    refine mapM_some _ _ (fun i hi => ?_)
    have hi' : i < k.1.length := by rw [k.2]; exact List.mem_range.1 hi
    rw [cells5, Nat.mul_one]
    have : ((encKey k).drop i).take 1 = [byteV (k.1[i]'hi')] := by
      unfold encKey
      rw [List.drop_eq_getElem_cons (by simpa using hi'), List.take_succ_cons, List.take_zero, List.getElem_map]
    rw [this, keyLits_byte]
    exact ⟨_, rfl⟩
  obtain ⟨bs, hb⟩ := h
  refine ⟨bs.flatten, ?_⟩
  unfold Program.keyLits
  rw [Try.underlying35]
  simp only [encKey_len, cells35, if_true]
  rw [hb]
  rfl
theorem types_two : ∃ m, Try.prog.types.size = m + 1 := ⟨Try.prog.types.size - 1, by have : 1 ≤ Try.prog.types.size := of_decide_eq_true (by kernel_rfl); omega⟩
theorem keyCode : KeyCode Try.prog 35 (fun k : Key => agg k) := by
  have hl : laidOutB Try.prog = true := by kernel_rfl
  refine ⟨Maps.Keyed.of_law (deep_law_laid hl (m := 2) (by omega) (show 35 < Try.prog.types.size from of_decide_eq_true (by kernel_rfl)) (by kernel_rfl) (by rw [Try.underlying35])), fun k => ?_, fun a b h => ?_⟩
  · obtain ⟨m, hm⟩ := types_two
    obtain ⟨ls, h⟩ := keyLits_key m k
    refine ⟨.string (keyBytes ls), ?_⟩
    have h1 : Try.prog.keyType 35 = true := by kernel_rfl
    have h2 : (agg k).formed Try.prog 35 = true := by
      simp only [Value.formed, Try.underlying35, agg, cells35]
      simp [Enc.len k, Enc.sz]
    unfold keyOf
    rw [Try.underlying35]
    simp only [h1, h2, Bool.and_self, if_true]
    have : (agg k).cells.toList = encKey k := by simp [agg, Value.cells]; rfl
    rw [this, hm, h]
    rfl
  · simp only [agg, Value.agg.injEq] at h
    exact encKey_inj (by simpa using h : Enc.enc a = Enc.enc b)
end Go.Pb
