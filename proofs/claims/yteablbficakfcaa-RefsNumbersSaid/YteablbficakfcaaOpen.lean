/- What comes in, opened: an aggregate of the program's types is that of a datum, each of whose numbers fits its kind; a slice of such is read as a list of such. -/
import Derived.Test.YteablbficakfcaaTypes
import Derived.OpenShut
import Derived.Deep.Slices
import Derived.ChangeSame
import Derived.ChangeArms
set_option linter.unusedVariables false
set_option linter.unusedSimpArgs false
set_option linter.unusedSectionVars false
namespace Go.Pb
open Go.RowKit Go.Proofs Go.WideShapes Go.ChangeShapes

def okInt (n : Int) : Prop := -9223372036854775808 ≤ n ∧ n ≤ 9223372036854775807
class Fit (α : Type) where
  fit : α → Prop
instance : Fit Key := ⟨fun _ => True⟩
instance : Fit Place := ⟨fun p => okInt p.at_ ∧ okInt p.sectors ∧ okInt p.units ∧ okInt p.refs⟩
instance : Fit Slice := ⟨fun s => okInt s.off ∧ okInt s.mask⟩
instance : Fit Item := ⟨fun i => Fit.fit i.place ∧ okInt i.snap ∧ okInt i.unit ∧ Fit.fit i.slice⟩
instance : Fit Count := ⟨fun c => okInt c.refs⟩
instance : Fit Fresh := ⟨fun c => Fit.fit c.place⟩
instance : Fit Put := ⟨fun c => okInt c.unit ∧ Fit.fit c.slice⟩
instance : Fit Int := ⟨okInt⟩

/-- A type's data are those of α. -/
def Dec (P : Program) (t : TypeId) (α : Type) [Enc α] [Fit α] : Prop :=
  ∀ (H : Type) (enc : TypeId × Value → H) (w : World) (base : Nat) (spare : Nat → Bool) (held : Bool) (fuel : Nat) (cs : List Value) (x : DataW H × List MemPlace),
    DataW.trod enc P w base spare held fuel t cs = some x → ∃ z : α, cs = Enc.enc z ∧ Fit.fit z

theorem ok_of_wf {n : Int} (h : (Lit.int .i64 n).wf = true) : okInt n := by
  simp [Lit.wf, IntKind.min, IntKind.max, IntKind.signed, IntKind.bits] at h
  exact ⟨by omega, by omega⟩
theorem dec_int : Dec Try.prog 3 Int := by
  intro H enc w base spare held fuel cs x h
  obtain ⟨n, rfl, rfl, hw⟩ := DataW.trod_int Try.underlying3 h
  exact ⟨n, rfl, ok_of_wf hw⟩
theorem dec_byte {t : TypeId} (ht : Try.prog.underlying t = some (.int .u8)) {H : Type} {enc : TypeId × Value → H} {w : World} {base : Nat} {spare : Nat → Bool} {held : Bool} {fuel : Nat} {cs : List Value} {x : DataW H × List MemPlace} (h : DataW.trod enc Try.prog w base spare held fuel t cs = some x) : ∃ b : UInt8, cs = [byteV b] := by
  obtain ⟨n, rfl, rfl, hw⟩ := DataW.trod_int ht h
  simp [Lit.wf, IntKind.min, IntKind.max, IntKind.signed, IntKind.bits] at hw
  refine ⟨UInt8.ofNat n.toNat, ?_⟩
  have : (UInt8.ofNat n.toNat).toNat = n.toNat := by
    rw [UInt8.toNat_ofNat']
    exact Nat.mod_eq_of_lt (by omega)
  simp only [byteV, this, List.cons.injEq, and_true, Value.int.injEq, true_and]
  omega
theorem bytes_of_cells : ∀ (cs : List Value), (∀ i, i < cs.length → ∃ b : UInt8, (cs.drop i).take 1 = [byteV b]) → ∃ l : List UInt8, cs = l.map byteV
  | [], _ => ⟨[], rfl⟩
  | c :: cs, h => by
    obtain ⟨b, hb⟩ := h 0 (by simp)
    obtain ⟨l, hl⟩ := bytes_of_cells cs (fun i hi => by simpa using h (i + 1) (by simpa using hi))
    simp at hb
    exact ⟨b :: l, by simp [hb, hl]⟩
theorem dec_key : Dec Try.prog 35 Key := by
  intro H enc w base spare held fuel cs x h
  obtain ⟨xs, m, _, _, hlen, hxl, hel⟩ := DataW.trod_array Try.underlying35 h
  rw [cells35] at hlen
  rw [cells5] at hel
  have hb : ∀ i, i < cs.length → ∃ b : UInt8, (cs.drop i).take 1 = [byteV b] := fun i hi => by
    have h1 := hel i (by omega)
    rw [Nat.mul_one, List.getElem?_eq_getElem (by omega)] at h1
    exact dec_byte Try.underlying5 h1
  obtain ⟨l, rfl⟩ := bytes_of_cells cs hb
  exact ⟨⟨l, by simpa using hlen⟩, rfl, trivial⟩
theorem cut_at {cs : List Value} (a b : Nat) : cs.drop a = (cs.drop a).take b ++ cs.drop (a + b) := by
  rw [← List.drop_drop, List.take_append_drop]
theorem cut_last {cs : List Value} (a b : Nat) (h : cs.length = a + b) : (cs.drop a).take b = cs.drop a := List.take_of_length_le (by simp; omega)
/-- A field, as it is read. -/
theorem dec_field {P : Program} {α : Type} [Enc α] [Fit α] {t : TypeId} (D : Dec P t α) {H : Type} {enc : TypeId × Value → H} {w : World} {base : Nat} {spare : Nat → Bool} {held : Bool} {n : Nat} {cs : List Value} {xs : List (DataW H × List MemPlace)} {i : Nat}
    (h : DataW.trod enc P w base spare held n t cs = xs[i]?) (hi : i < xs.length) : ∃ z : α, cs = Enc.enc z ∧ Fit.fit z := by
  rw [List.getElem?_eq_getElem hi] at h
  exact D _ _ _ _ _ _ _ _ _ h
theorem cells38 : Try.prog.cellsOf 38 = 4 := by kernel_rfl
theorem cells40 : Try.prog.cellsOf 40 = 34 := by kernel_rfl
theorem cells42 : Try.prog.cellsOf 42 = 73 := by kernel_rfl
theorem cells45 : Try.prog.cellsOf 45 = 33 := by kernel_rfl
theorem cells36 : Try.prog.cellsOf 36 = 1 := by kernel_rfl
theorem cells3 : Try.prog.cellsOf 3 = 1 := by kernel_rfl
theorem dec_place : Dec Try.prog 38 Place := by
  intro H enc w base spare held fuel cs x h
  obtain ⟨xs, m, _, _, hlen, hxl, hf⟩ := DataW.trod_struct Try.underlying38 h
  rw [cells38] at hlen
  have hx : xs.length = 4 := hxl
  have h0 : DataW.trod enc Try.prog w base spare held m 3 ((cs.drop 0).take (Try.prog.cellsOf 3)) = xs[0]? := hf 0 _ rfl
  have h1 : DataW.trod enc Try.prog w base spare held m 3 ((cs.drop 1).take (Try.prog.cellsOf 3)) = xs[1]? := hf 1 _ rfl
  have h2 : DataW.trod enc Try.prog w base spare held m 3 ((cs.drop 2).take (Try.prog.cellsOf 3)) = xs[2]? := hf 2 _ rfl
  have h3 : DataW.trod enc Try.prog w base spare held m 3 ((cs.drop 3).take (Try.prog.cellsOf 3)) = xs[3]? := hf 3 _ rfl
  rw [cells3] at h0
  rw [cells3] at h1
  rw [cells3] at h2
  rw [cells3] at h3
  obtain ⟨z0, e0, f0⟩ := dec_field dec_int h0 (by omega)
  obtain ⟨z1, e1, f1⟩ := dec_field dec_int h1 (by omega)
  obtain ⟨z2, e2, f2⟩ := dec_field dec_int h2 (by omega)
  obtain ⟨z3, e3, f3⟩ := dec_field dec_int h3 (by omega)
  refine ⟨⟨z0, z1, z2, z3⟩, ?_, f0, f1, f2, f3⟩
  rw [← List.drop_zero (l := cs), cut_at 0 1, cut_at (0 + 1) 1, cut_at (0 + 1 + 1) 1, ← cut_last (0 + 1 + 1 + 1) 1 (by omega), e0, e1, e2, e3]
  rfl
theorem dec_slice : Dec Try.prog 40 Slice := by
  intro H enc w base spare held fuel cs x h
  obtain ⟨xs, m, _, _, hlen, hxl, hf⟩ := DataW.trod_struct Try.underlying40 h
  rw [cells40] at hlen
  have hx : xs.length = 3 := hxl
  have h0 : DataW.trod enc Try.prog w base spare held m 35 ((cs.drop 0).take (Try.prog.cellsOf 35)) = xs[0]? := hf 0 _ rfl
  have h1 : DataW.trod enc Try.prog w base spare held m 3 ((cs.drop 32).take (Try.prog.cellsOf 3)) = xs[1]? := hf 1 _ rfl
  have h2 : DataW.trod enc Try.prog w base spare held m 3 ((cs.drop 33).take (Try.prog.cellsOf 3)) = xs[2]? := hf 2 _ rfl
  rw [cells35] at h0
  rw [cells3] at h1
  rw [cells3] at h2
  obtain ⟨z0, e0, f0⟩ := dec_field dec_key h0 (by omega)
  obtain ⟨z1, e1, f1⟩ := dec_field dec_int h1 (by omega)
  obtain ⟨z2, e2, f2⟩ := dec_field dec_int h2 (by omega)
  refine ⟨⟨z0, z1, z2⟩, ?_, f1, f2⟩
  rw [← List.drop_zero (l := cs), cut_at 0 32, cut_at (0 + 32) 1, ← cut_last (0 + 32 + 1) 1 (by omega), e0, e1, e2]
  rfl
theorem dec_count : Dec Try.prog 45 Count := by
  intro H enc w base spare held fuel cs x h
  obtain ⟨xs, m, _, _, hlen, hxl, hf⟩ := DataW.trod_struct Try.underlying45 h
  rw [cells45] at hlen
  have hx : xs.length = 2 := hxl
  have h0 : DataW.trod enc Try.prog w base spare held m 35 ((cs.drop 0).take (Try.prog.cellsOf 35)) = xs[0]? := hf 0 _ rfl
  have h1 : DataW.trod enc Try.prog w base spare held m 3 ((cs.drop 32).take (Try.prog.cellsOf 3)) = xs[1]? := hf 1 _ rfl
  rw [cells35] at h0
  rw [cells3] at h1
  obtain ⟨z0, e0, f0⟩ := dec_field dec_key h0 (by omega)
  obtain ⟨z1, e1, f1⟩ := dec_field dec_int h1 (by omega)
  refine ⟨⟨z0, z1⟩, ?_, f1⟩
  rw [← List.drop_zero (l := cs), cut_at 0 32, ← cut_last (0 + 32) 1 (by omega), e0, e1]
  rfl
theorem dec_item : Dec Try.prog 42 Item := by
  intro H enc w base spare held fuel cs x h
  obtain ⟨xs, m, _, _, hlen, hxl, hf⟩ := DataW.trod_struct Try.underlying42 h
  rw [cells42] at hlen
  have hx : xs.length = 6 := hxl
  have h0 : DataW.trod enc Try.prog w base spare held m 36 ((cs.drop 0).take (Try.prog.cellsOf 36)) = xs[0]? := hf 0 _ rfl
  have h1 : DataW.trod enc Try.prog w base spare held m 35 ((cs.drop 1).take (Try.prog.cellsOf 35)) = xs[1]? := hf 1 _ rfl
  have h2 : DataW.trod enc Try.prog w base spare held m 38 ((cs.drop 33).take (Try.prog.cellsOf 38)) = xs[2]? := hf 2 _ rfl
  have h3 : DataW.trod enc Try.prog w base spare held m 3 ((cs.drop 37).take (Try.prog.cellsOf 3)) = xs[3]? := hf 3 _ rfl
  have h4 : DataW.trod enc Try.prog w base spare held m 3 ((cs.drop 38).take (Try.prog.cellsOf 3)) = xs[4]? := hf 4 _ rfl
  have h5 : DataW.trod enc Try.prog w base spare held m 40 ((cs.drop 39).take (Try.prog.cellsOf 40)) = xs[5]? := hf 5 _ rfl
  rw [cells36] at h0
  rw [cells35] at h1
  rw [cells38] at h2
  rw [cells3] at h3
  rw [cells3] at h4
  rw [cells40] at h5
  rw [List.getElem?_eq_getElem (show 0 < xs.length by omega)] at h0
  obtain ⟨z0, e0⟩ := dec_byte Try.underlying36 h0
  obtain ⟨z1, e1, f1⟩ := dec_field dec_key h1 (by omega)
  obtain ⟨z2, e2, f2⟩ := dec_field dec_place h2 (by omega)
  obtain ⟨z3, e3, f3⟩ := dec_field dec_int h3 (by omega)
  obtain ⟨z4, e4, f4⟩ := dec_field dec_int h4 (by omega)
  obtain ⟨z5, e5, f5⟩ := dec_field dec_slice h5 (by omega)
  refine ⟨⟨z0, z1, z2, z3, z4, z5⟩, ?_, f2, f3, f4, f5⟩
  rw [← List.drop_zero (l := cs), cut_at 0 1, cut_at (0 + 1) 32, cut_at (0 + 1 + 32) 4, cut_at (0 + 1 + 32 + 4) 1, cut_at (0 + 1 + 32 + 4 + 1) 1, ← cut_last (0 + 1 + 32 + 4 + 1 + 1) 34 (by omega), e0, e1, e2, e3, e4, e5]
  rfl
/-- A struct that came in by value. -/
theorem open_agg {α : Type} [Enc α] [Fit α] {P : Program} {t : TypeId} (D : Dec P t α) {fs : Array Field} (ht : P.underlying t = some (.struct fs)) {H : Type} {enc : TypeId × Value → H} {w : World} {r : Reach} {b0 base : Nat} {spare : Nat → Bool} {held : Bool} {v : Value} {d : DataW H} {p : List MemPlace}
    (hv : Value.okWide P w r b0 t v) (h : DataW.Trod enc P w base spare held t v d p) : ∃ z : α, v = agg z ∧ Fit.fit z := by
  obtain ⟨cs, rfl, hsz⟩ := okWide_struct ht hv
  obtain ⟨fuel, hf⟩ := h
  obtain ⟨z, hz, hfit⟩ := D _ _ _ _ _ _ _ _ _ hf
  refine ⟨z, ?_, hfit⟩
  have hz' : cs.toList = Enc.enc z := hz
  rw [agg_eq, ← hz']
theorem list_of {α : Type} {P : Nat → α → Prop} : ∀ n : Nat, (∀ i, i < n → ∃ z, P i z) → ∃ l : List α, l.length = n ∧ ∀ i (h : i < l.length), P i l[i]
  | 0, _ => ⟨[], rfl, fun i h => by simp at h⟩
  | n + 1, h => by
    obtain ⟨l, hl, hp⟩ := list_of n (fun i hi => h i (by omega))
    obtain ⟨z, hz⟩ := h n (by omega)
    refine ⟨l ++ [z], by simp [hl], fun i hi => ?_⟩
    by_cases h' : i < l.length
    · rw [List.getElem_append_left h']
      exact hp i h'
    · have : i = l.length := by simp at hi; omega
      subst this
      rw [List.getElem_append_right (Nat.le_refl _)]
      simp only [Nat.sub_self, List.getElem_cons_zero]
      rw [hl]
      exact hz
/-- A slice of such. -/
theorem open_list {α : Type} [Enc α] [Fit α] {P : Program} {t e : TypeId} (D : Dec P e α) (ht : P.underlying t = some (.slice e)) (hC : P.cellsOf e = Enc.sz α) {H : Type} {enc : TypeId × Value → H} {w : World} {base : Nat} {spare : Nat → Bool} {held : Bool} {fuel : Nat} {A : Option Addr} {len cap : Nat} {x : DataW H × List MemPlace}
    (h : DataW.trod enc P w base spare held fuel t [.slice A len cap] = some x) : ∃ l : List α, l.length = len ∧ Reads w A l ∧ len ≤ cap ∧ cap ≤ maxLen ∧ ∀ z ∈ l, Fit.fit z := by
  rcases Deep.open_slice ht h with ⟨h0, _⟩ | ⟨a, len', cap', m, n, Dm, Pl, hcs, hb, hl, hm, hmm, hx, hi⟩
  · simp only [List.cons.injEq, Value.slice.injEq, and_true] at h0
    obtain ⟨rfl, rfl, rfl⟩ := h0
    exact ⟨[], rfl, Reads.nil _ _, Nat.le_refl _, by simp [maxLen], by simp⟩
  · simp only [List.cons.injEq, Value.slice.injEq, and_true] at hcs
    obtain ⟨rfl, rfl, rfl⟩ := hcs
    have hlm : len ≤ m := by rw [hmm]; split <;> omega
    obtain ⟨l, hll, hp⟩ := list_of (P := fun i (z : α) => (∀ j, j < Enc.sz α → w.cell? ((a.add (i * Enc.sz α)).add j) = (Enc.enc z)[j]?) ∧ Fit.fit z) len (fun i hil => by
      obtain ⟨cs', hc, hd⟩ := hi i (by omega)
      obtain ⟨_, _, hcell⟩ := World.cells?_some hc
      obtain ⟨z, rfl, hf⟩ := D _ _ _ _ _ _ _ _ _ hd
      rw [hC] at hcell
      exact ⟨z, hcell, hf⟩)
    refine ⟨l, hll, ?_, hl, hm, fun z hz => ?_⟩
    · intro hne
      have hpos : 0 < l.length := List.length_pos_iff.2 hne
      obtain ⟨b, o, spot⟩ := a
      have h00 := (hp 0 hpos).1 0 Enc.pos
      have hlen0 : 0 < (Enc.enc l[0]).length := by rw [Enc.len]; exact Enc.pos
      rw [List.getElem?_eq_getElem hlen0] at h00
      have hspot : spot = none := by simpa [Addr.add] using World.cell?_spot h00
      subst hspot
      refine ⟨b, o, rfl, fun j v hv => ?_⟩
      have hj : j < l.length * Enc.sz α := by
        rw [← flat_length]
        exact (List.getElem?_eq_some_iff.1 hv).1
      have hq : j / Enc.sz α < l.length := Nat.div_lt_of_lt_mul (by rw [Nat.mul_comm]; exact hj)
      have hmod : j % Enc.sz α < Enc.sz α := Nat.mod_lt _ Enc.pos
      have h1 := flat_get l (j / Enc.sz α) hq (j % Enc.sz α) hmod
      rw [Nat.div_add_mod' j, hv] at h1
      have h2 := (hp _ hq).1 (j % Enc.sz α) hmod
      rw [← h1, Addr.add_mid, Addr.add_mid, Nat.add_assoc, Nat.div_add_mod' j] at h2
      exact h2
    · obtain ⟨i, hi', rfl⟩ := List.getElem_of_mem hz
      exact (hp i hi').2
end Go.Pb
