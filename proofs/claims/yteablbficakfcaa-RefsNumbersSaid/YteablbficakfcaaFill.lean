/- Aggregates built field by field. Nothing here names the program. -/
import Derived.Test.YteablbficakfcaaSteps
set_option linter.unusedVariables false
set_option linter.unusedSimpArgs false
set_option linter.unusedSectionVars false
namespace Go.Pb
open Go.RowKit

theorem splice_mid (a b c v : List Value) (off : Nat) (ha : off = a.length) (hv : v.length = b.length) : splice' (a ++ (b ++ c)) off v = a ++ (v ++ c) := by
  subst ha
  unfold splice'
  rw [List.take_left, hv, ← List.append_assoc a b c, ← List.length_append, List.drop_left]
theorem splice_head (b c v : List Value) (hv : v.length = b.length) : splice' (b ++ c) 0 v = v ++ c := splice_mid [] b c v 0 rfl hv
theorem splice_last (a b v : List Value) (off : Nat) (ha : off = a.length) (hv : v.length = b.length) : splice' (a ++ b) off v = a ++ v := by
  have := splice_mid a b [] v off ha hv
  simpa using this
theorem fill_enc {α : Type} [Enc α] (place : Nat → Option (Nat × Nat)) (z z' : α) (i off size : Nat) (v : Value) (vs : List Value) (rest : List (Nat × Value)) (hp : place i = some (off, size)) (hv : v.cells.toList = vs) (hs : vs.length = size) (hf : off + size ≤ Enc.sz α)
    (hz : splice' (Enc.enc z) off vs = Enc.enc z') : Instr.fill place (Enc.enc z).toArray ((i, v) :: rest) = Instr.fill place (Enc.enc z').toArray rest := by
  subst hv
  rw [fill_cons place _ i off size v rest hp (by rw [← hs, Array.length_toList]) (by simpa [Enc.len] using hf)]
  rw [← hz]
theorem set_item_kind (i : Item) (k : UInt8) : splice' (Enc.enc i) 0 [byteV k] = Enc.enc { i with kind := k } := splice_head [_] _ [_] rfl
theorem set_item_key (i : Item) (k : Key) : splice' (Enc.enc i) 1 (Enc.enc k) = Enc.enc { i with key := k } := splice_mid [_] (encKey i.key) _ (encKey k) 1 rfl (by rw [encKey_len, encKey_len])
theorem set_item_place (i : Item) (p : Place) : splice' (Enc.enc i) 33 (Enc.enc p) = Enc.enc { i with place := p } := by
  show splice' (encItem i) 33 (encPlace p) = encItem { i with place := p }
  have := splice_mid ([byteV i.kind] ++ encKey i.key) (encPlace i.place) ([intV i.snap, intV i.unit] ++ encSlice i.slice) (encPlace p) 33 (by simp [encKey_len]) rfl
  simpa [encItem] using this
theorem set_item_snap (i : Item) (n : Int) : splice' (Enc.enc i) 37 [intV n] = Enc.enc { i with snap := n } := by
  show splice' (encItem i) 37 [intV n] = encItem { i with snap := n }
  have := splice_mid ([byteV i.kind] ++ (encKey i.key ++ encPlace i.place)) [intV i.snap] ([intV i.unit] ++ encSlice i.slice) [intV n] 37 (by simp [encKey_len, encPlace]) rfl
  simpa [encItem] using this
theorem set_item_unit (i : Item) (n : Int) : splice' (Enc.enc i) 38 [intV n] = Enc.enc { i with unit := n } := by
  show splice' (encItem i) 38 [intV n] = encItem { i with unit := n }
  have := splice_mid ([byteV i.kind] ++ (encKey i.key ++ (encPlace i.place ++ [intV i.snap]))) [intV i.unit] (encSlice i.slice) [intV n] 38 (by simp [encKey_len, encPlace]) rfl
  simpa [encItem] using this
theorem set_item_slice (i : Item) (s : Slice) : splice' (Enc.enc i) 39 (Enc.enc s) = Enc.enc { i with slice := s } := by
  show splice' (encItem i) 39 (encSlice s) = encItem { i with slice := s }
  have := splice_last ([byteV i.kind] ++ (encKey i.key ++ (encPlace i.place ++ [intV i.snap, intV i.unit]))) (encSlice i.slice) (encSlice s) 39 (by simp [encKey_len, encPlace]) (by rw [encSlice_len, encSlice_len])
  simpa [encItem] using this
theorem set_count_key (c : Count) (k : Key) : splice' (Enc.enc c) 0 (Enc.enc k) = Enc.enc { c with key := k } := splice_head (encKey c.key) _ (encKey k) (by rw [encKey_len, encKey_len])
theorem set_count_refs (c : Count) (n : Int) : splice' (Enc.enc c) 32 [intV n] = Enc.enc { c with refs := n } := splice_last (encKey c.key) [_] [_] 32 (by rw [encKey_len]) rfl
theorem set_slice_key (c : Slice) (k : Key) : splice' (Enc.enc c) 0 (Enc.enc k) = Enc.enc { c with key := k } := splice_head (encKey c.key) _ (encKey k) (by rw [encKey_len, encKey_len])
theorem set_slice_off (c : Slice) (n : Int) : splice' (Enc.enc c) 32 [intV n] = Enc.enc { c with off := n } := splice_mid (encKey c.key) [_] [_] [_] 32 (by rw [encKey_len]) rfl
theorem set_slice_mask (c : Slice) (n : Int) : splice' (Enc.enc c) 33 [intV n] = Enc.enc { c with mask := n } := by
  have := splice_last (encKey c.key ++ [intV c.off]) [intV c.mask] [intV n] 33 (by simp [encKey_len]) rfl
  simpa [Enc.enc, encSlice] using this
end Go.Pb
