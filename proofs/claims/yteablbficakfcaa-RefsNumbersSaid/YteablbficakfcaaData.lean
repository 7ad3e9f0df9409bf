/- The program's plain data as Lean's: keys, places, slices, items, counts, extents that are new, puts; their cells; keys' order. Nothing here names the program. -/
import Derived.Test.YteablbficakfcaaBase
set_option linter.unusedVariables false
set_option linter.unusedSimpArgs false
set_option linter.unusedSectionVars false
namespace Go.Pb
open Go.RowKit

def byteV (b : UInt8) : Value := .int .u8 (b.toNat : Int)
def intV (n : Int) : Value := .int .i64 n

abbrev Key := { l : List UInt8 // l.length = 32 }
structure Place where
  at_ : Int
  sectors : Int
  units : Int
  refs : Int
  deriving DecidableEq, Inhabited
structure Slice where
  key : Key
  off : Int
  mask : Int
  deriving DecidableEq
structure Item where
  kind : UInt8
  key : Key
  place : Place
  snap : Int
  unit : Int
  slice : Slice
  deriving DecidableEq
structure Count where
  key : Key
  refs : Int
  deriving DecidableEq
structure Fresh where
  key : Key
  place : Place
  deriving DecidableEq
structure Put where
  unit : Int
  slice : Slice
  deriving DecidableEq

def Key.zero : Key := ⟨List.replicate 32 0, by simp⟩
instance : Inhabited Key := ⟨Key.zero⟩
def Slice.zero : Slice := ⟨Key.zero, 0, 0⟩
def Place.zero : Place := ⟨0, 0, 0, 0⟩
def Item.zero : Item := ⟨0, Key.zero, Place.zero, 0, 0, Slice.zero⟩
def Count.zero : Count := ⟨Key.zero, 0⟩
instance : Inhabited Slice := ⟨Slice.zero⟩
instance : Inhabited Item := ⟨Item.zero⟩
instance : Inhabited Count := ⟨Count.zero⟩
instance : Inhabited Fresh := ⟨⟨Key.zero, Place.zero⟩⟩
instance : Inhabited Put := ⟨⟨0, Slice.zero⟩⟩

def encKey (k : Key) : List Value := k.1.map byteV
def encPlace (p : Place) : List Value := [intV p.at_, intV p.sectors, intV p.units, intV p.refs]
def encSlice (s : Slice) : List Value := encKey s.key ++ [intV s.off, intV s.mask]
def encItem (i : Item) : List Value := [byteV i.kind] ++ (encKey i.key ++ (encPlace i.place ++ ([intV i.snap, intV i.unit] ++ encSlice i.slice)))
def encCount (c : Count) : List Value := encKey c.key ++ [intV c.refs]
def encFresh (f : Fresh) : List Value := encKey f.key ++ encPlace f.place
def encPut (p : Put) : List Value := [intV p.unit] ++ encSlice p.slice

theorem encKey_len (k : Key) : (encKey k).length = 32 := by simp [encKey, k.2]
theorem encKey_one (k : Key) : ∀ v ∈ encKey k, v.oneCell' = true := by
  intro v hv
  simp only [encKey, List.mem_map] at hv
  obtain ⟨b, _, rfl⟩ := hv
  rfl
theorem encPlace_one (p : Place) : ∀ v ∈ encPlace p, v.oneCell' = true := by
  intro v hv
  simp only [encPlace, List.mem_cons, List.not_mem_nil, or_false] at hv
  rcases hv with rfl | rfl | rfl | rfl <;> rfl
theorem encSlice_len (s : Slice) : (encSlice s).length = 34 := by simp [encSlice, encKey_len]
theorem encSlice_one (s : Slice) : ∀ v ∈ encSlice s, v.oneCell' = true := by
  intro v hv
  simp only [encSlice, List.mem_append, List.mem_cons, List.not_mem_nil, or_false] at hv
  rcases hv with h | rfl | rfl
  · exact encKey_one _ v h
  · rfl
  · rfl
theorem encItem_one (i : Item) : ∀ v ∈ encItem i, v.oneCell' = true := by
  intro v hv
  simp only [encItem, List.mem_append, List.mem_cons, List.not_mem_nil, or_false] at hv
  rcases hv with rfl | h | h | (rfl | rfl) | h
  · rfl
  · exact encKey_one _ v h
  · exact encPlace_one _ v h
  · rfl
  · rfl
  · exact encSlice_one _ v h

instance : Enc Key := ⟨encKey, 32, encKey_len, encKey_one, by decide⟩
instance : Enc Place := ⟨encPlace, 4, fun _ => rfl, encPlace_one, by decide⟩
instance : Enc Slice := ⟨encSlice, 34, encSlice_len, encSlice_one, by decide⟩
instance : Enc Item := ⟨encItem, 73, fun i => by simp [encItem, encKey_len, encSlice_len, encPlace], encItem_one, by decide⟩
instance : Enc Count := ⟨encCount, 33, fun c => by simp [encCount, encKey_len], fun c v hv => by
  simp only [encCount, List.mem_append, List.mem_cons, List.not_mem_nil, or_false] at hv
  rcases hv with h | rfl
  · exact encKey_one _ v h
  · rfl, by decide⟩
instance : Enc Fresh := ⟨encFresh, 36, fun c => by simp [encFresh, encKey_len, encPlace], fun c v hv => by
  simp only [encFresh, List.mem_append] at hv
  rcases hv with h | h
  · exact encKey_one _ v h
  · exact encPlace_one _ v h, by decide⟩
instance : Enc Put := ⟨encPut, 35, fun c => by simp [encPut, encSlice_len], fun c v hv => by
  simp only [encPut, List.mem_append, List.mem_cons, List.not_mem_nil, or_false] at hv
  rcases hv with rfl | h
  · rfl
  · exact encSlice_one _ v h, by decide⟩
instance : Enc Int := ⟨fun n => [intV n], 1, fun _ => rfl, fun n v hv => by simp at hv; subst hv; rfl, by decide⟩

/-! ### Parts of an aggregate -/
theorem extract_mid (a b c : List Value) (i j : Nat) (hi : i = a.length) (hj : j = a.length + b.length) : (a ++ (b ++ c)).toArray.extract i j = b.toArray := by
  subst hi
  subst hj
  simp
theorem extract_last (a b : List Value) (i j : Nat) (hi : i = a.length) (hj : j = a.length + b.length) : (a ++ b).toArray.extract i j = b.toArray := by
  have := extract_mid a b [] i j hi hj
  simpa using this
theorem extract_head (a b : List Value) (j : Nat) (hj : j = a.length) : (a ++ b).toArray.extract 0 j = a.toArray := by
  have := extract_mid [] a b 0 j rfl (by simpa using hj)
  simpa using this
theorem item_key (i : Item) : (Enc.enc i).toArray.extract 1 33 = (Enc.enc i.key).toArray := extract_mid [_] _ _ 1 33 rfl (by rw [encKey_len]; rfl)
theorem item_place (i : Item) : (Enc.enc i).toArray.extract 33 37 = (Enc.enc i.place).toArray := by
  show (encItem i).toArray.extract 33 37 = (encPlace i.place).toArray
  unfold encItem
  rw [← List.append_assoc]
  exact extract_mid _ _ _ 33 37 (by simp [encKey_len]) (by simp [encKey_len, encPlace])
theorem item_slice (i : Item) : (Enc.enc i).toArray.extract 39 73 = (Enc.enc i.slice).toArray := by
  show (encItem i).toArray.extract 39 73 = (encSlice i.slice).toArray
  unfold encItem
  rw [← List.append_assoc, ← List.append_assoc, ← List.append_assoc]
  exact extract_last _ _ 39 73 (by simp [encKey_len, encPlace]) (by simp [encKey_len, encPlace, encSlice_len])
theorem item_kind (i : Item) : (Enc.enc i).toArray[0]? = some (byteV i.kind) := rfl
theorem get_at (a : List Value) (v : Value) (c : List Value) (n : Nat) (h : n = a.length) : (a ++ v :: c).toArray[n]? = some v := by
  subst h
  simp
theorem item_snap (i : Item) : (Enc.enc i).toArray[37]? = some (intV i.snap) := by
  show (encItem i).toArray[37]? = _
  unfold encItem
  rw [← List.append_assoc, ← List.append_assoc]
  exact get_at _ _ _ 37 (by simp [encKey_len, encPlace])
theorem item_unit (i : Item) : (Enc.enc i).toArray[38]? = some (intV i.unit) := by
  show (encItem i).toArray[38]? = _
  have : encItem i = ([byteV i.kind] ++ (encKey i.key ++ (encPlace i.place ++ [intV i.snap]))) ++ intV i.unit :: encSlice i.slice := by simp [encItem]
  rw [this]
  exact get_at _ _ _ 38 (by simp [encKey_len, encPlace])
theorem slice_key (s : Slice) : (Enc.enc s).toArray.extract 0 32 = (Enc.enc s.key).toArray := extract_head _ _ 32 (by rw [encKey_len])
theorem slice_off (s : Slice) : (Enc.enc s).toArray[32]? = some (intV s.off) := get_at _ _ _ 32 (by rw [encKey_len])
theorem slice_mask (s : Slice) : (Enc.enc s).toArray[33]? = some (intV s.mask) := by
  show (encSlice s).toArray[33]? = _
  have : encSlice s = (encKey s.key ++ [intV s.off]) ++ [intV s.mask] := by simp [encSlice]
  rw [this]
  exact get_at _ _ _ 33 (by simp [encKey_len])
theorem count_key (c : Count) : (Enc.enc c).toArray.extract 0 32 = (Enc.enc c.key).toArray := extract_head _ _ 32 (by rw [encKey_len])
theorem count_refs (c : Count) : (Enc.enc c).toArray[32]? = some (intV c.refs) := get_at _ _ _ 32 (by rw [encKey_len])
theorem fresh_key (c : Fresh) : (Enc.enc c).toArray.extract 0 32 = (Enc.enc c.key).toArray := extract_head _ _ 32 (by rw [encKey_len])
theorem fresh_place (c : Fresh) : (Enc.enc c).toArray.extract 32 36 = (Enc.enc c.place).toArray := extract_last _ _ 32 36 (by rw [encKey_len]) (by rw [encKey_len]; rfl)
theorem put_unit (p : Put) : (Enc.enc p).toArray[0]? = some (intV p.unit) := rfl
theorem put_slice (p : Put) : (Enc.enc p).toArray.extract 1 35 = (Enc.enc p.slice).toArray := extract_last [_] _ 1 35 rfl (by rw [encSlice_len]; rfl)

/-! ### What is told by the cells -/
theorem byteV_inj {a b : UInt8} (h : byteV a = byteV b) : a = b := by
  simp only [byteV, Value.int.injEq, true_and] at h
  exact UInt8.toNat_inj.1 (by omega)
theorem intV_inj {a b : Int} (h : intV a = intV b) : a = b := by simpa [intV] using h
theorem encKey_inj {a b : Key} (h : encKey a = encKey b) : a = b := by
  apply Subtype.ext
  exact (List.map_inj_right (fun x y hxy => byteV_inj hxy)).1 h

/-! ### The order of keys -/
/-- A key stands ahead of another one. -/
def kcmp (a b : Key) : Int := Lib.compareBytes a.1 b.1
def klt (a b : Key) : Bool := decide (kcmp a b < 0)

theorem compareBytes_lt_iff : ∀ (a b : List UInt8), a.length = b.length → (Lib.compareBytes a b < 0 ↔ a < b)
  | [], [], _ => by simp [Lib.compareBytes]
  | [], _ :: _, h => by simp at h
  | _ :: _, [], h => by simp at h
  | x :: a, y :: b, h => by
    have ih := compareBytes_lt_iff a b (by simpa using h)
    unfold Lib.compareBytes
    rw [List.cons_lt_cons_iff]
    by_cases h1 : x < y
    · simp [h1]
    · by_cases h2 : y < x
      · have h3 : ¬ x = y := fun e => by subst e; exact h1 h2
        simp [h1, h2, h3]
      · have h3 : x = y := UInt8.le_antisymm (UInt8.not_lt.1 h2) (UInt8.not_lt.1 h1)
        simp [h1, h2, h3, ih]
theorem compareBytes_eq_iff : ∀ (a b : List UInt8), a.length = b.length → (Lib.compareBytes a b = 0 ↔ a = b)
  | [], [], _ => by simp [Lib.compareBytes]
  | [], _ :: _, h => by simp at h
  | _ :: _, [], h => by simp at h
  | x :: a, y :: b, h => by
    have ih := compareBytes_eq_iff a b (by simpa using h)
    unfold Lib.compareBytes
    by_cases h1 : x < y
    · have h3 : ¬ x = y := fun e => by subst e; exact UInt8.lt_irrefl _ h1
      simp [h1, h3]
    · by_cases h2 : y < x
      · have h3 : ¬ x = y := fun e => by subst e; exact h1 h2
        simp [h1, h2, h3]
      · have h3 : x = y := UInt8.le_antisymm (UInt8.not_lt.1 h2) (UInt8.not_lt.1 h1)
        simp [h3, ih]
theorem klt_iff (a b : Key) : klt a b = true ↔ a.1 < b.1 := by
  unfold klt kcmp
  rw [decide_eq_true_eq]
  exact compareBytes_lt_iff a.1 b.1 (a.2.trans b.2.symm)
theorem kcmp_lt_iff (a b : Key) : kcmp a b < 0 ↔ a.1 < b.1 := compareBytes_lt_iff a.1 b.1 (a.2.trans b.2.symm)
theorem klt_irrefl (a : Key) : klt a a = false := by
  cases h : klt a a
  · rfl
  · exact absurd ((klt_iff a a).1 h) (List.lt_irrefl _)
theorem klt_trans {a b c : Key} (h1 : klt a b = true) (h2 : klt b c = true) : klt a c = true := (klt_iff a c).2 (List.lt_trans ((klt_iff a b).1 h1) ((klt_iff b c).1 h2))
theorem klt_total {a b : Key} (h1 : klt a b = false) (h2 : klt b a = false) : a = b := by
  apply Subtype.ext
  have e1 : ¬ a.1 < b.1 := fun h => by rw [(klt_iff a b).2 h] at h1; cases h1
  have e2 : ¬ b.1 < a.1 := fun h => by rw [(klt_iff b a).2 h] at h2; cases h2
  exact List.le_antisymm (List.not_lt.1 e2) (List.not_lt.1 e1)
theorem klt_asymm {a b : Key} (h : klt a b = true) : klt b a = false := by
  cases h2 : klt b a
  · rfl
  · have := klt_trans h h2
    rw [klt_irrefl] at this
    cases this
theorem klt_ne {a b : Key} (h : klt a b = true) : a ≠ b := fun e => by subst e; rw [klt_irrefl] at h; cases h

end Go.Pb
