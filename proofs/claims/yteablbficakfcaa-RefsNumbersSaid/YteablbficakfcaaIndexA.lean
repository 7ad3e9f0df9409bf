/- The index of extents, function by function: what each answers and does. -/
import Derived.Test.YteablbficakfcaaTypes
import Derived.Test.YteablbficakfcaaHeld
set_option linter.unusedVariables false
set_option linter.unusedSimpArgs false
set_option linter.unusedSectionVars false
namespace Go.Pb
open Go.RowKit Go.Proofs Go.BigFrame

def ixFrom (n a b : Int) : Bool := decide (a ≤ n) && decide (n ≤ b)
theorem from_ok (n a b : Int) (w : World) : Calls Try.prog 54 #[.int .i64 n, .int .i64 a, .int .i64 b] w fun e w' => e = .returned (.bool (ixFrom n a b)) ∧ w = w' := by
  go_enter Try.func54, Try.ntmps54
  by_cases h1 : a ≤ n
  · by_cases h2 : n ≤ b
    · go_wp2
      go_ret
      exact ⟨by simp [ixFrom, h1, h2], rfl⟩
    · go_wp2
      go_ret
      exact ⟨by simp [ixFrom, h1, h2], rfl⟩
  · go_wp2
    go_ret
    exact ⟨by simp [ixFrom, h1]; omega, rfl⟩

theorem from_eq (n a b : Int) (r : Bool) (h : ixFrom n a b = r) (w : World) : Calls Try.prog 54 #[.int .i64 n, .int .i64 a, .int .i64 b] w fun e w' => e = .returned (.bool r) ∧ w = w' := by
  subst h
  exact from_ok n a b w
/-- Is a pointer that of no index: none, or of one that nobody made? -/
def NoIx (w : World) (x : Value) : Prop := x = .pointer none ∨ ∃ g, x = .pointer (some ⟨g, 0, none⟩) ∧ w.cell? ⟨g, 0, none⟩ = some (.map none)
/-- .. of one with a map? -/
def IxAt (w : World) (x : Value) (b : Nat) : Prop := ∃ g, x = .pointer (some ⟨g, 0, none⟩) ∧ g ≠ b ∧ w.cell? ⟨g, 0, none⟩ = some (.map (some b))
theorem NoIx.fresh {w w' : World} {x : Value} (h : NoIx w x) (hb : Below w.heap.size w w') : NoIx w' x := by
  rcases h with h | ⟨g, h, hc⟩
  · exact .inl h
  · exact .inr ⟨g, h, (hb.cell (p := ⟨g, 0, none⟩) (World.block_lt_of_cell? w _ hc)).trans hc⟩
theorem IxAt.fresh {w w' : World} {x : Value} {b : Nat} (h : IxAt w x b) (hb : Below w.heap.size w w') : IxAt w' x b := by
  obtain ⟨g, h, hne, hc⟩ := h
  exact ⟨g, h, hne, (hb.cell (p := ⟨g, 0, none⟩) (World.block_lt_of_cell? w _ hc)).trans hc⟩
theorem IxAt.grown {w w' : World} {x : Value} {b : Nat} (h : IxAt w x b) (hb : w.grownBy w' (some b)) : IxAt w' x b := by
  obtain ⟨g, h, hne, hc⟩ := h
  exact ⟨g, h, hne, hb.cell hc (by simpa using hne)⟩

set_option maxRecDepth 4000 in
theorem there_none_ok (x : Value) (w : World) (h : NoIx w x) : Calls Try.prog 45 #[x] w fun e w' => e = .returned (.bool false) ∧ w = w' := by
  rcases h with rfl | ⟨g, rfl, hc⟩
  · have hu := Try.underlying101
    go_enter Try.func45, Try.ntmps45
    go_wp2
    go_ret
    exact ⟨rfl, rfl⟩
  · have hu := Try.underlying101
    go_enter Try.func45, Try.ntmps45
    go_wp2_with (refine st_val rfl (op_neq_map 101 _ _ _ _ _ none rfl Try.underlying101 rfl rfl) ?_)
    go_ret
    exact ⟨rfl, rfl⟩
set_option maxRecDepth 4000 in
theorem there_ok (x : Value) (b : Nat) (w : World) (h : IxAt w x b) : Calls Try.prog 45 #[x] w fun e w' => e = .returned (.bool true) ∧ w = w' := by
  obtain ⟨g, rfl, hne, hc⟩ := h
  go_enter Try.func45, Try.ntmps45
  go_wp2_with (refine st_val rfl (op_neq_map 101 _ _ _ _ _ (some b) rfl Try.underlying101 rfl rfl) ?_)
  go_ret
  exact ⟨rfl, rfl⟩

def ixMay (p : Place) : Bool := ixFrom p.at_ 0 262144 && (ixFrom p.sectors 1 1024 && (ixFrom p.units 1 16 && ixFrom p.refs 0 2147483647))
theorem may_ok (p : Place) (w : World) : Calls Try.prog 46 #[agg p] w fun e w' => e = .returned (.bool (ixMay p)) ∧ w.alloc (.cells (Enc.enc p).toArray 38) = w' := by
  have hr := range_block (heap_alloc_new w (.cells (Enc.enc p).toArray 38))
  have c0 : (w.alloc (.cells (Enc.enc p).toArray 38)).cell? ⟨w.heap.size, 0, none⟩ = some (.int .i64 p.at_) := hr 0 _ rfl
  have c1 : (w.alloc (.cells (Enc.enc p).toArray 38)).cell? ⟨w.heap.size, 1, none⟩ = some (.int .i64 p.sectors) := hr 1 _ rfl
  have c2 : (w.alloc (.cells (Enc.enc p).toArray 38)).cell? ⟨w.heap.size, 2, none⟩ = some (.int .i64 p.units) := hr 2 _ rfl
  have c3 : (w.alloc (.cells (Enc.enc p).toArray 38)).cell? ⟨w.heap.size, 3, none⟩ = some (.int .i64 p.refs) := hr 3 _ rfl
  clear hr
  go_enter Try.func46, Try.ntmps46
  cases f0 : ixFrom p.at_ 0 262144 with
  | false =>
    go_wp2_with (first
      | (refine st_val rfl (run_box 38 _ p rfl rfl) ?_)
      | (go_at_call 54; refine (from_ok _ _ _ _).mono ?_; rintro e w' ⟨rfl, rfl⟩; simp only [f0]))
    go_ret
    exact ⟨by simp [ixMay, f0], rfl⟩
  | true =>
    cases f1 : ixFrom p.sectors 1 1024 with
    | false =>
      go_wp2_with (first
        | (refine st_val rfl (run_box 38 _ p rfl rfl) ?_)
        | (go_at_call 54; refine (from_ok _ _ _ _).mono ?_; rintro e w' ⟨rfl, rfl⟩; simp only [f0, f1]))
      go_ret
      exact ⟨by simp [ixMay, f0, f1], rfl⟩
    | true =>
      cases f2 : ixFrom p.units 1 16 with
      | false =>
        go_wp2_with (first
          | (refine st_val rfl (run_box 38 _ p rfl rfl) ?_)
          | (go_at_call 54; refine (from_ok _ _ _ _).mono ?_; rintro e w' ⟨rfl, rfl⟩; simp only [f0, f1, f2]))
        go_ret
        exact ⟨by simp [ixMay, f0, f1, f2], rfl⟩
      | true =>
        go_wp2_with (first
          | (refine st_val rfl (run_box 38 _ p rfl rfl) ?_)
          | (go_at_call 54; refine (from_ok _ _ _ _).mono ?_; rintro e w' ⟨rfl, rfl⟩; simp only [f0, f1, f2]))
        go_ret
        exact ⟨by simp [ixMay, f0, f1, f2], rfl⟩
end Go.Pb
