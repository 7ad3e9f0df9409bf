/- The statements of refs: an item, a count; the chapter's examples. -/
import Derived.Test.YteablbficakfcaaRefsD
import Derived.Test.YteablbficakfcaaSame
set_option linter.unusedVariables false
set_option linter.unusedSimpArgs false
set_option linter.unusedSectionVars false
namespace Go.Pb
open Go.RowKit Go.Proofs Go.BigFrame

def keyB (b : UInt8) : Key := ⟨b :: List.replicate 31 0, by simp⟩
def sliceB (b : UInt8) : Item := { Item.zero with kind := 2, slice := ⟨keyB b, 0, 1⟩ }
def countB (b : UInt8) (n : Int) : Count := ⟨keyB b, n⟩
theorem build_slice1 {o : Oper} {ρ : Operand → Value} {w : World} {x : Operand} (k : Key) (ho : o.op = .build 40 #[(0, x), (2, .const (.int .i64 1))]) (hx : ρ x = agg k) (h1 : ρ (.const (.int .i64 1)) = .int .i64 1) :
    (execOp ρ o).run Try.prog w = .ok (.value (agg (Slice.mk k 0 1))) w :=
  run_build _ _ ho _ Try.underlying40 Slice.zero _ zero40 _ (places40 _ Try.underlying40) (by
    rw [show ((#[(0, x), (2, Operand.const (.int .i64 1))].map fun (p : Nat × Operand) => (p.1, ρ p.2)).toList) = [(0, agg k), (2, .int .i64 1)] by simp [hx, h1]]
    rw [fill_enc _ Slice.zero _ 0 0 32 _ (Enc.enc k) _ rfl rfl (Enc.len k) (by decide) (set_slice_key _ _), fill_enc _ _ _ 2 33 1 _ [intV 1] _ rfl rfl rfl (by decide) (set_slice_mask _ _), fill_nil]
    rfl)
theorem build_item2 {o : Oper} {ρ : Operand → Value} {w : World} {x : Operand} (s : Slice) (ho : o.op = .build 42 #[(0, .const (.int .u8 2)), (5, x)]) (h0 : ρ (.const (.int .u8 2)) = .int .u8 2) (hx : ρ x = agg s) :
    (execOp ρ o).run Try.prog w = .ok (.value (agg { Item.zero with kind := 2, slice := s })) w :=
  run_build _ _ ho _ Try.underlying42 Item.zero _ zero42 _ (places42 _ Try.underlying42) (by
    rw [show ((#[(0, Operand.const (.int .u8 2)), (5, x)].map fun (p : Nat × Operand) => (p.1, ρ p.2)).toList) = [(0, .int .u8 2), (5, agg s)] by simp [h0, hx]]
    rw [fill_enc _ Item.zero _ 0 0 1 _ [byteV 2] _ rfl rfl rfl (by decide) (set_item_kind _ _), fill_enc _ _ _ 5 39 34 _ (Enc.enc s) _ rfl rfl (Enc.len s) (by decide) (set_item_slice _ _), fill_nil])
theorem slice24_ok (b : UInt8) (w : World) : Calls Try.prog 22 #[.int .u8 (b.toNat : Int)] w fun e w' => e = .returned (agg (sliceB b)) ∧ Below w.heap.size w w' := by
  go_enter Try.func22, Try.ntmps22
  go_wp2_with (first
    | (refine st_val rfl (run_alloc 42 Item.zero zero42 rfl) ?_)
    | (refine st_val rfl (build_slice1 (keyB b) rfl rfl rfl) ?_)
    | (refine st_val rfl (build_item2 (Slice.mk (keyB b) 0 1) rfl rfl rfl) ?_)
    | (refine st_skip rfl (run_store_new 42 _ _ rfl rfl rfl (sliceB b) Item.zero rfl 42 s42) ?_))
  exact bodyPost_ret (results_agg (g := w.heap.size) Try.results22 _ _ (sliceB b) _ rfl (range_block (heap_alloc_new w _)) Try.underlying42 rfl s42) rfl ⟨rfl, fresh_alloc (fresh_refl w) _⟩
theorem count24_ok (b : UInt8) (n : Int) (w : World) : Calls Try.prog 23 #[.int .u8 (b.toNat : Int), .int .i64 n] w fun e w' => e = .returned (agg (countB b n)) ∧ Below w.heap.size w w' := by
  go_enter Try.func23, Try.ntmps23
  go_wp2_with (first
    | (refine st_val rfl (run_alloc 45 Count.zero zero45 rfl) ?_)
    | (refine st_val rfl (build_count (keyB b) n rfl rfl rfl) ?_)
    | (refine st_skip rfl (run_store_new 45 _ _ rfl rfl rfl (countB b n) Count.zero rfl 45 s45) ?_))
  exact bodyPost_ret (results_agg (g := w.heap.size) Try.results23 _ _ (countB b n) _ rfl (range_block (heap_alloc_new w _)) Try.underlying45 rfl s45) rfl ⟨rfl, fresh_alloc (fresh_refl w) _⟩
end Go.Pb
