/- Words that the walks of IndexBack, IndexOrders and IndexDoes share. -/
import Derived.Test.YteablbficakfcaaIndexLaw
import Derived.Test.YteablbficakfcaaIndexF
import Derived.Test.YteablbficakfcaaDeed
import Derived.Test.YteablbficakfcaaSame
import Derived.Test.YteablbficakfcaaPick
set_option linter.unusedVariables false
set_option linter.unusedSimpArgs false
set_option linter.unusedSectionVars false
namespace Go.Pb
open Go.RowKit Go.Proofs Go.BigFrame

theorem sdeed : (Try.prog.info? 53).map (·.size) = some 38 := by kernel_rfl
theorem Owns.grown {α : Type} [Enc α] {w w' : World} {base b : Nat} {e : TypeId} {v : Value} {l : List α} (h : Owns w base e v l) (hg : w.grownBy w' (some b)) (hb : b < base) : Owns w' base e v l :=
  h.keep (Keep.grown hg) (fun i hi e => by have := (h.block i hi).1; omega)
/-- What Items answers. -/
def ItemsCon : Prop := ∀ (x : Value) (b : Nat) (m : List (Key × Place)) (w : World), IxIs w x b m → m.length ≤ 1000000000 →
  Calls Try.prog 29 #[x] w fun e w' => ∃ v L, e = .returned v ∧ Owns w' w.heap.size 42 v L ∧ Tells m L ∧ Below w.heap.size w w'
theorem samei_ok {v1 v2 : Value} {base1 base2 : Nat} (L1 L2 : List Item) (w : World) (h1 : Owns w base1 42 v1 L1) (h2 : Owns w base2 42 v2 L2) (b : Bool) (hb : decide (L1 = L2) = b) :
    Calls Try.prog 31 #[v1, v2] w fun e w' => e = .returned (.bool b) ∧ Below w.heap.size w w' := by
  subst hb
  have l1 := h1.len_max
  have l2 := h2.len_max
  simp only [maxLen] at l1 l2
  obtain ⟨A, c, rfl, hR1, _⟩ := h1.shape
  obtain ⟨B, c2, rfl, hR2, _⟩ := h2.shape
  refine (SameItems_ok A B c c2 L1 L2 w hR1 hR2 (by omega) (by omega)).mono ?_
  rintro e w' ⟨rfl, n, rfl⟩
  exact ⟨rfl, fresh_drewN (fresh_refl w) n⟩

end Go.Pb
