/- A number brought into a range. -/
import Derived.Test.YteablbficakfcaaSteps
import Derived.Test.YteablbficakfcaaProg
import Derived.WalkKit
set_option linter.unusedVariables false
set_option linter.unusedSimpArgs false
set_option linter.unusedSectionVars false
namespace Go.Pb
open Go.RowKit Go.Proofs

def pickOf (x n : Int) : Int := if x.tmod n < 0 then x.tmod n + n else x.tmod n
theorem pick_range (x n : Int) (hn : 1 ≤ n) : 0 ≤ pickOf x n ∧ pickOf x n < n := by
  have h1 : x.tmod n < n := Int.tmod_lt_of_pos x (by omega)
  have h2 : -n < x.tmod n := by
    have := Int.tmod_lt_of_pos (-x) (show 0 < n by omega)
    rw [Int.neg_tmod] at this
    omega
  unfold pickOf
  split <;> omega
theorem pick_ok (x n : Int) (w : World) (hn : 1 ≤ n) (hn2 : n ≤ 9000000000000000000) :
    Calls Try.prog 27 #[.int .i64 x, .int .i64 n] w fun e w' => e = .returned (.int .i64 (pickOf x n)) ∧ w = w' := by
  have h1 : x.tmod n < n := Int.tmod_lt_of_pos x (by omega)
  have h2 : -n < x.tmod n := by
    have := Int.tmod_lt_of_pos (-x) (show 0 < n by omega)
    rw [Int.neg_tmod] at this
    omega
  have hne : ¬ n = 0 := by omega
  by_cases h3 : x.tmod n < 0
  · have he : pickOf x n = x.tmod n + n := by unfold pickOf; rw [if_pos h3]
    rw [he]
    go_enter Try.func27, Try.ntmps27
    go_wp2
    go_ret
    exact ⟨rfl, rfl⟩
  · have he : pickOf x n = x.tmod n := by unfold pickOf; rw [if_neg h3]
    rw [he]
    go_enter Try.func27, Try.ntmps27
    go_wp2
    go_ret
    exact ⟨rfl, rfl⟩
end Go.Pb
