/- Sums of numbers as one step each. Nothing here names the program. -/
import Derived.Test.YteablbficakfcaaSteps
import Derived.IntWalk
set_option linter.unusedVariables false
set_option linter.unusedSimpArgs false
set_option linter.unusedSectionVars false
namespace Go.Pb
open Go.RowKit

theorem wrap_in {a : Int} (h1 : -9223372036854775808 ≤ a) (h2 : a ≤ 9223372036854775807) : IntKind.i64.wrap a = a := IntWalk.i64_in a ⟨h1, h2⟩
section
variable {P : Program} {o : Oper} {ρ : Operand → Value} {w : World}
theorem op_sub64 (t ty : TypeId) (x y : Operand) (a b c : Int) (ho : o.op = .binOp .sub t x y ty) (hx : ρ x = .int .i64 a) (hy : ρ y = .int .i64 b) (hc : IntKind.i64.wrap (a - b) = c) : (execOp ρ o).run P w = .ok (.value (.int .i64 c)) w := by
  subst hc
  unfold execOp
  simp [ho, hx, hy, go_sem]
theorem op_add64 (t ty : TypeId) (x y : Operand) (a b c : Int) (ho : o.op = .binOp .add t x y ty) (hx : ρ x = .int .i64 a) (hy : ρ y = .int .i64 b) (hc : IntKind.i64.wrap (a + b) = c) : (execOp ρ o).run P w = .ok (.value (.int .i64 c)) w := by
  subst hc
  unfold execOp
  simp [ho, hx, hy, go_sem]
end
end Go.Pb
