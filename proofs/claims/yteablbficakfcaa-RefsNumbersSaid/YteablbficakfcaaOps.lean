/- Plain operations, each by a law of its own: cheap in great frames. Nothing here names the program. -/
import Derived.Test.YteablbficakfcaaHeld
set_option linter.unusedVariables false
set_option linter.unusedSimpArgs false
set_option linter.unusedSectionVars false
namespace Go.Pb
open Go.RowKit

section
variable {P : Program} {o : Oper} {ρ : Operand → Value} {w : World}
theorem op_move (x : Operand) (v : Value) (ho : o.op = .move x) (hx : ρ x = v) : (execOp ρ o).run P w = .ok (.value v) w := by
  unfold execOp
  simp only [ho, hx, Sem.run_pure]
theorem op_assign (x : Operand) (v : Value) (ho : o.op = .assign x) (hx : ρ x = v) : (execOp ρ o).run P w = .ok (.value v) w := by
  unfold execOp
  simp only [ho, hx, Sem.run_pure]
theorem op_pick_t (c x y : Operand) (v : Value) (ho : o.op = .pick c x y) (hc : ρ c = .bool true) (hx : ρ x = v) : (execOp ρ o).run P w = .ok (.value v) w := by
  unfold execOp
  simp [ho, hc, hx, asBool, Result.andThen]
theorem op_pick_f (c x y : Operand) (v : Value) (ho : o.op = .pick c x y) (hc : ρ c = .bool false) (hy : ρ y = v) : (execOp ρ o).run P w = .ok (.value v) w := by
  unfold execOp
  simp [ho, hc, hy, asBool, Result.andThen]
theorem op_not (x : Operand) (t : TypeId) (b r : Bool) (ho : o.op = .unOp .not t x) (hx : ρ x = .bool b) (hr : (!b) = r) : (execOp ρ o).run P w = .ok (.value (.bool r)) w := by
  subst hr
  unfold execOp
  simp [ho, hx, go_sem, Result.andThen]
theorem op_lenS (x : Operand) (t e : TypeId) (A : Option Addr) (n c : Nat) (ho : o.op = .call { callee := .builtin .len, args := #[x], argTypes := #[t] }) (ht : P.underlying t = some (.slice e)) (hx : ρ x = .slice A n c) : (execOp ρ o).run P w = .ok (.value (.int .i64 (n : Int))) w := by
  unfold execOp
  simp [ho, hx, resolve, invoke, builtin, Builtin.len_, Builtin.lenOf, go_sem, Result.andThen, run_underlying ht]
theorem op_lss64 (x y : Operand) (t ty : TypeId) (a b : Int) (r : Bool) (ho : o.op = .binOp .lss t x y ty) (hx : ρ x = .int .i64 a) (hy : ρ y = .int .i64 b) (hr : decide (a < b) = r) : (execOp ρ o).run P w = .ok (.value (.bool r)) w := by
  subst hr
  unfold execOp
  simp [ho, hx, hy, go_sem, Result.andThen]
theorem op_geq64 (x y : Operand) (t ty : TypeId) (a b : Int) (r : Bool) (ho : o.op = .binOp .geq t x y ty) (hx : ρ x = .int .i64 a) (hy : ρ y = .int .i64 b) (hr : decide (b ≤ a) = r) : (execOp ρ o).run P w = .ok (.value (.bool r)) w := by
  subst hr
  unfold execOp
  simp [ho, hx, hy, go_sem, Result.andThen]
theorem op_gtr64 (x y : Operand) (t ty : TypeId) (a b : Int) (r : Bool) (ho : o.op = .binOp .gtr t x y ty) (hx : ρ x = .int .i64 a) (hy : ρ y = .int .i64 b) (hr : decide (b < a) = r) : (execOp ρ o).run P w = .ok (.value (.bool r)) w := by
  subst hr
  unfold execOp
  simp [ho, hx, hy, go_sem, Result.andThen]
theorem op_leq64 (x y : Operand) (t ty : TypeId) (a b : Int) (r : Bool) (ho : o.op = .binOp .leq t x y ty) (hx : ρ x = .int .i64 a) (hy : ρ y = .int .i64 b) (hr : decide (a ≤ b) = r) : (execOp ρ o).run P w = .ok (.value (.bool r)) w := by
  subst hr
  unfold execOp
  simp [ho, hx, hy, go_sem, Result.andThen]
theorem op_nilck (x : Operand) (a : Addr) (ho : o.op = .nilCheck x) (hx : ρ x = .pointer (some a)) : (execOp ρ o).run P w = .ok (.value (.pointer (some a))) w := by
  unfold execOp
  simp [ho, hx]
end
end Go.Pb
