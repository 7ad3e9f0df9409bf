/- Words on deeds and pointers that IndexOrders and IndexDoes share. -/
import Derived.Test.YteablbficakfcaaIndexBackW
set_option linter.unusedVariables false
set_option linter.unusedSimpArgs false
set_option linter.unusedSectionVars false
namespace Go.Pb
open Go.RowKit Go.Proofs Go.BigFrame

abbrev setV : Unit → Value := fun _ => .bool true
def Deed.zero : Deed := ⟨0, Key.zero, Place.zero, 0⟩
theorem info53 : (Try.prog.info? 53).map (fun i => (i.zero, i.size, i.bytes)) = some (some (agg Deed.zero), 38, 80) := by kernel_rfl
theorem zero53 : (Try.prog.info? 53).map (·.zero) = some (some (agg Deed.zero)) := by kernel_rfl
theorem load_deed {o : Oper} {ρ : Operand → Value} {w : World} {x : Operand} {b f : Nat} (ho : o.op = .load 53 x) (hx : ρ x = .pointer (some ⟨b, f, none⟩)) (z : Deed) (hc : w.rangeAt b f (Enc.enc z)) : (execOp ρ o).run Try.prog w = .ok (.value (agg z)) w :=
  run_load 53 x ho hx z hc _ Try.underlying53 rfl sdeed
theorem zbv (w : World) : (zeroValue 4).run Try.prog w = .ok (.bool false) w := by
  obtain ⟨i, hi, hz⟩ := Option.map_eq_some_iff.1 zbool
  simp [zeroValue, typeInfo, hi, hz]
theorem look_set {K : Type} [DecidableEq K] (m : List (K × Unit)) (k : K) : (look m k).elim (.bool false) setV = .bool (look m k).isSome := by cases look m k <;> rfl

theorem ptr_inj {a b : Nat} (h : Value.pointer (some ⟨a, 0, none⟩) = .pointer (some ⟨b, 0, none⟩)) : a = b := by simpa using h
end Go.Pb
