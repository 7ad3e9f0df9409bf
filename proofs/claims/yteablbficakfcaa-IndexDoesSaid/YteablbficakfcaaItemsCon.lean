/- What Items answers, at the library's sort. -/
import Derived.Test.YteablbficakfcaaIndexBackW
import Derived.Test.YteablbficakfcaaSortItems
set_option linter.unusedVariables false
namespace Go.Pb
theorem itemsCon : ItemsCon := fun x b m w h hl => by
  have hap := MapIs.apart keyCode h.2
  refine (items_of_ok x b m w h hl).mono ?_
  rintro e w' ⟨v, l, rfl, hO, hp, hr, hb⟩
  exact ⟨v, l, rfl, hO, ⟨hp, hr, hap, fun _ => rfl⟩, hb⟩
end Go.Pb
