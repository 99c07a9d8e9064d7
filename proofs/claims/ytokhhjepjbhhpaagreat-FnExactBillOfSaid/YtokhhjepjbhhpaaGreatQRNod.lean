/- The nodes of a route, as both tell them. -/
import Derived.Test.YtokhhjepjbhhpaaGreatQRoute
set_option linter.unusedSimpArgs false
set_option linter.unusedVariables false
namespace AT
theorem l4Nodes_eq {fu : Nat} (hfu : 2097153 ≤ fu) (n : Network) (r : Route) (hB : NetB n) (hr : r.Fibers.length ≤ 2097152) {o : List Int} (ho : rnodes n r = some o) : spec_l4Nodes fu n r = some o := by
  unfold spec_l4Nodes
  obtain ⟨o', h⟩ := walk_eq hfu n r hB.2 hB.1.1 hr
  rw [h, ho]; rfl
end AT
