/- Copies of plans, and the step that moves the first light that can be moved, plainly. -/
import Derived.Test.YtokhhjepjbhhpaaGreatQLowB
set_option linter.unusedSimpArgs false
set_option linter.unusedVariables false
namespace AT
/-! ### Copies -/
theorem copyRoute_eq (fu : Nat) (r : Route) (h : r.Fibers.length ≤ 2097152) : impl_copyRoute fu r = some r := by
  unfold impl_copyRoute
  rw [app_nil (by omega)]
  rfl
structure PlanG (p : Plan) : Prop where
  b : PlanB p
  f : PlanF p
  i : PlanI p
end AT

