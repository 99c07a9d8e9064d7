/- The lowest place of a light, plainly. -/
import Derived.Test.YtokhhjepjbhhpaaGreatQMask
set_option linter.unusedSimpArgs false
set_option linter.unusedVariables false
namespace AT
/-! ### Copies -/
theorem app_nil {α : Type} {l : List α} (h : l.length ≤ 1099511627776) : app ([] : List α) l = some l := by rw [app_ok (by simpa using h)]; rfl
theorem l9Copy_eq (fu : Nat) (x : Light) (h : x.Route.Fibers.length ≤ 2097152) : spec_l9Copy fu x = some x := by
  unfold spec_l9Copy spec_l4Own spec_l1Own
  rw [app_nil (by omega)]
  rfl
structure PlanI (p : Plan) : Prop where
  ids : ∀ i j, i < j → j < p.Lights.length → (gd p.Lights i l0).Id < (gd p.Lights j l0).Id
end AT

