/- Copies of actions, plainly. -/
import Derived.Test.YtiedecncmihbeaaGreatQDefr
set_option linter.unusedSimpArgs false
set_option linter.unusedVariables false
namespace AT
/-- What is known of actions by their size alone. -/
def ActsB (l : List Action) : Prop := l.length ≤ 2097152 ∧ ∀ a ∈ l, a.Light.Route.Fibers.length ≤ 2097152
theorem copyLight_eq (fu : Nat) (x : Light) (h : x.Route.Fibers.length ≤ 2097152) : impl_copyLight fu x = some x := by
  unfold impl_copyLight
  rw [copyRoute_eq fu _ h]
  rfl
end AT

