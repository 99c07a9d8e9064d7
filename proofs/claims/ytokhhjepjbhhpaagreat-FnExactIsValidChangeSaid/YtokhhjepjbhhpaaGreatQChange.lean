/- Copies of actions, plainly. -/
import Derived.Test.YtokhhjepjbhhpaaGreatQDefr
set_option linter.unusedSimpArgs false
set_option linter.unusedVariables false
namespace AT
/-- What is known of actions by their size alone. -/
def ActsB (l : List Action) : Prop := l.length ≤ 2097152 ∧ ∀ a ∈ l, a.Light.Route.Fibers.length ≤ 2097152
end AT

