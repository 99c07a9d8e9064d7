/- Valid changes, plainly. -/
import Derived.Test.YtiedecncmihbeaaGreatQActs
set_option linter.unusedSimpArgs false
set_option linter.unusedVariables false
namespace AT
def ChangeB (c : Change) : Prop := PlanB c.Plan ∧ ActsB c.Actions ∧ ActsB c.Undo
end AT

