/- StepChange: the program's and the reference's are one. -/
import Derived.Test.YtiedecncmihbeaaGreatQStepE
import Derived.Test.YtiedecncmihbeaaGreatQStepB
set_option linter.unusedSimpArgs false
set_option linter.unusedVariables false
namespace AT
theorem main_FnExactStepChange {fu : Nat} (hfu : 2097153 ≤ fu) {x0 : Change} (_ : ok_Change x0) (b0 : B_Change x0) : ∃ w, spec_StepChange fu x0 = some w ∧ impl_StepChange fu x0 = some w ∧ B_Change w.1 := by
  have hB := changeB_of b0
  have nil : B_Change ⟨⟨⟨[], []⟩, []⟩, [], [], false⟩ := by simp [B_Change, B_Plan, B_Network, B_LightS, B_StringS, B_FiberS, B_ActionS]
  unfold spec_StepChange impl_StepChange
  rw [l20Good_eq hfu x0 hB, isValidChange_eq hfu x0 hB]
  simp only [Option.bind_some]
  cases hc : changeOk x0
  · exact ⟨_, rfl, rfl, nil⟩
  · have h := chF hB hc
    simp only [Bool.not_true, Bool.false_eq_true, if_false, stepped_eq hfu h, l20Step_eq hfu h, stateOf_eq, l20State_eq, Option.bind_some]
    exact ⟨_, rfl, rfl, step_BC h b0⟩
end AT
