/- InverseAction: the program's and the reference's are one. -/
import Derived.Test.YtiedecncmihbeaaGreatQStepB
import Derived.Test.YtiedecncmihbeaaGreatQInvF
set_option linter.unusedSimpArgs false
namespace AT
theorem main_FnExactInverseAction {fu : Nat} (hfu : 2097153 ≤ fu) {x0 : Plan} {x1 : Action} (_ : ok_Plan x0) (_ : ok_Action x1) (b0 : B_Plan x0) (b1 : B_Action x1) : ∃ w, spec_InverseAction fu x0 x1 = some w ∧ impl_InverseAction fu x0 x1 = some w ∧ B_Action w.1 := by
  have hB := planB_of b0
  have hA := actB_of b1
  have zB : B_Action zeroA := by simp [zeroA, B_Action, B_Light, B_Route, B_Block, B_IntS]
  rw [inverse_eq hfu x0 x1 hB hA]
  unfold spec_InverseAction spec_ApplyAction
  rw [specPlan_eq hfu x0 hB]
  simp only [Option.bind_some]
  cases hp : planOk x0
  · exact ⟨_, rfl, rfl, zB⟩
  · simp only [Bool.not_true, Bool.false_eq_true, if_false, l20Apply_eq hfu x0 x1 hB hp hA, Option.bind_some]
    cases h : (act x0 x1).2
    · exact ⟨_, rfl, rfl, zB⟩
    · simp only [Bool.not_true, Bool.false_eq_true, if_false, l20Inverse_eq hfu x0 x1 hB hA h, Option.bind_some]
      exact ⟨_, rfl, rfl, inv_B b0 b1 h⟩
end AT
