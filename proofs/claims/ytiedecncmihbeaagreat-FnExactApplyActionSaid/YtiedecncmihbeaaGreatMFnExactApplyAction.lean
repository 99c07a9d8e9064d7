/- ApplyAction: the program's and the reference's are one. -/
import Derived.Test.YtiedecncmihbeaaGreatQStepB
set_option linter.unusedSimpArgs false
namespace AT
theorem main_FnExactApplyAction {fu : Nat} (hfu : 2097153 ≤ fu) {x0 : Plan} {x1 : Action} (_ : ok_Plan x0) (_ : ok_Action x1) (b0 : B_Plan x0) (b1 : B_Action x1) : ∃ w, spec_ApplyAction fu x0 x1 = some w ∧ impl_ApplyAction fu x0 x1 = some w ∧ B_Plan w.1 := by
  have hB := planB_of b0
  rw [apply_eq hfu x0 x1 hB (actB_of b1)]
  unfold spec_ApplyAction
  rw [specPlan_eq hfu x0 hB]
  simp only [Option.bind_some]
  cases hp : planOk x0
  · exact ⟨_, rfl, rfl, zeroP_B⟩
  · simp only [Bool.not_true, Bool.false_eq_true, if_false, if_true, l20Apply_eq hfu x0 x1 hB hp (actB_of b1)]
    exact ⟨_, rfl, rfl, act_BP b0 b1 hp⟩
end AT
