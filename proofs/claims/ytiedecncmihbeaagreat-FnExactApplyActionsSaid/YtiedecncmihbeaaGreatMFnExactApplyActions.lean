/- ApplyActions: the program's and the reference's are one. -/
import Derived.Test.YtiedecncmihbeaaGreatQStepB
set_option linter.unusedSimpArgs false
namespace AT
theorem main_FnExactApplyActions {fu : Nat} (hfu : 2097153 ≤ fu) {x0 : Plan} {x1 : List Action} (_ : ok_Plan x0) (_ : ok_ActionS x1) (b0 : B_Plan x0) (b1 : B_ActionS x1) : ∃ w, spec_ApplyActions fu x0 x1 = some w ∧ impl_ApplyActions fu x0 x1 = some w ∧ B_Plan w.1 := by
  have hB := planB_of b0
  have hA := actsB_of b1
  unfold spec_ApplyActions impl_ApplyActions
  rw [specPlan_eq hfu x0 hB, implPlan_eq hfu x0 hB]
  simp only [Option.bind_some]
  cases hp : planOk x0
  · exact ⟨_, rfl, rfl, zeroP_B⟩
  · by_cases h : (x1.length : Int) > 8
    · simp only [Bool.not_true, Bool.false_eq_true, if_false, h, decide_true, Option.bind_some, if_true]
      exact ⟨_, rfl, rfl, zeroP_B⟩
    · simp only [Bool.not_true, Bool.false_eq_true, if_false, h, decide_false, Option.bind_some, l20All_eq hfu x0 x1 hA hp hB, applied_eq hfu x0 x1 hA hp hB, l9Own_eq hfu x0 hB, copyPlan_eq hfu x0 hB]
      by_cases g : (((acts x1 x0).2 : Nat) : Int) < (x1.length : Int)
      · simp only [g, decide_true, if_true, Option.bind_some]
        exact ⟨_, rfl, rfl, b0⟩
      · simp only [g, decide_false, Bool.false_eq_true, if_false, Option.bind_some]
        exact ⟨_, rfl, rfl, acts_BP b0 b1 hp⟩
end AT
