/- IsCompact: the program's and the reference's are one. -/
import Derived.Test.YtokhhjepjbhhpaaGreatQDefr
import Derived.Test.YtokhhjepjbhhpaaGreatH
set_option linter.unusedSimpArgs false
namespace AT
theorem main_FnExactIsCompact {fu : Nat} (hfu : 2097153 ≤ fu) {x0 : Plan} {x1 : Bool} (_ : ok_Plan x0) (_ : ok_Bool x1) (b0 : B_Plan x0) : ∃ w, spec_IsCompact fu x0 x1 = some w ∧ impl_IsCompact fu x0 x1 = some w := by
  have hB : PlanB x0 := ⟨⟨b0.1.1, b0.1.2.1⟩, b0.2.1, fun x hx => (b0.2.2 x hx).1.1⟩
  unfold spec_IsCompact impl_IsCompact
  rw [specPlan_eq hfu x0 hB, implPlan_eq hfu x0 hB]
  simp only [Option.bind_some]
  cases hp : planOk x0
  · exact ⟨_, rfl, rfl⟩
  · obtain ⟨w, h1, h2, -⟩ := step_both hfu x0 (planG hB hp) x1
    simp only [Bool.not_true, Bool.false_eq_true, if_false, h1, h2, Option.bind_some]
    exact ⟨_, rfl, rfl⟩
end AT
