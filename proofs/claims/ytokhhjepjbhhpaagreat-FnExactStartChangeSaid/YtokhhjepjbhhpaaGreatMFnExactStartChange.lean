/- StartChange: the program's and the reference's are one. -/
import Derived.Test.YtokhhjepjbhhpaaGreatQChange
import Derived.Test.YtokhhjepjbhhpaaGreatH
set_option linter.unusedSimpArgs false
namespace AT
theorem main_FnExactStartChange {fu : Nat} (hfu : 2097153 ≤ fu) {x0 : Plan} {x1 : List Action} (_ : ok_Plan x0) (_ : ok_ActionS x1) (b0 : B_Plan x0) (b1 : B_ActionS x1) : ∃ w, spec_StartChange fu x0 x1 = some w ∧ impl_StartChange fu x0 x1 = some w ∧ B_Change w.1 := by
  have hB : PlanB x0 := ⟨⟨b0.1.1, b0.1.2.1⟩, b0.2.1, fun x hx => (b0.2.2 x hx).1.1⟩
  have hA : ActsB x1 := ⟨b1.1, fun x hx => (b1.2 x hx).1.1⟩
  have nil : B_Change ⟨⟨⟨[], []⟩, []⟩, [], [], false⟩ := by simp [B_Change, B_Plan, B_Network, B_LightS, B_StringS, B_FiberS, B_ActionS]
  unfold spec_StartChange impl_StartChange
  rw [specPlan_eq hfu x0 hB, implPlan_eq hfu x0 hB]
  simp only [Option.bind_some]
  cases hp : planOk x0
  · exact ⟨_, rfl, rfl, nil⟩
  · by_cases h : (x1.length : Int) > 8
    · simp only [Bool.not_true, Bool.false_eq_true, if_false, h, decide_true, Option.bind_some, if_true]
      exact ⟨_, rfl, rfl, nil⟩
    · simp only [Bool.not_true, Bool.false_eq_true, if_false, h, decide_false, Option.bind_some, l9Own_eq hfu x0 hB, l20Copies_eq hfu x1 hA, copyChange_eq hfu ⟨x0, x1, [], false⟩ hB hA ⟨by simp, by simp⟩]
      refine ⟨_, rfl, rfl, b0, b1, ?_⟩
      simp [B_ActionS]
end AT
