/- DefragStep: the program's and the reference's are one. -/
import Derived.Test.YtokhhjepjbhhpaaGreatQDefr
import Derived.Test.YtokhhjepjbhhpaaGreatH
set_option linter.unusedSimpArgs false
namespace AT
theorem B_setF {p : Plan} (b : B_Plan p) {i : Nat} (hi : i < p.Lights.length) (r : Int) : B_Plan (setF p i r) := by
  refine ⟨b.1, by simp only [setF, List.length_set]; exact b.2.1, fun x hx => ?_⟩
  rcases List.mem_or_eq_of_mem_set hx with h | rfl
  · exact b.2.2 x h
  · have := b.2.2 _ (gd_mem l0 hi)
    exact this
theorem main_FnExactDefragStep {fu : Nat} (hfu : 2097153 ≤ fu) {x0 : Plan} {x1 : Bool} (_ : ok_Plan x0) (_ : ok_Bool x1) (b0 : B_Plan x0) : ∃ w, spec_DefragStep fu x0 x1 = some w ∧ impl_DefragStep fu x0 x1 = some w ∧ B_Plan w.1 := by
  have hB : PlanB x0 := ⟨⟨b0.1.1, b0.1.2.1⟩, b0.2.1, fun x hx => (b0.2.2 x hx).1.1⟩
  unfold spec_DefragStep impl_DefragStep
  rw [specPlan_eq hfu x0 hB, implPlan_eq hfu x0 hB]
  simp only [Option.bind_some]
  cases hp : planOk x0
  · refine ⟨_, rfl, rfl, ?_⟩
    simp [B_Plan, B_Network, B_LightS, B_StringS, B_FiberS]
  · obtain ⟨w, h1, h2, h3⟩ := step_both hfu x0 (planG hB hp) x1
    simp only [Bool.not_true, Bool.false_eq_true, if_false, h1, h2, Option.bind_some]
    refine ⟨_, rfl, rfl, ?_⟩
    rcases h3 with rfl | ⟨j, r, hj, -, -, rfl⟩
    · exact b0
    · exact B_setF b0 hj r
end AT
