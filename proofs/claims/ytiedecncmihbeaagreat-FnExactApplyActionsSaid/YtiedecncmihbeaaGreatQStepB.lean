/- Sizes of what actions and steps answer, plainly. -/
import Derived.Test.YtiedecncmihbeaaGreatQInv
import Derived.Test.YtiedecncmihbeaaGreatH
set_option linter.unusedSimpArgs false
set_option linter.unusedVariables false
namespace AT
theorem planB_of {p : Plan} (b : B_Plan p) : PlanB p := ⟨⟨b.1.1, b.1.2.1⟩, b.2.1, fun x hx => (b.2.2 x hx).1.1⟩
theorem actsB_of {l : List Action} (b : B_ActionS l) : ActsB l := ⟨b.1, fun x hx => (b.2 x hx).1.1⟩
theorem zeroP_B : B_Plan zeroP := by simp [zeroP, B_Plan, B_Network, B_LightS, B_StringS, B_FiberS]
theorem acts_BP {p : Plan} {l : List Action} (bp : B_Plan p) (bl : B_ActionS l) (hp : planOk p = true) : B_Plan (acts l p).1 := by
  obtain ⟨h1, h2, h3, h4⟩ := acts_ok l p hp (planB_of bp) (actsB_of bl).2
  refine ⟨by rw [h3]; exact bp.1, h2.2.1, fun y hy => ?_⟩
  rcases h4 y hy with h5 | ⟨a, ha, rfl⟩
  · exact bp.2.2 y h5
  · exact bl.2 a ha
end AT

