/- Sizes of what actions and steps answer, plainly. -/
import Derived.Test.YtiedecncmihbeaaGreatQInv
import Derived.Test.YtiedecncmihbeaaGreatH
set_option linter.unusedSimpArgs false
set_option linter.unusedVariables false
namespace AT
theorem planB_of {p : Plan} (b : B_Plan p) : PlanB p := ⟨⟨b.1.1, b.1.2.1⟩, b.2.1, fun x hx => (b.2.2 x hx).1.1⟩
theorem actB_of {a : Action} (b : B_Action a) : a.Light.Route.Fibers.length ≤ 2097152 := b.1.1
theorem zeroP_B : B_Plan zeroP := by simp [zeroP, B_Plan, B_Network, B_LightS, B_StringS, B_FiberS]
theorem act_BP {p : Plan} {a : Action} (bp : B_Plan p) (ba : B_Action a) (hp : planOk p = true) : B_Plan (act p a).1 := by
  cases h : (act p a).2
  · rw [act_bad h]; exact zeroP_B
  · refine ⟨by rw [act_net h]; exact bp.1, (act_B (planB_of bp) hp (actB_of ba) h).2.1, fun y hy => ?_⟩
    rcases act_mem h y hy with h1 | rfl
    · exact bp.2.2 y h1
    · exact ba
end AT

