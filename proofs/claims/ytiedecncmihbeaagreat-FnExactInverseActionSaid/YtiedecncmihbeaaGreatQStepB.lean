/- Sizes of what actions and steps answer, plainly. -/
import Derived.Test.YtiedecncmihbeaaGreatQInv
import Derived.Test.YtiedecncmihbeaaGreatH
set_option linter.unusedSimpArgs false
set_option linter.unusedVariables false
namespace AT
theorem planB_of {p : Plan} (b : B_Plan p) : PlanB p := ⟨⟨b.1.1, b.1.2.1⟩, b.2.1, fun x hx => (b.2.2 x hx).1.1⟩
theorem actB_of {a : Action} (b : B_Action a) : a.Light.Route.Fibers.length ≤ 2097152 := b.1.1
theorem inv_B {p : Plan} {a : Action} (bp : B_Plan p) (ba : B_Action a) (h : (act p a).2 = true) : B_Action (inv p a) := by
  unfold inv
  split
  · exact ba
  · split
    · exact ba
    · rename_i k1 k2
      have k3 : a.Kind = 3 := by
        unfold act at h
        rw [if_neg k1, if_neg k2] at h
        by_cases k : a.Kind = 3
        · exact k
        · rw [if_neg k] at h; cases h
      exact bp.2.2 _ (gd_mem l0 (atId_lt (act_move k3 h).1))
end AT

