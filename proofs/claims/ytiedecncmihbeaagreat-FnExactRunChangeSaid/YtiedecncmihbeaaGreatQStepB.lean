/- Sizes of what actions and steps answer, plainly. -/
import Derived.Test.YtiedecncmihbeaaGreatQStepE
import Derived.Test.YtiedecncmihbeaaGreatH
set_option linter.unusedSimpArgs false
set_option linter.unusedVariables false
namespace AT
theorem planB_of {p : Plan} (b : B_Plan p) : PlanB p := ⟨⟨b.1.1, b.1.2.1⟩, b.2.1, fun x hx => (b.2.2 x hx).1.1⟩
theorem actsB_of {l : List Action} (b : B_ActionS l) : ActsB l := ⟨b.1, fun x hx => (b.2 x hx).1.1⟩
theorem actB_of {a : Action} (b : B_Action a) : a.Light.Route.Fibers.length ≤ 2097152 := b.1.1
theorem changeB_of {c : Change} (b : B_Change c) : ChangeB c := ⟨planB_of b.1, actsB_of b.2.1, actsB_of b.2.2⟩
theorem zeroP_B : B_Plan zeroP := by simp [zeroP, B_Plan, B_Network, B_LightS, B_StringS, B_FiberS]
theorem nilA_B : B_ActionS [] := by simp [B_ActionS]
theorem act_BP {p : Plan} {a : Action} (bp : B_Plan p) (ba : B_Action a) (hp : planOk p = true) : B_Plan (act p a).1 := by
  cases h : (act p a).2
  · rw [act_bad h]; exact zeroP_B
  · refine ⟨by rw [act_net h]; exact bp.1, (act_B (planB_of bp) hp (actB_of ba) h).2.1, fun y hy => ?_⟩
    rcases act_mem h y hy with h1 | rfl
    · exact bp.2.2 y h1
    · exact ba
theorem inv_B {p : Plan} {a : Action} (bp : B_Plan p) (ba : B_Action a) (h : (act p a).2 = true) : B_Action (inv p a) := by
  unfold inv
  split
  · exact ba
  · split
    · exact ba
    · rename_i k1 k2
      have k3 : a.Kind = 3 := by
        unfold act at h
        rw [if_neg k1, if_neg k2] at h
        by_cases k : a.Kind = 3
        · exact k
        · rw [if_neg k] at h; cases h
      exact bp.2.2 _ (gd_mem l0 (atId_lt (act_move k3 h).1))
theorem step_BC {c : Change} (h : ChF c) (b : B_Change c) : B_Change (step c) := by
  obtain ⟨P, A, U, k⟩ := c
  obtain ⟨b1, b2, b3⟩ := b
  have h1 := h.ok
  have h5 := h.len
  simp only at b1 b2 b3 h1 h5
  cases k with
  | false =>
    cases A with
    | nil => exact ⟨b1, b2, b3⟩
    | cons a l =>
      have ba := b2.2 a (by simp)
      simp only [List.length_cons] at h5
      show B_Change (if (act P a).2 = true then ⟨(act P a).1, l, inv P a :: U, false⟩ else ⟨P, [], U, true⟩)
      by_cases g : (act P a).2 = true
      · rw [if_pos g]
        refine ⟨act_BP b1 ba h1, ⟨(by show l.length ≤ 2097152; omega), fun x hx => b2.2 x (by simp [hx])⟩, (by show (inv P a :: U).length ≤ 2097152; rw [List.length_cons]; omega), fun x hx => ?_⟩
        rcases List.mem_cons.1 hx with rfl | hx
        · exact inv_B b1 ba g
        · exact b3.2 x hx
      · rw [if_neg g]
        exact ⟨b1, nilA_B, b3⟩
  | true =>
    cases U with
    | nil => exact ⟨b1, b2, b3⟩
    | cons a u =>
      have ba := b3.2 a (by simp)
      simp only [List.length_cons] at h5
      show B_Change ⟨(act P a).1, A, u, true⟩
      exact ⟨act_BP b1 ba h1, b2, (by show u.length ≤ 2097152; omega), fun x hx => b3.2 x (by simp [hx])⟩
end AT
