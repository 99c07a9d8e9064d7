/- The program's and the reference's inverse of an action are one. -/
import Derived.Test.YtiedecncmihbeaaGreatQInv
set_option linter.unusedSimpArgs false
set_option linter.unusedVariables false
namespace AT
theorem act_kind {p : Plan} {a : Action} (h : (act p a).2 = true) (k1 : ¬a.Kind = 1) (k2 : ¬a.Kind = 2) : a.Kind = 3 := by
  unfold act at h
  rw [if_neg k1, if_neg k2] at h
  by_cases k : a.Kind = 3
  · exact k
  · rw [if_neg k] at h; cases h
theorem l20Inverse_eq {fu : Nat} (hfu : 2097153 ≤ fu) (p : Plan) (a : Action) (hB : PlanB p) (ha : a.Light.Route.Fibers.length ≤ 2097152) (h : (act p a).2 = true) : spec_l20Inverse fu p a = some (inv p a) := by
  have hl := hB.2.1
  unfold spec_l20Inverse inv
  by_cases k1 : a.Kind = 1
  · simp only [k1, beq_self_eq_true, if_true, l9Copy_eq fu _ ha, Option.bind_some]
  · have e1 : (a.Kind == 1) = false := by rw [beq_eq_false_iff_ne]; exact k1
    rw [e1, if_neg Bool.false_ne_true, if_neg k1]
    by_cases k2 : a.Kind = 2
    · simp only [k2, beq_self_eq_true, if_true, l9Copy_eq fu _ ha, Option.bind_some]
    · have e2 : (a.Kind == 2) = false := by rw [beq_eq_false_iff_ne]; exact k2
      rw [e2, if_neg Bool.false_ne_true, if_neg k2]
      obtain ⟨g1, g2, g3⟩ := act_move (act_kind h k1 k2) h
      have hi := atId_lt g1
      have g1' : (p.Lights.any fun y => y.Id == a.Light.Id) = true := g1
      rw [l9Find_eq p _ (by omega) hl]
      simp only [g1', if_true, Option.bind_some, idx_gd l0 hi, l9Copy_eq fu _ (hB.2.2 _ (gd_mem l0 hi))]
def zeroA : Action := ⟨0, ⟨0, ⟨0, []⟩, ⟨0, 0⟩⟩⟩
theorem inverse_eq {fu : Nat} (hfu : 2097153 ≤ fu) (p : Plan) (a : Action) (hB : PlanB p) (ha : a.Light.Route.Fibers.length ≤ 2097152) : impl_InverseAction fu p a = some (if planOk p = true ∧ (act p a).2 = true then (inv p a, true) else (zeroA, false)) := by
  have hl := hB.2.1
  unfold impl_InverseAction
  rw [apply_eq hfu p a hB ha]
  cases hp : planOk p
  · rfl
  cases h : (act p a).2
  · simp only [Option.bind_some, if_true, h, Bool.not_false, Bool.false_eq_true, and_false, if_false]
    rfl
  simp only [Option.bind_some, if_true, h, Bool.not_true, Bool.false_eq_true, if_false, and_self]
  unfold inv
  by_cases k1 : a.Kind = 1
  · simp only [k1, beq_self_eq_true, if_true, copyLight_eq fu _ ha, Option.bind_some]
  · have e1 : (a.Kind == 1) = false := by rw [beq_eq_false_iff_ne]; exact k1
    rw [e1, if_neg Bool.false_ne_true, if_neg k1]
    by_cases k2 : a.Kind = 2
    · simp only [k2, beq_self_eq_true, if_true, copyLight_eq fu _ ha, Option.bind_some]
    · have e2 : (a.Kind == 2) = false := by rw [beq_eq_false_iff_ne]; exact k2
      rw [e2, if_neg Bool.false_ne_true, if_neg k2]
      obtain ⟨g1, g2, g3⟩ := act_move (act_kind h k1 k2) h
      have hi := atId_lt g1
      have g1' : (p.Lights.any fun y => y.Id == a.Light.Id) = true := g1
      rw [lightAt_eq p _ (by omega) hl]
      simp only [g1', if_true, Option.bind_some, idx_gd l0 hi, copyLight_eq fu _ (hB.2.2 _ (gd_mem l0 hi))]
end AT

