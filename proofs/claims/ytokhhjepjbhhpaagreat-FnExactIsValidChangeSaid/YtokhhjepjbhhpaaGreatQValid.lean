/- Valid changes, plainly. -/
import Derived.Test.YtokhhjepjbhhpaaGreatQActs
set_option linter.unusedSimpArgs false
set_option linter.unusedVariables false
namespace AT
def ChangeB (c : Change) : Prop := PlanB c.Plan ∧ ActsB c.Actions ∧ ActsB c.Undo
def changeOk (c : Change) : Bool := planOk c.Plan && (decide (c.Actions.length + c.Undo.length ≤ 8) && (!(c.Back && decide (0 < c.Actions.length)) && decide ((acts c.Undo c.Plan).2 = c.Undo.length)))
theorem l20Good_eq {fu : Nat} (hfu : 2097153 ≤ fu) (c : Change) (hB : ChangeB c) : spec_l20Good fu c = some (changeOk c) := by
  obtain ⟨h1, h2, h3⟩ := hB
  have l2 := h2.1
  have l3 := h3.1
  unfold spec_l20Good changeOk
  rw [specPlan_eq hfu _ h1]
  simp only [Option.bind_some]
  cases hp : planOk c.Plan
  · rfl
  · have hw : decide (w64 ((c.Actions.length : Int) + (c.Undo.length : Int)) > 8) = !decide (c.Actions.length + c.Undo.length ≤ 8) := by
      rw [w64_in (by omega) (by omega), ← decide_not]
      simp only [decide_eq_decide]
      omega
    have h0 : decide ((c.Actions.length : Int) > 0) = decide (0 < c.Actions.length) := by simp only [decide_eq_decide]; omega
    have hn : (((acts c.Undo c.Plan).2 : Int) == (c.Undo.length : Int)) = decide ((acts c.Undo c.Plan).2 = c.Undo.length) := by
      rw [Bool.eq_iff_iff, beq_iff_eq, decide_eq_true_eq]
      omega
    simp only [hw, h0, l20All_eq hfu _ _ h3 hp h1, hn, Bool.not_true, Bool.false_eq_true, if_false, Bool.true_and]
    cases decide (c.Actions.length + c.Undo.length ≤ 8) <;> cases c.Back <;> cases decide (0 < c.Actions.length) <;> simp [hn]
theorem isValidChange_eq {fu : Nat} (hfu : 2097153 ≤ fu) (c : Change) (hB : ChangeB c) : impl_IsValidChange fu c = some (changeOk c) := by
  obtain ⟨h1, h2, h3⟩ := hB
  have l2 := h2.1
  have l3 := h3.1
  unfold impl_IsValidChange changeOk
  rw [implPlan_eq hfu _ h1]
  simp only [Option.bind_some]
  cases hp : planOk c.Plan
  · rfl
  · have hw : decide (w64 ((c.Actions.length : Int) + (c.Undo.length : Int)) > 8) = !decide (c.Actions.length + c.Undo.length ≤ 8) := by
      rw [w64_in (by omega) (by omega), ← decide_not]
      simp only [decide_eq_decide]
      omega
    have h0 : decide ((c.Actions.length : Int) > 0) = decide (0 < c.Actions.length) := by simp only [decide_eq_decide]; omega
    have hn : (((acts c.Undo c.Plan).2 : Int) == (c.Undo.length : Int)) = decide ((acts c.Undo c.Plan).2 = c.Undo.length) := by
      rw [Bool.eq_iff_iff, beq_iff_eq, decide_eq_true_eq]
      omega
    simp only [hw, h0, applied_eq hfu _ _ h3 hp h1, hn, Bool.not_true, Bool.false_eq_true, if_false, Bool.true_and]
    cases decide (c.Actions.length + c.Undo.length ≤ 8) <;> cases c.Back <;> cases decide (0 < c.Actions.length) <;> simp [hn]
end AT

