/- FnExactIsValidChange, plainly: from what the program's function and the reference's answer. -/
import Derived.Test.YtokhhjepjbhhpaaGreatMFnExactIsValidChange
import Derived.Test.YtokhhjepjbhhpaaGreatH
set_option linter.unusedSimpArgs false
set_option linter.unusedVariables false
namespace AT
theorem FnExactIsValidChange_true (x0 : Change) (o0 : ok_Change x0) : ∃ fu, laws_FnExactIsValidChange fu x0 = some true := by
  obtain ⟨fu, hfu⟩ : ∃ fu, 2097153 ≤ fu := ⟨2097153, Nat.le_refl _⟩
  refine ⟨fu, ?_⟩
  unfold laws_FnExactIsValidChange
  obtain ⟨r0, e0, q0⟩ := sz_Change hfu o0 (l := 1048576) (by omega) (by omega)
  simp only [e0, Option.bind_some]
  by_cases n0 : r0 < 0
  · simp only [n0, decide_true, if_true]
  obtain ⟨b0, l0⟩ := q0 (by omega)
  simp only [n0, decide_false, Bool.false_eq_true, if_false]
  obtain ⟨w, hs, hi⟩ := main_FnExactIsValidChange hfu o0 b0
  simp [Option.bind_some, hs, hi, to_Change hfu b0, eq_Change hfu b0, @eq_Block fu hfu _ trivial, @eq_Fiber fu hfu _ trivial, @eq_Item fu hfu _ trivial, @to_Block fu hfu _ trivial, @to_Fiber fu hfu _ trivial]
end AT
