/- FnExactLowestHeight, plainly: from what the program's function and the reference's answer. -/
import Derived.Test.YtmokfdffnijbbaaGreatMFnExactLowestHeight
import Derived.Test.YtmokfdffnijbbaaGreatH
set_option linter.unusedSimpArgs false
set_option linter.unusedVariables false
namespace AT
theorem FnExactLowestHeight_true (x0 : Plan) (o0 : ok_Plan x0) : ∃ fu, laws_FnExactLowestHeight fu x0 = some true := by
  obtain ⟨fu, hfu4⟩ : ∃ fu, 4194304 ≤ fu := ⟨4194304, Nat.le_refl _⟩
  have hfu : 2097153 ≤ fu := by omega
  refine ⟨fu, ?_⟩
  unfold laws_FnExactLowestHeight
  obtain ⟨r0, e0, q0⟩ := sz_Plan hfu o0 (l := 1048576) (by omega) (by omega)
  simp only [e0, Option.bind_some]
  by_cases n0 : r0 < 0
  · simp only [n0, decide_true, if_true]
  obtain ⟨b0, l0⟩ := q0 (by omega)
  simp only [n0, decide_false, Bool.false_eq_true, if_false]
  obtain ⟨w, hs, hi⟩ := main_FnExactLowestHeight hfu4 o0 b0
  simp [Option.bind_some, hs, hi, to_Plan hfu b0, eq_Plan hfu b0, @eq_Block fu hfu _ trivial, @eq_Fiber fu hfu _ trivial, @to_Block fu hfu _ trivial, @to_Fiber fu hfu _ trivial]
end AT
