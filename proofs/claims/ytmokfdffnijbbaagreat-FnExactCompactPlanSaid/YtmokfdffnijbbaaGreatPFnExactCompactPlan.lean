/- FnExactCompactPlan, plainly: from what the program's function and the reference's answer. -/
import Derived.Test.YtmokfdffnijbbaaGreatMFnExactCompactPlan
import Derived.Test.YtmokfdffnijbbaaGreatH
set_option linter.unusedSimpArgs false
set_option linter.unusedVariables false
namespace AT
theorem FnExactCompactPlan_true (x0 : Plan) (o0 : ok_Plan x0) : ∃ fu, laws_FnExactCompactPlan fu x0 = some true := by
  obtain ⟨fu, hfu4⟩ : ∃ fu, 4194304 ≤ fu := ⟨4194304, Nat.le_refl _⟩
  have hfu : 2097153 ≤ fu := by omega
  refine ⟨fu, ?_⟩
  unfold laws_FnExactCompactPlan
  obtain ⟨r0, e0, q0⟩ := sz_Plan hfu o0 (l := 1048576) (by omega) (by omega)
  simp only [e0, Option.bind_some]
  by_cases n0 : r0 < 0
  · simp only [n0, decide_true, if_true]
  obtain ⟨b0, l0⟩ := q0 (by omega)
  simp only [n0, decide_false, Bool.false_eq_true, if_false]
  obtain ⟨w, hs, hi, w0⟩ := main_FnExactCompactPlan hfu4 o0 b0
  obtain ⟨k0, z0_0, z0_1, z0_2, m0, d0, u0, v0⟩ := mk_Plan hfu b0 (k := 1) (by omega) (by omega)
  have f0 : ¬ k0 < 0 := by omega
  obtain ⟨k1, z1_0, z1_1, z1_2, m1, d1, u1, v1⟩ := mk_Plan hfu w0 (k := 1) (by omega) (by omega)
  have f1 : ¬ k1 < 0 := by omega
  simp [Option.bind_some, hs, hi, to_Plan hfu b0, eq_Plan hfu b0, @eq_Block fu hfu _ trivial, @eq_Fiber fu hfu _ trivial, @to_Block fu hfu _ trivial, @to_Fiber fu hfu _ trivial, eq_Plan hfu w0, m0, f0, d0, m1, d1, f1]
end AT
