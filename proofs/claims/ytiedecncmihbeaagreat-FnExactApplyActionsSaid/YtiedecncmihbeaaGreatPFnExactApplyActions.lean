/- FnExactApplyActions, plainly: from what the program's function and the reference's answer. -/
import Derived.Test.YtiedecncmihbeaaGreatMFnExactApplyActions
import Derived.Test.YtiedecncmihbeaaGreatH
set_option linter.unusedSimpArgs false
set_option linter.unusedVariables false
namespace AT
theorem FnExactApplyActions_true (x0 : Plan) (x1 : List Action) (o0 : ok_Plan x0) (o1 : ok_ActionS x1) : ∃ fu, laws_FnExactApplyActions fu x0 x1 = some true := by
  obtain ⟨fu, hfu⟩ : ∃ fu, 2097153 ≤ fu := ⟨2097153, Nat.le_refl _⟩
  refine ⟨fu, ?_⟩
  unfold laws_FnExactApplyActions
  obtain ⟨r0, e0, q0⟩ := sz_Plan hfu o0 (l := 1048576) (by omega) (by omega)
  simp only [e0, Option.bind_some]
  by_cases n0 : r0 < 0
  · simp only [n0, decide_true, if_true]
  obtain ⟨b0, l0⟩ := q0 (by omega)
  simp only [n0, decide_false, Bool.false_eq_true, if_false]
  obtain ⟨r1, e1, q1⟩ := sz_ActionS hfu o1 (l := r0) (by omega) (by omega)
  simp only [e1, Option.bind_some]
  by_cases n1 : r1 < 0
  · simp only [n1, decide_true, if_true]
  obtain ⟨b1, l1⟩ := q1 (by omega)
  simp only [n1, decide_false, Bool.false_eq_true, if_false]
  obtain ⟨w, hs, hi, w0⟩ := main_FnExactApplyActions hfu o0 o1 b0 b1
  obtain ⟨k0, z0_0, z0_1, z0_2, m0, d0, u0, v0⟩ := mk_Plan hfu b0 (k := 1) (by omega) (by omega)
  have f0 : ¬ k0 < 0 := by omega
  obtain ⟨k1, z1_0, m1, u1, v1⟩ := mo_ActionS hfu b1 (k := k0) (by omega) (by omega)
  have f1 : ¬ k1 < 0 := by omega
  obtain ⟨k2, z2_0, z2_1, z2_2, m2, d2, u2, v2⟩ := mk_Plan hfu w0 (k := 1) (by omega) (by omega)
  have f2 : ¬ k2 < 0 := by omega
  simp [Option.bind_some, hs, hi, to_Plan hfu b0, eq_Plan hfu b0, to_ActionS hfu b1, eq_ActionS hfu b1, @eq_Block fu hfu _ trivial, @eq_Fiber fu hfu _ trivial, @to_Block fu hfu _ trivial, @to_Fiber fu hfu _ trivial, eq_Plan hfu w0, m0, f0, d0, m1, f1, m2, d2, f2]
end AT
