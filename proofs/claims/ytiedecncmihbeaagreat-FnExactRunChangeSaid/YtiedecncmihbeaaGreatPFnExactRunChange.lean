/- FnExactRunChange, plainly: from what the program's function and the reference's answer. -/
import Derived.Test.YtiedecncmihbeaaGreatMFnExactRunChange
import Derived.Test.YtiedecncmihbeaaGreatH
set_option linter.unusedSimpArgs false
set_option linter.unusedVariables false
namespace AT
theorem FnExactRunChange_true (x0 : Change) (x1 : Int) (o0 : ok_Change x0) (o1 : ok_Int x1) : ∃ fu, laws_FnExactRunChange fu x0 x1 = some true := by
  obtain ⟨fu, hfu⟩ : ∃ fu, 2097153 ≤ fu := ⟨2097153, Nat.le_refl _⟩
  refine ⟨fu, ?_⟩
  unfold laws_FnExactRunChange
  obtain ⟨r0, e0, q0⟩ := sz_Change hfu o0 (l := 1048576) (by omega) (by omega)
  simp only [e0, Option.bind_some]
  by_cases n0 : r0 < 0
  · simp only [n0, decide_true, if_true]
  obtain ⟨b0, l0⟩ := q0 (by omega)
  simp only [n0, decide_false, Bool.false_eq_true, if_false]
  obtain ⟨w, hs, hi, w0⟩ := main_FnExactRunChange hfu o0 o1 b0
  obtain ⟨k0, z0_0, z0_1, z0_2, z0_3, z0_4, m0, d0, u0, v0⟩ := mk_Change hfu b0 (k := 1) (by omega) (by omega)
  have f0 : ¬ k0 < 0 := by omega
  obtain ⟨k1, z1_0, z1_1, z1_2, z1_3, z1_4, m1, d1, u1, v1⟩ := mk_Change hfu w0 (k := 1) (by omega) (by omega)
  have f1 : ¬ k1 < 0 := by omega
  simp [Option.bind_some, hs, hi, to_Change hfu b0, eq_Change hfu b0, @eq_Block fu hfu _ trivial, @eq_Fiber fu hfu _ trivial, @to_Block fu hfu _ trivial, @to_Fiber fu hfu _ trivial, eq_Change hfu w0, m0, f0, d0, m1, d1, f1]
end AT
