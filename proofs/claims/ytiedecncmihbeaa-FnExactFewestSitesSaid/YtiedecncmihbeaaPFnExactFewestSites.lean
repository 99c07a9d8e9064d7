/- FnExactFewestSites, plainly: from what the program's function and the reference's answer. -/
import Derived.Test.YtiedecncmihbeaaMFnExactFewestSites
import Derived.Test.YtiedecncmihbeaaH
set_option linter.unusedSimpArgs false
set_option linter.unusedVariables false
namespace AT
theorem FnExactFewestSites_true (x0 : Network) (x1 : Int) (o0 : ok_Network x0) (o1 : ok_Int x1) : ∃ fu, laws_FnExactFewestSites fu x0 x1 = some true := by
  obtain ⟨fu, hfu4⟩ : ∃ fu, 4194304 ≤ fu := ⟨4194304, Nat.le_refl _⟩
  have hfu : 2097153 ≤ fu := by omega
  refine ⟨fu, ?_⟩
  unfold laws_FnExactFewestSites
  obtain ⟨r0, e0, q0⟩ := sz_Network hfu o0 (l := 1048576) (by omega) (by omega)
  simp only [e0, Option.bind_some]
  by_cases n0 : r0 < 0
  · simp only [n0, decide_true, if_true]
  obtain ⟨b0, l0⟩ := q0 (by omega)
  simp only [n0, decide_false, Bool.false_eq_true, if_false]
  obtain ⟨w, hs, hi, w0⟩ := main_FnExactFewestSites hfu4 o0 o1 b0
  obtain ⟨k0, z0_0, z0_1, m0, u0, v0⟩ := mo_Network hfu b0 (k := 1) (by omega) (by omega)
  have f0 : ¬ k0 < 0 := by omega
  obtain ⟨k1, z1_0, m1, d1, u1, v1⟩ := mk_IntS hfu w0 (k := 1) (by omega) (by omega)
  have f1 : ¬ k1 < 0 := by omega
  simp [Option.bind_some, hs, hi, to_Network hfu b0, eq_Network hfu b0, @eq_Fiber fu hfu _ trivial, @to_Fiber fu hfu _ trivial, eq_IntS hfu w0, m0, f0, m1, d1, f1]
end AT
