/- FnExactSitesConnect, plainly: from what the program's function and the reference's answer. -/
import Derived.Test.YtiedecncmihbeaaMFnExactSitesConnect
import Derived.Test.YtiedecncmihbeaaH
set_option linter.unusedSimpArgs false
set_option linter.unusedVariables false
namespace AT
theorem FnExactSitesConnect_true (x0 : Network) (x1 : List Int) (x2 : Int) (o0 : ok_Network x0) (o1 : ok_IntS x1) (o2 : ok_Int x2) : ∃ fu, laws_FnExactSitesConnect fu x0 x1 x2 = some true := by
  obtain ⟨fu, hfu⟩ : ∃ fu, 2097153 ≤ fu := ⟨2097153, Nat.le_refl _⟩
  refine ⟨fu, ?_⟩
  unfold laws_FnExactSitesConnect
  by_cases g1 : (x1.length : Int) > 1048576
  · simp only [g1, decide_true, if_true]
  simp only [g1, decide_false, Bool.false_eq_true, if_false]
  have b1 : B_IntS x1 := ⟨by omega, fun _ _ => trivial⟩
  obtain ⟨r0, e0, q0⟩ := sz_Network hfu o0 (l := 1048576) (by omega) (by omega)
  simp only [e0, Option.bind_some]
  by_cases n0 : r0 < 0
  · simp only [n0, decide_true, if_true]
  obtain ⟨b0, l0⟩ := q0 (by omega)
  simp only [n0, decide_false, Bool.false_eq_true, if_false]
  obtain ⟨w, hs, hi⟩ := main_FnExactSitesConnect hfu o0 o1 o2 b0 b1
  simp [Option.bind_some, hs, hi, to_Network hfu b0, eq_Network hfu b0, to_IntS hfu b1, eq_IntS hfu b1, @eq_Fiber fu hfu _ trivial, @to_Fiber fu hfu _ trivial]
end AT
