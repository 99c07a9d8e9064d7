/- FnExactIsHitless, plainly: from what the program's function and the reference's answer. -/
import Derived.Test.YtokhhjepjbhhpaaGreatMFnExactIsHitless
import Derived.Test.YtokhhjepjbhhpaaGreatH
set_option linter.unusedSimpArgs false
set_option linter.unusedVariables false
namespace AT
theorem FnExactIsHitless_true (x0 : Plan) (x1 : List Action) (o0 : ok_Plan x0) (o1 : ok_ActionS x1) : ∃ fu, laws_FnExactIsHitless fu x0 x1 = some true := by
  obtain ⟨fu, hfu⟩ : ∃ fu, 2097153 ≤ fu := ⟨2097153, Nat.le_refl _⟩
  refine ⟨fu, ?_⟩
  unfold laws_FnExactIsHitless
  obtain ⟨r0, e0, q0⟩ := sz_Plan hfu o0 (l := 1048576) (by omega) (by omega)
  simp only [e0, Option.bind_some]
  by_cases n0 : r0 < 0
  · simp only [n0, decide_true, if_true]
  obtain ⟨b0, l0⟩ := q0 (by omega)
  simp only [n0, decide_false, Bool.false_eq_true, if_false]
  obtain ⟨r1, e1, q1⟩ := sz_ActionS hfu o1 (l := r0) (by omega) (by omega)
  simp only [e1, Option.bind_some]
  by_cases n1 : r1 < 0
  · simp only [n1, decide_true, if_true]
  obtain ⟨b1, l1⟩ := q1 (by omega)
  simp only [n1, decide_false, Bool.false_eq_true, if_false]
  obtain ⟨w, hs, hi⟩ := main_FnExactIsHitless hfu o0 o1 b0 b1
  simp [Option.bind_some, hs, hi, to_Plan hfu b0, eq_Plan hfu b0, to_ActionS hfu b1, eq_ActionS hfu b1, @eq_Block fu hfu _ trivial, @eq_Fiber fu hfu _ trivial, @eq_Item fu hfu _ trivial, @to_Block fu hfu _ trivial, @to_Fiber fu hfu _ trivial]
end AT
