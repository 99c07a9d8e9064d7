/- FnExactCostOf, plainly: from what the program's function and the reference's answer. -/
import Derived.Test.YtijgfgfolkbkoaaMFnExactCostOf
import Derived.Test.YtijgfgfolkbkoaaH
set_option linter.unusedSimpArgs false
set_option linter.unusedVariables false
namespace AT
theorem FnExactCostOf_true (x0 : List Item) (x1 : List Int) (o0 : ok_ItemS x0) (o1 : ok_IntS x1) : ∃ fu, laws_FnExactCostOf fu x0 x1 = some true := by
  obtain ⟨fu, hfu⟩ : ∃ fu, 2097153 ≤ fu := ⟨2097153, Nat.le_refl _⟩
  refine ⟨fu, ?_⟩
  unfold laws_FnExactCostOf
  by_cases g1 : (x1.length : Int) > 1048576
  · simp only [g1, decide_true, if_true]
  simp only [g1, decide_false, Bool.false_eq_true, if_false]
  have b1 : B_IntS x1 := ⟨by omega, fun _ _ => trivial⟩
  obtain ⟨r0, e0, q0⟩ := sz_ItemS hfu o0 (l := 1048576) (by omega) (by omega)
  simp only [e0, Option.bind_some]
  by_cases n0 : r0 < 0
  · simp only [n0, decide_true, if_true]
  obtain ⟨b0, l0⟩ := q0 (by omega)
  simp only [n0, decide_false, Bool.false_eq_true, if_false]
  obtain ⟨w, hs, hi⟩ := main_FnExactCostOf hfu o0 o1 b0 b1
  simp [Option.bind_some, hs, hi, to_ItemS hfu b0, eq_ItemS hfu b0, to_IntS hfu b1, eq_IntS hfu b1, @eq_Item fu hfu _ trivial, @to_Item fu hfu _ trivial]
end AT
