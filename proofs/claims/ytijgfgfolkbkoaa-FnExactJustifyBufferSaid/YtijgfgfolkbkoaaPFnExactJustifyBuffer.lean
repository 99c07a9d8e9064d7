/- FnExactJustifyBuffer, plainly: from what the program's function and the reference's answer. -/
import Derived.Test.YtijgfgfolkbkoaaMFnExactJustifyBuffer
import Derived.Test.YtijgfgfolkbkoaaH
set_option linter.unusedSimpArgs false
set_option linter.unusedVariables false
namespace AT
theorem FnExactJustifyBuffer_true (x0 : Int) (x1 : List Int) (x2 : Int) (x3 : Int) (x4 : Int) (o0 : ok_Int x0) (o1 : ok_IntS x1) (o2 : ok_Int x2) (o3 : ok_Int x3) (o4 : ok_Int x4) : ∃ fu, laws_FnExactJustifyBuffer fu x0 x1 x2 x3 x4 = some true := by
  obtain ⟨fu, hfu⟩ : ∃ fu, 2097153 ≤ fu := ⟨2097153, Nat.le_refl _⟩
  refine ⟨fu, ?_⟩
  unfold laws_FnExactJustifyBuffer
  by_cases g1 : (x1.length : Int) > 1048576
  · simp only [g1, decide_true, if_true]
  simp only [g1, decide_false, Bool.false_eq_true, if_false]
  have b1 : B_IntS x1 := ⟨by omega, fun _ _ => trivial⟩
  obtain ⟨w, hs, hi, w0, w1⟩ := main_FnExactJustifyBuffer hfu o0 o1 o2 o3 o4 b1
  obtain ⟨k0, z0, m0, d0, u0, v0⟩ := mk_IntS hfu b1 (k := 1) (by omega) (by omega)
  have f0 : ¬ k0 < 0 := by omega
  obtain ⟨k1, z1, m1, d1, u1, v1⟩ := mk_IntS hfu w0 (k := 1) (by omega) (by omega)
  have f1 : ¬ k1 < 0 := by omega
  obtain ⟨k2, z2, m2, d2, u2, v2⟩ := mk_IntS hfu w1 (k := k1) (by omega) (by omega)
  have f2 : ¬ k2 < 0 := by omega
  simp [Option.bind_some, hs, hi, to_IntS hfu b1, eq_IntS hfu b1, eq_IntS hfu w0, eq_IntS hfu w1, m0, f0, d0, m1, d1, f1, m2, d2, f2]
end AT
