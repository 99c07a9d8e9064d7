/- FnExactParseFrame, plainly: from what the program's function and the reference's answer. -/
import Derived.Test.YtijgfgfolkbkoaaMFnExactParseFrame
import Derived.Test.YtijgfgfolkbkoaaH
set_option linter.unusedSimpArgs false
set_option linter.unusedVariables false
namespace AT
theorem FnExactParseFrame_true (x0 : List Int) (o0 : ok_IntS x0) : ∃ fu, laws_FnExactParseFrame fu x0 = some true := by
  obtain ⟨fu, hfu⟩ : ∃ fu, 2097153 ≤ fu := ⟨2097153, Nat.le_refl _⟩
  refine ⟨fu, ?_⟩
  unfold laws_FnExactParseFrame
  by_cases g0 : (x0.length : Int) > 1048576
  · simp only [g0, decide_true, if_true]
  simp only [g0, decide_false, Bool.false_eq_true, if_false]
  have b0 : B_IntS x0 := ⟨by omega, fun _ _ => trivial⟩
  obtain ⟨w, hs, hi, w0⟩ := main_FnExactParseFrame hfu o0 b0
  obtain ⟨k0, z0_0, m0, d0, u0, v0⟩ := mk_IntS hfu b0 (k := 1) (by omega) (by omega)
  have f0 : ¬ k0 < 0 := by omega
  obtain ⟨k1, z1_0, m1, d1, u1, v1⟩ := mk_Frame hfu w0 (k := 1) (by omega) (by omega)
  have f1 : ¬ k1 < 0 := by omega
  simp [Option.bind_some, hs, hi, to_IntS hfu b0, eq_IntS hfu b0, eq_Frame hfu w0, m0, f0, d0, m1, d1, f1]
end AT
