/- FnExactPlaceAmplifiers, plainly: from what the program's function and the reference's answer. -/
import Derived.Test.YtijgfgfolkbkoaaMFnExactPlaceAmplifiers
import Derived.Test.YtijgfgfolkbkoaaH
set_option linter.unusedSimpArgs false
set_option linter.unusedVariables false
namespace AT
theorem FnExactPlaceAmplifiers_true (x0 : List Span) (x1 : Amplifier) (x2 : Int) (x3 : Int) (o0 : ok_SpanS x0) (o1 : ok_Amplifier x1) (o2 : ok_Int x2) (o3 : ok_Int x3) : ∃ fu, laws_FnExactPlaceAmplifiers fu x0 x1 x2 x3 = some true := by
  obtain ⟨fu, hfu⟩ : ∃ fu, 2097153 ≤ fu := ⟨2097153, Nat.le_refl _⟩
  refine ⟨fu, ?_⟩
  unfold laws_FnExactPlaceAmplifiers
  have b1 : B_Amplifier x1 := trivial
  obtain ⟨r0, e0, q0⟩ := sz_SpanS hfu o0 (l := 1048576) (by omega) (by omega)
  simp only [e0, Option.bind_some]
  by_cases n0 : r0 < 0
  · simp only [n0, decide_true, if_true]
  obtain ⟨b0, l0⟩ := q0 (by omega)
  simp only [n0, decide_false, Bool.false_eq_true, if_false]
  obtain ⟨w, hs, hi, w0⟩ := main_FnExactPlaceAmplifiers hfu o0 o1 o2 o3 b0 b1
  obtain ⟨k0, z0, m0, u0, v0⟩ := mo_SpanS hfu b0 (k := 1) (by omega) (by omega)
  have f0 : ¬ k0 < 0 := by omega
  obtain ⟨k1, z1, m1, d1, u1, v1⟩ := mk_AmplifierS hfu w0 (k := 1) (by omega) (by omega)
  have f1 : ¬ k1 < 0 := by omega
  simp [Option.bind_some, hs, hi, to_SpanS hfu b0, eq_SpanS hfu b0, to_Amplifier hfu b1, eq_Amplifier hfu b1, @eq_Amplifier fu hfu _ trivial, @eq_Span fu hfu _ trivial, @to_Amplifier fu hfu _ trivial, @to_Span fu hfu _ trivial, eq_AmplifierS hfu w0, m0, f0, m1, d1, f1]
end AT
