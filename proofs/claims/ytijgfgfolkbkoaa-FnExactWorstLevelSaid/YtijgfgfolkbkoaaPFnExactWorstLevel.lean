/- FnExactWorstLevel, plainly: from what the program's function and the reference's answer. -/
import Derived.Test.YtijgfgfolkbkoaaMFnExactWorstLevel
import Derived.Test.YtijgfgfolkbkoaaH
set_option linter.unusedSimpArgs false
set_option linter.unusedVariables false
namespace AT
theorem FnExactWorstLevel_true (x0 : List Span) (x1 : List Amplifier) (x2 : Int) (o0 : ok_SpanS x0) (o1 : ok_AmplifierS x1) (o2 : ok_Int x2) : ∃ fu, laws_FnExactWorstLevel fu x0 x1 x2 = some true := by
  obtain ⟨fu, hfu⟩ : ∃ fu, 2097153 ≤ fu := ⟨2097153, Nat.le_refl _⟩
  refine ⟨fu, ?_⟩
  unfold laws_FnExactWorstLevel
  obtain ⟨r0, e0, q0⟩ := sz_SpanS hfu o0 (l := 1048576) (by omega) (by omega)
  simp only [e0, Option.bind_some]
  by_cases n0 : r0 < 0
  · simp only [n0, decide_true, if_true]
  obtain ⟨b0, l0⟩ := q0 (by omega)
  simp only [n0, decide_false, Bool.false_eq_true, if_false]
  obtain ⟨r1, e1, q1⟩ := sz_AmplifierS hfu o1 (l := r0) (by omega) (by omega)
  simp only [e1, Option.bind_some]
  by_cases n1 : r1 < 0
  · simp only [n1, decide_true, if_true]
  obtain ⟨b1, l1⟩ := q1 (by omega)
  simp only [n1, decide_false, Bool.false_eq_true, if_false]
  obtain ⟨w, hs, hi⟩ := main_FnExactWorstLevel hfu o0 o1 o2 b0 b1
  simp [Option.bind_some, hs, hi, to_SpanS hfu b0, eq_SpanS hfu b0, to_AmplifierS hfu b1, eq_AmplifierS hfu b1, @eq_Amplifier fu hfu _ trivial, @eq_Span fu hfu _ trivial, @to_Amplifier fu hfu _ trivial, @to_Span fu hfu _ trivial]
end AT
