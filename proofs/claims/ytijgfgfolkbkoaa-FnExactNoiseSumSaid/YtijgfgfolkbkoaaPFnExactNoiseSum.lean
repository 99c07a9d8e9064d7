/- FnExactNoiseSum, plainly: from what the program's function and the reference's answer. -/
import Derived.Test.YtijgfgfolkbkoaaMFnExactNoiseSum
import Derived.Test.YtijgfgfolkbkoaaH
set_option linter.unusedSimpArgs false
set_option linter.unusedVariables false
namespace AT
theorem FnExactNoiseSum_true (x0 : List Amplifier) (o0 : ok_AmplifierS x0) : ∃ fu, laws_FnExactNoiseSum fu x0 = some true := by
  obtain ⟨fu, hfu⟩ : ∃ fu, 2097153 ≤ fu := ⟨2097153, Nat.le_refl _⟩
  refine ⟨fu, ?_⟩
  unfold laws_FnExactNoiseSum
  obtain ⟨r0, e0, q0⟩ := sz_AmplifierS hfu o0 (l := 1048576) (by omega) (by omega)
  simp only [e0, Option.bind_some]
  by_cases n0 : r0 < 0
  · simp only [n0, decide_true, if_true]
  obtain ⟨b0, l0⟩ := q0 (by omega)
  simp only [n0, decide_false, Bool.false_eq_true, if_false]
  obtain ⟨w, hs, hi⟩ := main_FnExactNoiseSum hfu o0 b0
  simp [Option.bind_some, hs, hi, to_AmplifierS hfu b0, eq_AmplifierS hfu b0, @eq_Amplifier fu hfu _ trivial, @to_Amplifier fu hfu _ trivial]
end AT
