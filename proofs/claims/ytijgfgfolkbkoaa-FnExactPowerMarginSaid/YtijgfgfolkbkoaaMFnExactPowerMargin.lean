/- PowerMargin: the program's and the reference's are one. -/
import Derived.Test.YtijgfgfolkbkoaaQProfile
import Derived.Test.YtijgfgfolkbkoaaH
namespace AT
theorem main_FnExactPowerMargin {fu : Nat} (hfu : 2097153 ≤ fu) {x0 : List Span} {x1 : List Amplifier} {x2 x3 : Int} (_ : ok_SpanS x0) (_ : ok_AmplifierS x1) (_ : ok_Int x2) (_ : ok_Int x3) (_ : B_SpanS x0) (b1 : B_AmplifierS x1) :
    ∃ w, spec_PowerMargin fu x0 x1 x2 x3 = some w ∧ impl_PowerMargin fu x0 x1 x2 x3 = some w := by
  obtain ⟨y, h1, h2, h3, h4, h5⟩ := profile_eq hfu x0 x1 x2 b1.1
  unfold spec_PowerMargin impl_PowerMargin
  rw [h1, h2]
  simp only [Option.bind_some, level_eq, isLevel_eq]
  cases hy : y.2.2
  · exact ⟨_, rfl, rfl⟩
  · obtain ⟨g1, g2, -⟩ := h5 hy
    obtain ⟨e, he, -⟩ := idx_some (l := y.2.1) (i := w64 ((y.2.1.length : Int) - 1)) (by rw [w64_in (by omega) (by omega)]; omega) (by rw [w64_in (by omega) (by omega)]; omega)
    rw [he]
    simp only [Bool.not_true, Bool.false_eq_true, if_false, Option.bind_some]
    cases (decide (-10000 ≤ x3) && decide (x3 ≤ 10000)) <;> cases (decide (-10000 ≤ w64 (e - x3)) && decide (w64 (e - x3) ≤ 10000)) <;> exact ⟨_, rfl, rfl⟩
end AT
