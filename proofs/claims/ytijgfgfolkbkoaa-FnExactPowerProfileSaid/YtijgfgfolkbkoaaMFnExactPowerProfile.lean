/- PowerProfile: the program's and the reference's are one. -/
import Derived.Test.YtijgfgfolkbkoaaQProfile
import Derived.Test.YtijgfgfolkbkoaaH
namespace AT
theorem main_FnExactPowerProfile {fu : Nat} (hfu : 2097153 ≤ fu) {x0 : List Span} {x1 : List Amplifier} {x2 : Int} (_ : ok_SpanS x0) (_ : ok_AmplifierS x1) (_ : ok_Int x2) (_ : B_SpanS x0) (b1 : B_AmplifierS x1) :
    ∃ w, spec_PowerProfile fu x0 x1 x2 = some w ∧ impl_PowerProfile fu x0 x1 x2 = some w ∧ B_IntS w.1 := by
  obtain ⟨y, h1, h2, h3, h4, -⟩ := profile_eq hfu x0 x1 x2 b1.1
  unfold spec_PowerProfile impl_PowerProfile
  rw [h1, h2]
  exact ⟨_, rfl, rfl, by simp only; omega, fun _ _ => trivial⟩
end AT
