/- IsValidChange: the program's and the reference's are one. -/
import Derived.Test.YtokhhjepjbhhpaaGreatQValid
import Derived.Test.YtokhhjepjbhhpaaGreatH
set_option linter.unusedSimpArgs false
namespace AT
theorem main_FnExactIsValidChange {fu : Nat} (hfu : 2097153 ≤ fu) {x0 : Change} (_ : ok_Change x0) (b0 : B_Change x0) : ∃ w, spec_IsValidChange fu x0 = some w ∧ impl_IsValidChange fu x0 = some w := by
  have hB : ChangeB x0 := ⟨⟨⟨b0.1.1.1, b0.1.1.2.1⟩, b0.1.2.1, fun x hx => (b0.1.2.2 x hx).1.1⟩, ⟨b0.2.1.1, fun x hx => (b0.2.1.2 x hx).1.1⟩, ⟨b0.2.2.1, fun x hx => (b0.2.2.2 x hx).1.1⟩⟩
  unfold spec_IsValidChange
  rw [l20Good_eq hfu x0 hB, isValidChange_eq hfu x0 hB]
  exact ⟨_, rfl, rfl⟩
end AT
