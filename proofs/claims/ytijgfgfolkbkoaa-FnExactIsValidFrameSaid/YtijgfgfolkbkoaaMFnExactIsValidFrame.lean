/- IsValidFrame: the program's and the reference's are one. -/
import Derived.Test.YtijgfgfolkbkoaaQFrame
import Derived.Test.YtijgfgfolkbkoaaH
namespace AT
theorem main_FnExactIsValidFrame {fu : Nat} (hfu : 2097153 ≤ fu) {x0 : Frame} (_ : ok_Frame x0) (_ : B_Frame x0) : ∃ w, spec_IsValidFrame fu x0 = some w ∧ impl_IsValidFrame fu x0 = some w :=
  ⟨isFrame x0, by rw [spec_IsValidFrame, l23Good_eq x0 (by omega)]; rfl, isValidFrame_eq x0 (by omega)⟩
end AT
