/- ParseFrame: the program's and the reference's are one. -/
import Derived.Test.YtijgfgfolkbkoaaQParse
import Derived.Test.YtijgfgfolkbkoaaH
namespace AT
theorem main_FnExactParseFrame {fu : Nat} (hfu : 2097153 ≤ fu) {x0 : List Int} (_ : ok_IntS x0) (_ : B_IntS x0) : ∃ w, spec_ParseFrame fu x0 = some w ∧ impl_ParseFrame fu x0 = some w ∧ B_Frame w.1 := by
  obtain ⟨w, h1, h2, h3⟩ := parse_eq hfu x0
  exact ⟨w, h1, h2, by omega, fun _ _ => trivial⟩
end AT
