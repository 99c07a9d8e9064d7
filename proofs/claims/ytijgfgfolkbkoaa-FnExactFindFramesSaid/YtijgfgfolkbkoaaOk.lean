/- What is known of data that came in, by program (law.py). -/
import Derived.Test.YtijgfgfolkbkoaaF
namespace AT
def ok_Int (x : Int) : Prop := (-9223372036854775808 ≤ x ∧ x ≤ 9223372036854775807)
def ok_IntS (x : List Int) : Prop := ((∀ e ∈ x, ok_Int e) ∧ x.length ≤ 9223372036854775807)
end AT
