/- What is known of data that came in, by program (law.py). -/
import Derived.Test.YtijgfgfolkbkoaaF
namespace AT
def ok_Int (x : Int) : Prop := (-9223372036854775808 ≤ x ∧ x ≤ 9223372036854775807)
def ok_Item (x : Item) : Prop := ok_Int x.Kind ∧ ok_Int x.Node ∧ ok_Int x.Count
def ok_ItemS (x : List Item) : Prop := ((∀ e ∈ x, ok_Item e) ∧ x.length ≤ 9223372036854775807)
end AT
