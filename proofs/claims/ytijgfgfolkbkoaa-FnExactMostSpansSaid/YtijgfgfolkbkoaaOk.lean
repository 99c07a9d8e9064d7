/- What is known of data that came in, by program (law.py). -/
import Derived.Test.YtijgfgfolkbkoaaF
namespace AT
def ok_Int (x : Int) : Prop := (-9223372036854775808 ≤ x ∧ x ≤ 9223372036854775807)
def ok_Span (x : Span) : Prop := ok_Int x.Length ∧ ok_Int x.Loss ∧ ok_Int x.Splices
end AT
