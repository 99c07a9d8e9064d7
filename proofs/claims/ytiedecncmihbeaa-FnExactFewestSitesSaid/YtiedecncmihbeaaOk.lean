/- What is known of data that came in, by program (law.py). -/
import Derived.Test.YtiedecncmihbeaaF
namespace AT
def ok_Str (x : ByteArray) : Prop := x.size ≤ 9223372036854775807
def ok_StrS (x : List ByteArray) : Prop := ((∀ e ∈ x, ok_Str e) ∧ x.length ≤ 9223372036854775807)
def ok_Int (x : Int) : Prop := (-9223372036854775808 ≤ x ∧ x ≤ 9223372036854775807)
def ok_Fiber (x : Fiber) : Prop := ok_Int x.A ∧ ok_Int x.B ∧ ok_Int x.Length ∧ ok_Int x.Risk
def ok_FiberS (x : List Fiber) : Prop := ((∀ e ∈ x, ok_Fiber e) ∧ x.length ≤ 9223372036854775807)
def ok_Network (x : Network) : Prop := ok_StrS x.Nodes ∧ ok_FiberS x.Fibers
def ok_IntS (x : List Int) : Prop := ((∀ e ∈ x, ok_Int e) ∧ x.length ≤ 9223372036854775807)
end AT
