/- What is known of data that came in, by program (law.py). -/
import Derived.Test.YtijgfgfolkbkoaaF
namespace AT
def ok_Int (x : Int) : Prop := (-9223372036854775808 ≤ x ∧ x ≤ 9223372036854775807)
def ok_Span (x : Span) : Prop := ok_Int x.Length ∧ ok_Int x.Loss ∧ ok_Int x.Splices
def ok_SpanS (x : List Span) : Prop := ((∀ e ∈ x, ok_Span e) ∧ x.length ≤ 9223372036854775807)
def ok_Amplifier (x : Amplifier) : Prop := ok_Int x.After ∧ ok_Int x.Gain ∧ ok_Int x.Output ∧ ok_Int x.Noise
def ok_AmplifierS (x : List Amplifier) : Prop := ((∀ e ∈ x, ok_Amplifier e) ∧ x.length ≤ 9223372036854775807)
end AT
