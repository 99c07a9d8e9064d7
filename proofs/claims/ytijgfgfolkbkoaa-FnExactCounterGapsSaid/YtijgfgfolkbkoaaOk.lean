/- What is known of data that came in, by program (law.py). -/
import Derived.Test.YtijgfgfolkbkoaaF
namespace AT
def ok_Int (x : Int) : Prop := (-9223372036854775808 ≤ x ∧ x ≤ 9223372036854775807)
def ok_IntS (x : List Int) : Prop := ((∀ e ∈ x, ok_Int e) ∧ x.length ≤ 9223372036854775807)
def ok_Frame (x : Frame) : Prop := ok_Int x.Counter ∧ ok_Int x.Pointer ∧ ok_IntS x.Payload
def ok_FrameS (x : List Frame) : Prop := ((∀ e ∈ x, ok_Frame e) ∧ x.length ≤ 9223372036854775807)
end AT
