/- What is known of data that came in, by program (law.py). -/
import Derived.Test.YtmokfdffnijbbaaGreatF
namespace AT
def ok_Str (x : ByteArray) : Prop := x.size ≤ 9223372036854775807
def ok_StrS (x : List ByteArray) : Prop := ((∀ e ∈ x, ok_Str e) ∧ x.length ≤ 9223372036854775807)
def ok_Int (x : Int) : Prop := (-9223372036854775808 ≤ x ∧ x ≤ 9223372036854775807)
def ok_Fiber (x : Fiber) : Prop := ok_Int x.A ∧ ok_Int x.B ∧ ok_Int x.Length ∧ ok_Int x.Risk
def ok_FiberS (x : List Fiber) : Prop := ((∀ e ∈ x, ok_Fiber e) ∧ x.length ≤ 9223372036854775807)
def ok_Network (x : Network) : Prop := ok_StrS x.Nodes ∧ ok_FiberS x.Fibers
def ok_IntS (x : List Int) : Prop := ((∀ e ∈ x, ok_Int e) ∧ x.length ≤ 9223372036854775807)
def ok_Route (x : Route) : Prop := ok_Int x.Start ∧ ok_IntS x.Fibers
def ok_Block (x : Block) : Prop := ok_Int x.First ∧ ok_Int x.Count
def ok_Light (x : Light) : Prop := ok_Int x.Id ∧ ok_Route x.Route ∧ ok_Block x.Block
def ok_LightS (x : List Light) : Prop := ((∀ e ∈ x, ok_Light e) ∧ x.length ≤ 9223372036854775807)
def ok_Plan (x : Plan) : Prop := ok_Network x.Network ∧ ok_LightS x.Lights
def ok_By (x : By) : Prop := (0 ≤ x.n ∧ x.n ≤ 255)
def ok_ByS (x : List By) : Prop := ((∀ e ∈ x, ok_By e) ∧ x.length ≤ 9223372036854775807)
end AT
