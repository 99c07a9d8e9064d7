/- What is known of data that came in, by program (law.py). -/
import Derived.Test.YtlemonjnolciiaaGreatF
namespace AT
def AY (x:By):Prop:=(0≤x.n∧x.n≤255)
def wA (x:List By):Prop:=((∀ e∈x,AY e)∧x.length≤9223372036854775807)
end AT
