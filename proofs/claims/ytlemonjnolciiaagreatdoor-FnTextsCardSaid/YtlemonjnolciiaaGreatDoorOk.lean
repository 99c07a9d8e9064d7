/- What is known of data that came in, by program (law.py). -/
import Derived.Test.YtlemonjnolciiaaGreatDoorF
namespace AT
def ok_By (x : By) : Prop := (0 ≤ x.n ∧ x.n ≤ 255)
def ok_ByS (x : List By) : Prop := ((∀ e ∈ x, ok_By e) ∧ x.length ≤ 9223372036854775807)
end AT
