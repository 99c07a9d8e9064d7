/- Plain facts on the small functions. -/
import Derived.Test.YtlemonjnolciiaaGreatOk
namespace AT
@[simp] theorem gcW (fu:Nat) (x a b:Int):yn fu x a b=some (decide (a≤x)&&decide (x≤b)):=by
 unfold yn
 by_cases h:a≤x <;> simp [h]
@[simp] theorem gbP (fu:Nat) (x a b:Int):xM fu x a b=some (decide (a≤x)&&decide (x≤b)):=by
 unfold xM
 by_cases h:a≤x <;> simp [h]
end AT
