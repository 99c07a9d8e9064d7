/- Plain facts on the small functions. -/
import Derived.Test.YtlemonjnolciiaaGreatOk
namespace AT
@[simp] theorem dF (fu:Nat) (x a b:Int):xH fu x a b=some (decide (a≤x)&&decide (x≤b)):=by
 unfold xH;by_cases h:a≤x <;> simp [h]
@[simp] theorem bO (fu:Nat) (x a b:Int):xn fu x a b=some (decide (a≤x)&&decide (x≤b)):=by
 unfold xn;by_cases h:a≤x <;> simp [h]
end AT
