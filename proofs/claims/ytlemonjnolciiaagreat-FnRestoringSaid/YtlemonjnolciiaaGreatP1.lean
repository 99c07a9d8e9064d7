/- Plain facts on the small functions. -/
import Derived.Test.YtlemonjnolciiaaGreatOk
namespace AT
@[simp] theorem eW (fu:Nat) (x a b:Int):xX fu x a b=some (decide (a≤x)&&decide (x≤b)):=by
 unfold xX;by_cases h:a≤x <;> simp [h]
@[simp] theorem bA (fu:Nat) (x a b:Int):xo fu x a b=some (decide (a≤x)&&decide (x≤b)):=by
 unfold xo;by_cases h:a≤x <;> simp [h]
end AT
