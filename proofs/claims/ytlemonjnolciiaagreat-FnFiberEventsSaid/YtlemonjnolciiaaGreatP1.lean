/- Plain facts on the small functions. -/
import Derived.Test.YtlemonjnolciiaaGreatOk
namespace AT
@[simp] theorem fc (fu:Nat) (x a b:Int):x8 fu x a b=some (decide (a≤x)&&decide (x≤b)):=by
 unfold x8;by_cases h:a≤x <;> simp [h]
@[simp] theorem bG (fu:Nat) (x a b:Int):xx fu x a b=some (decide (a≤x)&&decide (x≤b)):=by
 unfold xx;by_cases h:a≤x <;> simp [h]
end AT
