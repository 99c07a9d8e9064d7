/- Plain facts on the small functions. -/
import Derived.Test.YtlemonjnolciiaaGreatDoorOk
namespace AT
@[simp] theorem l1In_eq (fu : Nat) (x a b : Int) : spec_l1In fu x a b = some (decide (a ≤ x) && decide (x ≤ b)) := by
  unfold spec_l1In
  by_cases h : a ≤ x <;> simp [h]
@[simp] theorem within_eq (fu : Nat) (x a b : Int) : impl_within fu x a b = some (decide (a ≤ x) && decide (x ≤ b)) := by
  unfold impl_within
  by_cases h : a ≤ x <;> simp [h]
end AT
