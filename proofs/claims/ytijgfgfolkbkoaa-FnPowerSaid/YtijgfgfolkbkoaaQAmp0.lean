/- An amplifier, plainly. -/
import Derived.Test.YtijgfgfolkbkoaaP1
import Derived.Test.YtijgfgfolkbkoaaAtL
set_option linter.unusedSimpArgs false
namespace AT
theorem level_eq (fu : Nat) (x : Int) : spec_l22Level fu x = some (decide (-10000 ≤ x) && decide (x ≤ 10000)) := by simp only [spec_l22Level, l1In_eq, Option.bind_some]
theorem isLevel_eq (fu : Nat) (x : Int) : impl_isLevel fu x = some (decide (-10000 ≤ x) && decide (x ≤ 10000)) := by simp only [impl_isLevel, within_eq, Option.bind_some]
def ampOk (a : Amplifier) : Bool := decide (0 ≤ a.Gain) && decide (a.Gain ≤ 10000) && (decide (-10000 ≤ a.Output) && decide (a.Output ≤ 10000)) && (decide (0 ≤ a.Noise) && decide (a.Noise ≤ 10000))
theorem isAmplifier_eq (fu : Nat) (a : Amplifier) : impl_isAmplifier fu a = some (ampOk a) := by
  simp only [impl_isAmplifier, within_eq, isLevel_eq, Option.bind_some, ampOk]
  generalize (decide (0 ≤ a.Gain) && decide (a.Gain ≤ 10000)) = x
  generalize (decide (-10000 ≤ a.Output) && decide (a.Output ≤ 10000)) = y
  cases x <;> cases y <;> rfl
theorem l22Kind_eq (fu : Nat) (a : Amplifier) : spec_l22Kind fu a = some (ampOk a) := by
  simp only [spec_l22Kind, l1In_eq, level_eq, Option.bind_some, ampOk]
  generalize (decide (0 ≤ a.Gain) && decide (a.Gain ≤ 10000)) = x
  generalize (decide (-10000 ≤ a.Output) && decide (a.Output ≤ 10000)) = y
  cases x <;> cases y <;> rfl
def amp0 : Amplifier := ⟨0, 0, 0, 0⟩
end AT
