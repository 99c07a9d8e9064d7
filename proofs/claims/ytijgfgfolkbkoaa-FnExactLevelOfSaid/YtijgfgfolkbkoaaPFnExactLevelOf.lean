/- LevelOf: the program's and the reference's are one. -/
import Derived.Test.YtijgfgfolkbkoaaPFnExactLinearValue
namespace AT
theorem levelOf_eq (v : Int) (fk : Nat) : ∀ (x : Int), linOk x = true → (9900 - x) / 100 < (fk : Int) → ∃ r, spec_l22Of_L1 200 v fk x = some r ∧ impl_LevelOf_L1 200 v fk x = some r := by
  induction fk with
  | zero => intro x hx h; simp only [linOk, Bool.and_eq_true, decide_eq_true_eq] at hx; omega
  | succ fk ih =>
    intro x hx h1
    have hx' := hx
    simp only [linOk, Bool.and_eq_true, decide_eq_true_eq] at hx'
    have e : w64 (x + 100) = x + 100 := w64_in (by omega) (by omega)
    simp only [spec_l22Of_L1, impl_LevelOf_L1, hasLinear_eq, Option.bind_some, e]
    by_cases h : x < 9900
    · have hl : linOk (x + 100) = true := by
        simp only [linOk, Bool.and_eq_true, decide_eq_true_eq]; omega
      obtain ⟨a, h1, h2, h3, h4⟩ := linear_yes hl
      simp only [h1, h2, hl, h, decide_true, if_true, Option.bind_some]
      split
      · exact ih _ hl (by omega)
      · exact ⟨_, rfl, rfl⟩
    · have hl : linOk (x + 100) = false := by
        simp only [linOk, Bool.and_eq_false_iff, decide_eq_false_iff_not]; omega
      simp only [hl, h, decide_false, Bool.false_eq_true, if_false, Option.bind_some]
      exact ⟨_, rfl, rfl⟩
theorem FnExactLevelOf_true (v : Int) (_ : ok_Int v) : ∃ fu, laws_FnExactLevelOf fu v = some true := by
  refine ⟨200, ?_⟩
  obtain ⟨r, h1, h2⟩ := levelOf_eq v 200 0 (by decide) (by omega)
  simp only [laws_FnExactLevelOf, spec_LevelOf, impl_LevelOf, spec_l22Of, l1In_eq, within_eq, Option.bind_some, h1, h2]
  cases decide (1000 ≤ v) && decide (v ≤ 10000000000000) <;> simp
end AT
