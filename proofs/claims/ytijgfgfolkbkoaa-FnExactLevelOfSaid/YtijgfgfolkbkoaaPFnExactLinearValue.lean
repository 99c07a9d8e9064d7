/- LinearValue: the program's and the reference's are one. -/
import Derived.Test.YtijgfgfolkbkoaaP1
namespace AT
def linB (m : Nat) : Bool := match spec_l22Linear 200 (100 * (m : Int)), impl_linear 200 (100 * (m : Int)) with
  | some a, some b => a == b && decide (0 < a) && decide (a ≤ 9223372036854775807)
  | _, _ => false
theorem linB_all : (List.range 100).all linB = true := by decide +kernel
theorem lin_at (m : Nat) (h : m < 100) : ∃ a, spec_l22Linear 200 (100 * (m : Int)) = some a ∧ impl_linear 200 (100 * (m : Int)) = some a ∧ 0 < a ∧ a ≤ 9223372036854775807 := by
  have := List.all_eq_true.1 linB_all m (List.mem_range.2 h)
  unfold linB at this
  split at this
  · rename_i a b ha hb
    simp only [Bool.and_eq_true, beq_iff_eq, decide_eq_true_eq] at this
    obtain ⟨⟨rfl, h1⟩, h2⟩ := this
    exact ⟨a, ha, hb, h1, h2⟩
  · cases this
def linOk (x : Int) : Bool := decide (0 ≤ x) && decide (x ≤ 9900) && decide (x % 100 = 0)
theorem hasLinear_eq (fu : Nat) (x : Int) : impl_hasLinear fu x = some (linOk x) := by
  simp only [impl_hasLinear, within_eq, Option.bind_some, rem, linOk]
  by_cases h : 0 ≤ x
  · rw [Int.tmod_eq_emod_of_nonneg h]
    cases decide (x ≤ 9900) <;> simp [h] ; rfl
  · simp [h]
theorem linear_no {x : Int} (fu : Nat) (h : linOk x = false) : spec_l22Linear fu x = some 0 := by
  simp only [spec_l22Linear, l1In_eq, Option.bind_some, rem]
  by_cases h0 : 0 ≤ x
  · by_cases h1 : x ≤ 9900
    · have h2 : x % 100 ≠ 0 := by simpa [linOk, h0, h1] using h
      rw [Int.tmod_eq_emod_of_nonneg h0]
      simp [h0, h1, h2]
    · simp [h0, h1]
  · simp [h0]
theorem linear_yes {x : Int} (h : linOk x = true) : ∃ a, spec_l22Linear 200 x = some a ∧ impl_linear 200 x = some a ∧ 0 < a ∧ a ≤ 9223372036854775807 := by
  simp only [linOk, Bool.and_eq_true, decide_eq_true_eq] at h
  obtain ⟨⟨h0, h1⟩, h2⟩ := h
  have e : x = 100 * ((x / 100).toNat : Int) := by omega
  rw [e]
  exact lin_at _ (by omega)
theorem FnExactLinearValue_true (x : Int) (_ : ok_Int x) : ∃ fu, laws_FnExactLinearValue fu x = some true := by
  refine ⟨200, ?_⟩
  cases h : linOk x
  · simp [laws_FnExactLinearValue, spec_LinearValue, impl_LinearValue, hasLinear_eq, h, linear_no 200 h]
  · obtain ⟨a, h1, h2, h3, h4⟩ := linear_yes h
    simp [laws_FnExactLinearValue, spec_LinearValue, impl_LinearValue, hasLinear_eq, h, h1, h2, h3]
end AT
