/- PlanHeight: the program's and the reference's are one. -/
import Derived.Test.YthdkhieebdopkaaQPlan
import Derived.Test.YthdkhieebdopkaaH
set_option linter.unusedSimpArgs false
namespace AT
theorem height_loop {fu fu' : Nat} (p : Plan) (hs : p.Lights.length ≤ 12) : ∀ (fk i : Nat) (h : Int), i ≤ p.Lights.length → p.Lights.length - i < fk → ∃ z, spec_l21Height_L1 fu p fk h i = some z ∧ impl_planHeight_L1 fu' p fk h i = some z := by
  intro fk
  induction fk with
  | zero => intro i _ _ h; omega
  | succ fk ih =>
    intro i h hi hk
    rw [spec_l21Height_L1, impl_planHeight_L1]
    by_cases hlt : i < p.Lights.length
    · have h' : (i : Int) < (p.Lights.length : Int) := by omega
      simp only [h', decide_true, if_true, idx_in hlt, Option.bind_some, w64_inc hlt (show (p.Lights.length : Int) ≤ 9223372036854775807 by omega)]
      have e : ∀ a b : Int, spec_l1Most fu a b = some (gmax a b) := fun a b => by
        unfold spec_l1Most gmax
        by_cases c1 : a > b
        · have c2 : ¬ b > a := by omega
          simp [c1, c2]
        · by_cases c2 : b > a
          · simp [c1, c2]
          · have : a = b := by omega
            simp [this]
      rw [e, Option.bind_some]
      exact ih (i + 1) _ hlt (by omega)
    · obtain rfl : i = p.Lights.length := by omega
      rw [if_neg (by simp), if_neg (by simp)]
      exact ⟨_, rfl, rfl⟩
theorem main_FnExactPlanHeight {fu : Nat} (hfu : 2097153 ≤ fu) {x0 : Plan} (_ : ok_Plan x0) (b0 : B_Plan x0) : ∃ w, spec_PlanHeight fu x0 = some w ∧ impl_PlanHeight fu x0 = some w := by
  have hB : PlanB x0 := ⟨⟨b0.1.1, b0.1.2.1⟩, b0.2.1, fun x hx => (b0.2.2 x hx).1.1⟩
  unfold spec_PlanHeight impl_PlanHeight
  rw [specPlan_eq hfu x0 hB, implPlan_eq hfu x0 hB]
  simp only [Option.bind_some]
  cases hp : planOk x0
  · exact ⟨_, rfl, rfl⟩
  · obtain ⟨z, h1, h2⟩ := height_loop (fu := fu) (fu' := fu) x0 (planF hp).short fu 0 0 (by omega) (by have := (planF hp).short; omega)
    rw [show ((0 : Nat) : Int) = 0 from rfl] at h1 h2
    simp only [Bool.not_true, Bool.false_eq_true, if_false, spec_l21Height, impl_planHeight, h1, h2, Option.bind_some]
    exact ⟨_, rfl, rfl⟩
end AT
