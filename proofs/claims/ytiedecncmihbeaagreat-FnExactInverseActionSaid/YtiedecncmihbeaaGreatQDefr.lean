/- Copies of plans, and the step that moves the first light that can be moved, plainly. -/
import Derived.Test.YtiedecncmihbeaaGreatQLowB
set_option linter.unusedSimpArgs false
set_option linter.unusedVariables false
namespace AT
/-! ### Copies -/
theorem copyRoute_eq (fu : Nat) (r : Route) (h : r.Fibers.length ≤ 2097152) : impl_copyRoute fu r = some r := by
  unfold impl_copyRoute
  rw [app_nil (by omega)]
  rfl
theorem copy_loop {fu : Nat} (p : Plan) (hl : p.Lights.length ≤ 2097152) (hr : ∀ x ∈ p.Lights, x.Route.Fibers.length ≤ 2097152) : ∀ (fk i : Nat) (m : List Light), i ≤ p.Lights.length → p.Lights.length - i < fk → m.length ≤ i → ∃ z, impl_copyPlan_L1 fu p fk i m = some (z, m ++ p.Lights.drop i) := by
  intro fk
  induction fk with
  | zero => intro i _ _ h; omega
  | succ fk ih =>
    intro i m hi hk hm
    rw [impl_copyPlan_L1]
    by_cases h : i < p.Lights.length
    · have h' : (i : Int) < (p.Lights.length : Int) := by omega
      simp only [h', decide_true, if_true, idx_in h, Option.bind_some, copyRoute_eq fu _ (hr _ (List.getElem_mem h))]
      rw [app_ok (by simp; omega), Option.bind_some, w64_inc h (by omega)]
      obtain ⟨z, hz⟩ := ih (i + 1) (m ++ [p.Lights[i]]) h (by omega) (by simp; omega)
      refine ⟨z, ?_⟩
      rw [hz, List.append_assoc, ← List.getElem_cons_drop h]
      rfl
    · obtain rfl : i = p.Lights.length := by omega
      rw [if_neg (by simp), List.drop_length, List.append_nil]
      exact ⟨_, rfl⟩
theorem copyPlan_eq {fu : Nat} (hfu : 2097153 ≤ fu) (p : Plan) (hB : PlanB p) : impl_copyPlan fu p = some p := by
  obtain ⟨hN, hL, hR⟩ := hB
  unfold impl_copyPlan impl_copyNetwork
  have h1 := hN.1.1
  have h2 := hN.2
  rw [app_nil (by omega), Option.bind_some, app_nil (by omega)]
  obtain ⟨z, hz⟩ := copy_loop (fu := fu) p hL hR fu 0 [] (by omega) (by omega) (by simp)
  rw [show ((0 : Nat) : Int) = 0 from rfl] at hz
  simp only [Option.bind_some, hz, List.nil_append, List.drop_zero]
structure PlanG (p : Plan) : Prop where
  b : PlanB p
  f : PlanF p
  i : PlanI p
end AT

