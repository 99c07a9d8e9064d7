/- Copies of actions, plainly. -/
import Derived.Test.YtokhhjepjbhhpaaGreatQDefr
set_option linter.unusedSimpArgs false
set_option linter.unusedVariables false
namespace AT
/-- What is known of actions by their size alone. -/
def ActsB (l : List Action) : Prop := l.length ≤ 2097152 ∧ ∀ a ∈ l, a.Light.Route.Fibers.length ≤ 2097152
theorem copyLight_eq (fu : Nat) (x : Light) (h : x.Route.Fibers.length ≤ 2097152) : impl_copyLight fu x = some x := by
  unfold impl_copyLight
  rw [copyRoute_eq fu _ h]
  rfl
theorem copyActions_loop {fu : Nat} (l : List Action) (hB : ActsB l) : ∀ (fk i : Nat) (o : List Action), i ≤ l.length → l.length - i < fk → o.length ≤ i → ∃ z, impl_copyActions_L1 fu l fk o i = some (o ++ l.drop i, z) := by
  obtain ⟨hl, hr⟩ := hB
  intro fk
  induction fk with
  | zero => intro i _ _ h; omega
  | succ fk ih =>
    intro i o hi hk ho
    rw [impl_copyActions_L1]
    by_cases h : i < l.length
    · have h' : (i : Int) < (l.length : Int) := by omega
      have ha : app o [l[i]] = some (o ++ [l[i]]) := app_ok (by rw [List.length_singleton]; omega)
      simp only [h', decide_true, if_true, idx_in h, Option.bind_some, copyLight_eq fu _ (hr _ (List.getElem_mem h)), ha]
      rw [w64_inc h (by omega)]
      obtain ⟨z, hz⟩ := ih (i + 1) (o ++ [l[i]]) h (by omega) (by rw [List.length_append, List.length_singleton]; omega)
      exact ⟨z, by rw [hz, List.append_assoc, ← List.getElem_cons_drop h]; rfl⟩
    · obtain rfl : i = l.length := by omega
      rw [if_neg (by simp), List.drop_length, List.append_nil]
      exact ⟨_, rfl⟩
theorem copyActions_eq {fu : Nat} (hfu : 2097153 ≤ fu) (l : List Action) (hB : ActsB l) : impl_copyActions fu l = some l := by
  unfold impl_copyActions
  obtain ⟨z, hz⟩ := copyActions_loop (fu := fu) l hB fu 0 [] (by omega) (by have := hB.1; omega) (by simp)
  rw [show ((0 : Nat) : Int) = 0 from rfl] at hz
  rw [hz, Option.bind_some, List.nil_append, List.drop_zero]
end AT

