/- The lowest place of a light, plainly. -/
import Derived.Test.YtiedecncmihbeaaGreatQMask
set_option linter.unusedSimpArgs false
set_option linter.unusedVariables false
namespace AT
/-! ### Copies -/
theorem app_nil {α : Type} {l : List α} (h : l.length ≤ 1099511627776) : app ([] : List α) l = some l := by rw [app_ok (by simpa using h)]; rfl
theorem l9Copy_eq (fu : Nat) (x : Light) (h : x.Route.Fibers.length ≤ 2097152) : spec_l9Copy fu x = some x := by
  unfold spec_l9Copy spec_l4Own spec_l1Own
  rw [app_nil (by omega)]
  rfl
theorem own_loop {fu : Nat} (p : Plan) (hl : p.Lights.length ≤ 2097152) (hr : ∀ x ∈ p.Lights, x.Route.Fibers.length ≤ 2097152) : ∀ (fk i : Nat) (m : List Light), i ≤ p.Lights.length → p.Lights.length - i < fk → m.length ≤ i → ∃ z, spec_l9Own_L1 fu p fk i m = some (z, m ++ p.Lights.drop i) := by
  intro fk
  induction fk with
  | zero => intro i _ _ h; omega
  | succ fk ih =>
    intro i m hi hk hm
    rw [spec_l9Own_L1]
    by_cases h : i < p.Lights.length
    · have h' : (i : Int) < (p.Lights.length : Int) := by omega
      simp only [h', decide_true, if_true, idx_in h, Option.bind_some, l9Copy_eq fu _ (hr _ (List.getElem_mem h))]
      rw [app_ok (by simp; omega), Option.bind_some, w64_inc h (by omega)]
      obtain ⟨z, hz⟩ := ih (i + 1) (m ++ [p.Lights[i]]) h (by omega) (by simp; omega)
      refine ⟨z, ?_⟩
      rw [hz, List.append_assoc, ← List.getElem_cons_drop h]
      rfl
    · obtain rfl : i = p.Lights.length := by omega
      rw [if_neg (by simp), List.drop_length, List.append_nil]
      exact ⟨_, rfl⟩
theorem l9Own_eq {fu : Nat} (hfu : 2097153 ≤ fu) (p : Plan) (hB : PlanB p) : spec_l9Own fu p = some p := by
  obtain ⟨hN, hL, hR⟩ := hB
  unfold spec_l9Own spec_l2Own
  have h1 := hN.1.1
  have h2 := hN.2
  rw [app_nil (by omega), Option.bind_some, app_nil (by omega)]
  obtain ⟨z, hz⟩ := own_loop (fu := fu) p hL hR fu 0 [] (by omega) (by omega) (by simp)
  rw [show ((0 : Nat) : Int) = 0 from rfl] at hz
  simp only [Option.bind_some, hz, List.nil_append, List.drop_zero]
theorem l9Without_eq {fu : Nat} (hfu : 2097153 ≤ fu) (p : Plan) (hB : PlanB p) {i : Nat} (hi : i < p.Lights.length) : spec_l9Without fu p i = some { Network := p.Network, Lights := p.Lights.eraseIdx i } := by
  have hl := hB.2.1
  unfold spec_l9Without
  rw [l9Own_eq hfu p hB, Option.bind_some, sub_take (by omega), Option.bind_some, w64_inc hi (by omega)]
  have hs : sub p.Lights ((i + 1 : Nat) : Int) (p.Lights.length : Int) = some (p.Lights.drop (i + 1)) := by
    unfold sub
    rw [if_pos (by omega)]
    simp
  rw [hs, Option.bind_some, app_nil (by simp; omega), Option.bind_some, app_ok (by simp; omega), Option.bind_some, List.eraseIdx_eq_take_drop_succ]
structure PlanI (p : Plan) : Prop where
  ids : ∀ i j, i < j → j < p.Lights.length → (gd p.Lights i l0).Id < (gd p.Lights j l0).Id
theorem planI {p : Plan} (h : planOk p = true) : PlanI p := by
  unfold planOk at h
  simp only [Bool.and_eq_true, decide_eq_true_eq, Bool.not_eq_true'] at h
  obtain ⟨h1, h2, h3⟩ := h
  rw [Bool.eq_false_iff] at h3
  have adj : ∀ j, 0 < j → j < p.Lights.length → (gd p.Lights (j - 1) l0).Id < (gd p.Lights j l0).Id := fun j h0 hj => by
    have h6 : planBad p.Network p.Lights j = false := by
      rw [Bool.eq_false_iff]
      intro h7
      exact h3 (List.any_eq_true.2 ⟨j, List.mem_range.2 hj, h7⟩)
    unfold planBad at h6
    rw [Bool.or_eq_false_iff, Bool.or_eq_false_iff] at h6
    have := h6.2.1
    simp only [h0, decide_true, Bool.true_and, decide_eq_false_iff_not] at this
    omega
  refine ⟨fun i j => ?_⟩
  induction j with
  | zero => intro h; omega
  | succ j ih =>
    intro hij hj
    have := adj (j + 1) (by omega) hj
    rw [Nat.add_sub_cancel] at this
    rcases Nat.lt_or_ge i j with h' | h'
    · have := ih h' (by omega)
      omega
    · obtain rfl : i = j := by omega
      exact this
end AT

