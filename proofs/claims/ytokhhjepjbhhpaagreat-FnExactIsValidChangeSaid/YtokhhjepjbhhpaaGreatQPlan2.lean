/- Valid plans, plainly, pair by pair. -/
import Derived.Test.YtokhhjepjbhhpaaGreatQLow
set_option linter.unusedSimpArgs false
set_option linter.unusedVariables false
namespace AT
theorem planOk_iff {p : Plan} : planOk p = true ↔ netOk p.Network = true ∧ p.Lights.length ≤ 12 ∧ (∀ x ∈ p.Lights, lightOk p.Network x = true) ∧ p.Lights.Pairwise (fun a b => a.Id < b.Id ∧ coll a b = false) := by
  constructor
  · intro h
    have hI := planI h
    have h' := h
    unfold planOk at h
    simp only [Bool.and_eq_true, decide_eq_true_eq, Bool.not_eq_true'] at h
    obtain ⟨h1, h2, h3⟩ := h
    have hb : ∀ j, j < p.Lights.length → planBad p.Network p.Lights j = false := fun j hj => by
      rw [Bool.eq_false_iff]
      intro h7
      rw [Bool.eq_false_iff] at h3
      exact h3 (List.any_eq_true.2 ⟨j, List.mem_range.2 hj, h7⟩)
    refine ⟨h1, h2, fun x hx => ?_, List.pairwise_iff_getElem.2 fun i j hi hj hij => ⟨?_, ?_⟩⟩
    · obtain ⟨i, hi, rfl⟩ := List.mem_iff_getElem.1 hx
      have := hb i hi
      unfold planBad at this
      rw [Bool.or_eq_false_iff, gd_in l0 hi] at this
      simpa using this.1
    · have := hI.ids i j hij hj
      rwa [gd_in l0 hi, gd_in l0 hj] at this
    · have := hb j hj
      unfold planBad at this
      rw [Bool.or_eq_false_iff, Bool.or_eq_false_iff, gd_in l0 hj] at this
      rw [Bool.eq_false_iff]
      intro hc
      have h5 := this.2.2
      rw [Bool.eq_false_iff] at h5
      exact h5 (List.any_eq_true.2 ⟨p.Lights[i], List.mem_iff_getElem.2 ⟨i, by rw [List.length_take]; omega, by rw [List.getElem_take]⟩, hc⟩)
  · rintro ⟨h1, h2, h3, h4⟩
    rw [List.pairwise_iff_getElem] at h4
    unfold planOk
    simp only [Bool.and_eq_true, decide_eq_true_eq, Bool.not_eq_true']
    refine ⟨h1, h2, ?_⟩
    rw [Bool.eq_false_iff]
    intro h
    obtain ⟨j, hj, hb⟩ := List.any_eq_true.1 h
    have hj' := List.mem_range.1 hj
    unfold planBad at hb
    rw [Bool.or_eq_true, Bool.or_eq_true, gd_in l0 hj', h3 _ (List.getElem_mem hj')] at hb
    rcases hb with hb | hb | hb
    · cases hb
    · simp only [Bool.and_eq_true, decide_eq_true_eq] at hb
      rw [gd_in l0 (show j - 1 < p.Lights.length by omega)] at hb
      have := (h4 (j - 1) j (by omega) hj' (by omega)).1
      omega
    · obtain ⟨y, hy, hc⟩ := List.any_eq_true.1 hb
      obtain ⟨i, hi, rfl⟩ := List.mem_iff_getElem.1 hy
      rw [List.length_take] at hi
      rw [List.getElem_take, (h4 i j (by omega) hj' (by omega)).2] at hc
      cases hc
theorem planOk_erase {p : Plan} (h : planOk p = true) (i : Nat) : planOk { p with Lights := p.Lights.eraseIdx i } = true := by
  obtain ⟨h1, h2, h3, h4⟩ := planOk_iff.1 h
  refine planOk_iff.2 ⟨h1, ?_, fun x hx => h3 x (List.mem_of_mem_eraseIdx hx), h4.sublist (List.eraseIdx_sublist _ _)⟩
  exact Nat.le_trans (List.eraseIdx_sublist p.Lights i).length_le h2
end AT

