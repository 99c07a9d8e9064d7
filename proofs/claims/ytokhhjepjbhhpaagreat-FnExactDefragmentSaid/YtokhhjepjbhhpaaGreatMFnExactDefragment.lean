/- Defragment: the program's and the reference's are one. -/
import Derived.Test.YtokhhjepjbhhpaaGreatQDefr
import Derived.Test.YtokhhjepjbhhpaaGreatH
set_option linter.unusedSimpArgs false
namespace AT
theorem B_setF {p : Plan} (b : B_Plan p) {i : Nat} (hi : i < p.Lights.length) (r : Int) : B_Plan (setF p i r) := by
  refine ⟨b.1, by simp only [setF, List.length_set]; exact b.2.1, fun x hx => ?_⟩
  rcases List.mem_or_eq_of_mem_set hx with h | rfl
  · exact b.2.2 x h
  · have := b.2.2 _ (gd_mem l0 hi)
    exact this
theorem defrag_loop {fu : Nat} (hfu : 2097153 ≤ fu) (hit : Bool) (L : Nat) (hL : L ≤ 60) : ∀ (fk i : Nat) (p : Plan) (ids : List Int), i ≤ L → L - i < fk → PlanG p → B_Plan p → ids.length ≤ i →
    ∃ q ids' z z', spec_Defragment_L1 fu hit fk ((L - i : Nat) : Int) ids p.Network.Nodes p.Network.Fibers p.Lights = some (z, ids', q.Network.Nodes, q.Network.Fibers, q.Lights) ∧
      impl_Defragment_L1 fu hit (L : Int) fk ids (i : Int) p.Network.Nodes p.Network.Fibers p.Lights = some (ids', z', q.Network.Nodes, q.Network.Fibers, q.Lights) ∧ PlanG q ∧ B_Plan q ∧ ids'.length ≤ 60 := by
  intro fk
  induction fk with
  | zero => intro i _ _ _ h; omega
  | succ fk ih =>
    intro i p ids hi hk hG hB hl
    rw [spec_Defragment_L1, impl_Defragment_L1]
    by_cases h : i < L
    · have h1 : ((L - i : Nat) : Int) > 0 := by omega
      have h2 : (i : Int) < (L : Int) := by omega
      obtain ⟨w, g1, g2, g3⟩ := step_both hfu p hG hit
      have g1' : spec_l21Step fu ({ Network := ({ Nodes := p.Network.Nodes, Fibers := p.Network.Fibers } : Network), Lights := p.Lights } : Plan) hit = some w := g1
      have g2' : impl_lowered fu ({ Network := ({ Nodes := p.Network.Nodes, Fibers := p.Network.Fibers } : Network), Lights := p.Lights } : Plan) hit = some w := g2
      simp only [h1, h2, decide_true, if_true, g1', g2', Option.bind_some]
      rcases g3 with rfl | ⟨j, r, hj, r0, r1, rfl⟩
      · simp only [beq_self_eq_true, if_true]
        exact ⟨p, ids, _, _, rfl, rfl, hG, hB, by omega⟩
      · have hid := (hG.f.light _ (gd_mem l0 hj)).id
        have hz : ((gd p.Lights j l0).Id == 0) = false := by
          rw [beq_eq_false_iff_ne]
          omega
        have hlen : ids.length + [(gd p.Lights j l0).Id].length ≤ 1099511627776 := by rw [List.length_singleton]; omega
        have ha := app_ok hlen
        have hw1 : w64 (((L - i : Nat) : Int) - 1) = ((L - (i + 1) : Nat) : Int) := by rw [w64_in (by omega) (by omega)]; omega
        have hw2 : w64 ((i : Int) + 1) = ((i + 1 : Nat) : Int) := by rw [w64_in (by omega) (by omega)]; omega
        simp only [hz, Bool.false_eq_true, if_false]
        rw [ha, Option.bind_some, Option.bind_some, hw1, hw2]
        clear hw1 hw2 ha g1 g2 g1' g2' hz
        exact ih (i + 1) (setF p j r) (ids ++ [(gd p.Lights j l0).Id]) h (by omega) (setF_G hG hj r0 (by omega)) (B_setF hB hj r) (by rw [List.length_append, List.length_singleton]; omega)
    · obtain rfl : i = L := by omega
      have h1 : ¬ ((i - i : Nat) : Int) > 0 := by omega
      have h2 : ¬ (i : Int) < (i : Int) := by omega
      simp only [h1, h2, decide_false, Bool.false_eq_true, if_false]
      exact ⟨p, ids, _, _, rfl, rfl, hG, hB, by omega⟩
theorem main_FnExactDefragment {fu : Nat} (hfu : 2097153 ≤ fu) {x0 : Plan} {x1 : Bool} {x2 : Int} (_ : ok_Plan x0) (_ : ok_Bool x1) (_ : ok_Int x2) (b0 : B_Plan x0) : ∃ w, spec_Defragment fu x0 x1 x2 = some w ∧ impl_Defragment fu x0 x1 x2 = some w ∧ B_Plan w.1 ∧ B_IntS w.2.1 := by
  have hB : PlanB x0 := ⟨⟨b0.1.1, b0.1.2.1⟩, b0.2.1, fun x hx => (b0.2.2 x hx).1.1⟩
  have nil : B_Plan ⟨⟨[], []⟩, []⟩ ∧ B_IntS [] := by simp [B_Plan, B_Network, B_LightS, B_StringS, B_FiberS, B_IntS]
  unfold spec_Defragment impl_Defragment
  rw [specPlan_eq hfu x0 hB, implPlan_eq hfu x0 hB]
  simp only [Option.bind_some, l1In_eq, within_eq]
  cases hp : planOk x0
  · exact ⟨_, rfl, rfl, nil⟩
  · cases hc : (decide (0 ≤ x2) && decide (x2 ≤ 60))
    · exact ⟨_, rfl, rfl, nil⟩
    · simp only [Bool.and_eq_true, decide_eq_true_eq] at hc
      obtain ⟨L, rfl⟩ := Int.eq_ofNat_of_zero_le hc.1
      obtain ⟨q, ids', z, z', h1, h2, h3, h4, h5⟩ := defrag_loop hfu x1 L (by omega) fu 0 x0 [] (by omega) (by omega) (planG hB hp) b0 (by simp)
      rw [show ((0 : Nat) : Int) = 0 from rfl] at h2
      rw [Nat.sub_zero] at h1
      simp only [Bool.not_true, Bool.false_eq_true, if_false, Option.bind_some, l9Own_eq hfu x0 hB, copyPlan_eq hfu x0 hB, h1, h2, Int.ofNat_eq_natCast]
      exact ⟨_, rfl, rfl, h4, show ids'.length ≤ 2097152 by omega, fun _ _ => trivial⟩
end AT
