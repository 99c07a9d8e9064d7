/- RunChange: the program's and the reference's are one. -/
import Derived.Test.YtiedecncmihbeaaGreatQStepE
import Derived.Test.YtiedecncmihbeaaGreatQStepB
set_option linter.unusedSimpArgs false
set_option linter.unusedVariables false
namespace AT
theorem run_both {fu : Nat} (hfu : 2097153 ≤ fu) (s : Nat) (hs : s ≤ 20) : ∀ (r fk i : Nat) (c : Change), ChF c → B_Change c → i + r = s → r < fk →
    ∃ c' z z', B_Change c' ∧ impl_RunChange_L1 fu s fk i c.Plan.Network.Nodes c.Plan.Network.Fibers c.Plan.Lights c.Actions c.Undo c.Back = some (z, c'.Plan.Network.Nodes, c'.Plan.Network.Fibers, c'.Plan.Lights, c'.Actions, c'.Undo, c'.Back) ∧
      spec_RunChange_L1 fu fk r c.Plan.Network.Nodes c.Plan.Network.Fibers c.Plan.Lights c.Actions c.Undo c.Back = some (z', c'.Plan.Network.Nodes, c'.Plan.Network.Fibers, c'.Plan.Lights, c'.Actions, c'.Undo, c'.Back) := by
  intro r
  induction r with
  | zero =>
    intro fk i c h b hi hk
    obtain ⟨fk, rfl⟩ : ∃ k, fk = k + 1 := ⟨fk - 1, by omega⟩
    have e1 : ((i : Int) < (s : Int)) = False := eq_false (by omega)
    have e2 : (((0 : Nat) : Int) > 0) = False := eq_false (by omega)
    rw [impl_RunChange_L1, spec_RunChange_L1]
    simp only [e1, e2, decide_false, Bool.false_eq_true, if_false, Option.bind_some]
    exact ⟨c, _, _, b, rfl, rfl⟩
  | succ r ih =>
    intro fk i c h b hi hk
    obtain ⟨fk, rfl⟩ : ∃ k, fk = k + 1 := ⟨fk - 1, by omega⟩
    have e1 : ((i : Int) < (s : Int)) = True := eq_true (by omega)
    have e2 : (((r + 1 : Nat) : Int) > 0) = True := eq_true (by omega)
    have e3 : w64 ((i : Int) + 1) = ((i + 1 : Nat) : Int) := by rw [w64_in (by omega) (by omega)]; omega
    have e4 : w64 (((r + 1 : Nat) : Int) - 1) = (r : Int) := by rw [w64_in (by omega) (by omega)]; omega
    have q1 : impl_stateOf fu ({ Plan := ({ Network := ({ Nodes := c.Plan.Network.Nodes, Fibers := c.Plan.Network.Fibers } : Network), Lights := c.Plan.Lights } : Plan), Actions := c.Actions, Undo := c.Undo, Back := c.Back } : Change) = some (stOf c) := stateOf_eq fu c
    have q2 : spec_l20State fu ({ Plan := ({ Network := ({ Nodes := c.Plan.Network.Nodes, Fibers := c.Plan.Network.Fibers } : Network), Lights := c.Plan.Lights } : Plan), Actions := c.Actions, Undo := c.Undo, Back := c.Back } : Change) = some (stOf c) := l20State_eq fu c
    have q3 : impl_stepped fu ({ Plan := ({ Network := ({ Nodes := c.Plan.Network.Nodes, Fibers := c.Plan.Network.Fibers } : Network), Lights := c.Plan.Lights } : Plan), Actions := c.Actions, Undo := c.Undo, Back := c.Back } : Change) = some (step c) := stepped_eq hfu h
    have q4 : spec_l20Step fu ({ Plan := ({ Network := ({ Nodes := c.Plan.Network.Nodes, Fibers := c.Plan.Network.Fibers } : Network), Lights := c.Plan.Lights } : Plan), Actions := c.Actions, Undo := c.Undo, Back := c.Back } : Change) = some (step c) := l20Step_eq hfu h
    rw [impl_RunChange_L1, spec_RunChange_L1]
    simp only [e1, e2, decide_true, if_true, q1, q2, Option.bind_some, e3, e4]
    cases hst : (stOf c == 0)
    · simp only [Bool.false_eq_true, if_false]
      exact ⟨c, _, _, b, rfl, rfl⟩
    · simp only [if_true, q3, q4, Option.bind_some]
      exact ih fk (i + 1) (step c) (step_F h) (step_BC h b) (by omega) (by omega)
theorem main_FnExactRunChange {fu : Nat} (hfu : 2097153 ≤ fu) {x0 : Change} {x1 : Int} (_ : ok_Change x0) (_ : ok_Int x1) (b0 : B_Change x0) : ∃ w, spec_RunChange fu x0 x1 = some w ∧ impl_RunChange fu x0 x1 = some w ∧ B_Change w.1 := by
  have hB := changeB_of b0
  have nil : B_Change ⟨⟨⟨[], []⟩, []⟩, [], [], false⟩ := by simp [B_Change, B_Plan, B_Network, B_LightS, B_StringS, B_FiberS, B_ActionS]
  unfold spec_RunChange impl_RunChange
  rw [l20Good_eq hfu x0 hB, isValidChange_eq hfu x0 hB]
  simp only [Option.bind_some, l1In_eq, within_eq]
  cases hc : changeOk x0
  · exact ⟨_, rfl, rfl, nil⟩
  · cases hr : (decide (0 ≤ x1) && decide (x1 ≤ 20))
    · exact ⟨_, rfl, rfl, nil⟩
    · have h := chF hB hc
      rw [Bool.and_eq_true, decide_eq_true_eq, decide_eq_true_eq] at hr
      obtain ⟨s, rfl⟩ : ∃ s : Nat, x1 = (s : Int) := ⟨x1.toNat, by omega⟩
      obtain ⟨c', z, z', b', g1, g2⟩ := run_both hfu s (by omega) s fu 0 x0 h b0 (by omega) (by omega)
      rw [Int.ofNat_zero] at g1
      have q1 : impl_stateOf fu ({ Plan := ({ Network := ({ Nodes := c'.Plan.Network.Nodes, Fibers := c'.Plan.Network.Fibers } : Network), Lights := c'.Plan.Lights } : Plan), Actions := c'.Actions, Undo := c'.Undo, Back := c'.Back } : Change) = some (stOf c') := stateOf_eq fu c'
      have q2 : spec_l20State fu ({ Plan := ({ Network := ({ Nodes := c'.Plan.Network.Nodes, Fibers := c'.Plan.Network.Fibers } : Network), Lights := c'.Plan.Lights } : Plan), Actions := c'.Actions, Undo := c'.Undo, Back := c'.Back } : Change) = some (stOf c') := l20State_eq fu c'
      simp only [Bool.not_true, Bool.false_eq_true, if_false, copyChange_eq hfu x0 hB.1 hB.2.1 hB.2.2, l9Own_eq hfu _ hB.1, l20Copies_eq hfu _ hB.2.1, l20Copies_eq hfu _ hB.2.2, g1, g2, q1, q2, Option.bind_some]
      exact ⟨_, rfl, rfl, b'⟩
end AT
