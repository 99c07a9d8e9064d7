/- PlanDifference: the program's and the reference's are one. -/
import Derived.Test.YtokhhjepjbhhpaaGreatQDiff
import Derived.Test.YtokhhjepjbhhpaaGreatH
set_option linter.unusedSimpArgs false
namespace AT
theorem main_FnExactPlanDifference {fu : Nat} (hfu : 2097153 ≤ fu) {x0 x1 : Plan} (_ : ok_Plan x0) (_ : ok_Plan x1) (b0 : B_Plan x0) (b1 : B_Plan x1) : ∃ w, spec_PlanDifference fu x0 x1 = some w ∧ impl_PlanDifference fu x0 x1 = some w ∧ B_ActionS w.1 := by
  have hp : PlanB x0 := ⟨⟨b0.1.1, b0.1.2.1⟩, b0.2.1, fun x hx => (b0.2.2 x hx).1.1⟩
  have hq : PlanB x1 := ⟨⟨b1.1.1, b1.1.2.1⟩, b1.2.1, fun x hx => (b1.2.2 x hx).1.1⟩
  have nil : B_ActionS [] := by simp [B_ActionS]
  unfold spec_PlanDifference impl_PlanDifference
  rw [specPlan_eq hfu x0 hp, implPlan_eq hfu x0 hp, specPlan_eq hfu x1 hq, implPlan_eq hfu x1 hq, l20Networks_eq hfu x0 x1 hp.1, equalNetworks_eq hfu _ _ hp.1]
  simp only [Option.bind_some]
  cases h0 : planOk x0
  · exact ⟨_, rfl, rfl, nil⟩
  cases h1 : planOk x1
  · exact ⟨_, rfl, rfl, nil⟩
  cases h2 : netSame x0.Network x1.Network
  · exact ⟨_, rfl, rfl, nil⟩
  have s0 := (planF h0).short
  have s1 := (planF h1).short
  simp only [Bool.not_true, Bool.false_eq_true, if_false, Option.bind_some, specDiff_eq hfu x0 x1 hp hq s0 s1]
  have g1 := filt_loop x0.Lights (fun x => !has_ x1 x.Id) (fun x => (⟨2, x⟩ : Action)) (impl_PlanDifference_L1 fu x0 x1) hp.2.1
    (fun fk i o h ho => by
      have h' : (i : Int) < (x0.Lights.length : Int) := by omega
      obtain ⟨y, -, y2, y3, -⟩ := find_has hfu x1 x0.Lights[i].Id hq.2.1
      have ha : app o [(⟨2, x0.Lights[i]⟩ : Action)] = some (o ++ [(⟨2, x0.Lights[i]⟩ : Action)]) := app_ok (by rw [List.length_singleton]; omega)
      rw [impl_PlanDifference_L1]
      simp only [h', decide_true, if_true, idx_in h, Option.bind_some, y2, y3, ha])
    (fun fk o => by rw [impl_PlanDifference_L1, if_neg (by simp)]) fu 0 [] (by omega) (by omega) (by simp; omega)
  rw [show ((0 : Nat) : Int) = 0 from rfl, List.nil_append, List.drop_zero] at g1
  obtain ⟨z, g2⟩ := two_loop hfu x0 x1 hp hq s1 fu 0 [] [] (by omega) (by omega) (by simp) (by simp)
  rw [show ((0 : Nat) : Int) = 0 from rfl, List.nil_append, List.nil_append, List.drop_zero] at g2
  have lr : (remL x0 x1).length ≤ 12 := by unfold remL; rw [List.length_map]; exact Nat.le_trans (List.length_filter_le _ _) s0
  have lm : (movL x0 x1 x1.Lights).length ≤ 12 := by unfold movL; rw [List.length_map]; exact Nat.le_trans (List.length_filter_le _ _) s1
  have la : (addL x0 x1 x1.Lights).length ≤ 12 := by unfold addL; rw [List.length_map]; exact Nat.le_trans (List.length_filter_le _ _) s1
  have g3 : slices_Concat_impl_Action_impl_Action fu [(x0.Lights.filter fun x => !has_ x1 x.Id).map (fun x => (⟨2, x⟩ : Action)), movL x0 x1 x1.Lights, addL x0 x1 x1.Lights] = some (remL x0 x1 ++ (movL x0 x1 x1.Lights ++ addL x0 x1 x1.Lights)) := by
    rw [concat_eq hfu _ (by simp) (fun x hx => by
      simp only [List.mem_cons, List.not_mem_nil, or_false] at hx
      rcases hx with rfl | rfl | rfl
      · have : ((x0.Lights.filter fun x => !has_ x1 x.Id).map (fun x => (⟨2, x⟩ : Action))).length ≤ 12 := lr
        omega
      · omega
      · omega)]
    simp [remL]
  have lB : ∀ a ∈ remL x0 x1 ++ (movL x0 x1 x1.Lights ++ addL x0 x1 x1.Lights), B_Action a := fun a ha => by
    rcases diff_mem ha with h | h
    · exact b0.2.2 _ h
    · exact b1.2.2 _ h
  have hlen : (remL x0 x1 ++ (movL x0 x1 x1.Lights ++ addL x0 x1 x1.Lights)).length ≤ 36 := by rw [List.length_append, List.length_append]; omega
  rw [g1]
  simp only [Option.bind_some, g2, g3, copyActions_eq hfu _ (⟨by omega, fun a ha => (lB a ha).1.1⟩ : ActsB (remL x0 x1 ++ (movL x0 x1 x1.Lights ++ addL x0 x1 x1.Lights)))]
  by_cases h8 : ((remL x0 x1 ++ (movL x0 x1 x1.Lights ++ addL x0 x1 x1.Lights)).length : Int) > 8
  · simp only [h8, decide_true, if_true]
    exact ⟨_, rfl, rfl, nil⟩
  · simp only [h8, decide_false, Bool.false_eq_true, if_false]
    exact ⟨_, rfl, rfl, show (remL x0 x1 ++ (movL x0 x1 x1.Lights ++ addL x0 x1 x1.Lights)).length ≤ 2097152 by omega, lB⟩
end AT
