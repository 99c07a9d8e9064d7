/- CompactPlan: the program's and the reference's are one. -/
import Derived.Test.YtmokfdffnijbbaaGreatQExP
import Derived.Test.YtmokfdffnijbbaaGreatH
set_option linter.unusedSimpArgs false
namespace AT
theorem B_withB {p : Plan} (b : B_Plan p) (bl : List Block) : B_Plan (withB p bl) := by
  refine ⟨b.1, ?_, fun x hx => ?_⟩
  · show (p.Lights.zipWith _ bl).length ≤ 2097152
    rw [List.length_zipWith]
    exact Nat.le_trans (Nat.min_le_left _ _) b.2.1
  · obtain ⟨i, hi, rfl⟩ := List.mem_iff_getElem.1 hx
    have hi' : i < p.Lights.length ∧ i < bl.length := by
      have : i < (p.Lights.zipWith (fun x b => (⟨x.Id, x.Route, b⟩ : Light)) bl).length := hi
      rw [List.length_zipWith] at this
      omega
    have e : (withB p bl).Lights[i] = ⟨p.Lights[i].Id, p.Lights[i].Route, bl[i]⟩ := List.getElem_zipWith
    rw [e]
    have := b.2.2 _ (List.getElem_mem hi'.1)
    exact this
theorem main_FnExactCompactPlan {fu : Nat} (hfu4 : 4194304 ≤ fu) {x0 : Plan} (_ : ok_Plan x0) (b0 : B_Plan x0) : ∃ w, spec_CompactPlan fu x0 = some w ∧ impl_CompactPlan fu x0 = some w ∧ B_Plan w.1 := by
  have hfu : 2097200 ≤ fu := by omega
  have hB : PlanB x0 := ⟨⟨b0.1.1, b0.1.2.1⟩, b0.2.1, fun x hx => (b0.2.2 x hx).1.1⟩
  have hl := hB.2.1
  have nil : B_Plan ⟨⟨[], []⟩, []⟩ := by simp [B_Plan, B_Network, B_LightS, B_StringS, B_FiberS, B_IntS]
  unfold spec_CompactPlan impl_CompactPlan
  rw [specPlan_eq (by omega) x0 hB, implPlan_eq (by omega) x0 hB]
  simp only [Option.bind_some]
  cases hp : planOk x0
  · exact ⟨_, rfl, rfl, nil⟩
  · have h12 := (planF hp).short
    simp only [Bool.not_true, Bool.false_eq_true, if_false, Option.bind_some]
    rw [implReqsOf_eq (by omega) x0 hl, Option.bind_some, assignExact_eq hfu _ _ hB.1 (reqsOf_B hB), reqsOk_of hp]
    by_cases h7 : x0.Lights.length ≤ 7
    · have h7' : ¬ ((x0.Lights.length : Int) > 7) := by omega
      have hF : ReqF (reqsOf x0) := reqF (n := x0.Network) (by rw [reqsOk_of hp]; exact decide_eq_true h7)
      rw [decide_eq_false h7', decide_eq_true h7, if_neg Bool.false_ne_true, if_pos rfl, specReqsOf_eq (by omega) x0 hl, Option.bind_some, l12Exact_eq hfu hF, Option.bind_some, Option.bind_some]
      unfold exR
      cases he : ex (reqsOf x0) with
      | none => exact ⟨_, rfl, rfl, nil⟩
      | some z =>
        obtain ⟨full, h⟩ := z
        obtain ⟨-, a2, -⟩ := ex_some hF he
        rw [reqsOf_len] at a2
        simp only [Bool.not_true, Bool.false_eq_true, if_false]
        rw [l9Own_eq (by omega) x0 hB, copyPlan_eq (by omega) x0 hB, Option.bind_some, Option.bind_some, specCompact_loop x0 full h true a2 (by omega) (by omega), implCompact_loop x0 full h true a2 (by omega) (by omega)]
        exact ⟨_, rfl, rfl, B_withB b0 full⟩
    · have h7' : (x0.Lights.length : Int) > 7 := by omega
      rw [decide_eq_true h7', decide_eq_false h7, if_pos rfl, if_neg Bool.false_ne_true]
      exact ⟨_, rfl, rfl, nil⟩
end AT
