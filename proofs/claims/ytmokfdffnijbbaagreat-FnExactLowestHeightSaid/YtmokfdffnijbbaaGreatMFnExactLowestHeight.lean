/- LowestHeight: the program's and the reference's are one. -/
import Derived.Test.YtmokfdffnijbbaaGreatQExP
import Derived.Test.YtmokfdffnijbbaaGreatH
set_option linter.unusedSimpArgs false
namespace AT
theorem main_FnExactLowestHeight {fu : Nat} (hfu4 : 4194304 ≤ fu) {x0 : Plan} (_ : ok_Plan x0) (b0 : B_Plan x0) : ∃ w, spec_LowestHeight fu x0 = some w ∧ impl_LowestHeight fu x0 = some w := by
  have hfu : 2097200 ≤ fu := by omega
  have hB : PlanB x0 := ⟨⟨b0.1.1, b0.1.2.1⟩, b0.2.1, fun x hx => (b0.2.2 x hx).1.1⟩
  have hl := hB.2.1
  unfold spec_LowestHeight impl_LowestHeight
  rw [specPlan_eq (by omega) x0 hB, implPlan_eq (by omega) x0 hB]
  simp only [Option.bind_some]
  cases hp : planOk x0
  · exact ⟨_, rfl, rfl⟩
  · simp only [Bool.not_true, Bool.false_eq_true, if_false, Option.bind_some]
    rw [implReqsOf_eq (by omega) x0 hl, Option.bind_some, assignExact_eq hfu _ _ hB.1 (reqsOf_B hB), reqsOk_of hp]
    by_cases h7 : x0.Lights.length ≤ 7
    · have h7' : ¬ ((x0.Lights.length : Int) > 7) := by omega
      have hF : ReqF (reqsOf x0) := reqF (n := x0.Network) (by rw [reqsOk_of hp]; exact decide_eq_true h7)
      rw [decide_eq_false h7', decide_eq_true h7, if_neg Bool.false_ne_true, if_pos rfl, specReqsOf_eq (by omega) x0 hl, Option.bind_some, l12Exact_eq hfu hF, Option.bind_some]
      exact ⟨_, rfl, rfl⟩
    · have h7' : (x0.Lights.length : Int) > 7 := by omega
      rw [decide_eq_true h7', decide_eq_false h7, if_pos rfl, if_neg Bool.false_ne_true]
      exact ⟨_, rfl, rfl⟩
end AT
