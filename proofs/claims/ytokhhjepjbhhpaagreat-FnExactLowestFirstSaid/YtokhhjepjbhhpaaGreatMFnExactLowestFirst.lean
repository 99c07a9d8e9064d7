/- LowestFirst: the program's and the reference's are one. -/
import Derived.Test.YtokhhjepjbhhpaaGreatQFind
import Derived.Test.YtokhhjepjbhhpaaGreatQLowB
import Derived.Test.YtokhhjepjbhhpaaGreatH
set_option linter.unusedSimpArgs false
namespace AT
theorem main_FnExactLowestFirst {fu : Nat} (hfu : 2097153 ≤ fu) {x0 : Plan} {x1 : Int} {x2 : Bool} (_ : ok_Plan x0) (_ : ok_Int x1) (_ : ok_Bool x2) (b0 : B_Plan x0) : ∃ w, spec_LowestFirst fu x0 x1 x2 = some w ∧ impl_LowestFirst fu x0 x1 x2 = some w := by
  have hB : PlanB x0 := ⟨⟨b0.1.1, b0.1.2.1⟩, b0.2.1, fun x hx => (b0.2.2 x hx).1.1⟩
  have hl := hB.2.1
  unfold spec_LowestFirst impl_LowestFirst impl_LightNumber
  rw [specPlan_eq hfu x0 hB, implPlan_eq hfu x0 hB, l9Find_eq x0 x1 (by omega) hl, lightAt_eq x0 x1 (by omega) hl]
  simp only [Option.bind_some]
  cases hp : planOk x0
  · exact ⟨_, rfl, rfl⟩
  · cases ha : x0.Lights.any fun y => y.Id == x1
    · exact ⟨_, rfl, rfl⟩
    · have hi : atId x0.Lights x1 < x0.Lights.length := atId_lt ha
      obtain ⟨r, r1, r2, -⟩ := lowBoth hfu x0 hB (planF hp) (planI hp) hi x2
      have hn : ¬ ((atId x0.Lights x1 : Nat) : Int) < 0 := by omega
      simp only [Bool.not_true, Bool.false_eq_true, if_false, if_true, hn, decide_false, Option.bind_some, r1, r2]
      exact ⟨_, rfl, rfl⟩
end AT
