/- FnInverses, plainly. -/
import Derived.Test.YtiedecncmihbeaaGreatQStart0
set_option linter.unusedSimpArgs false
set_option linter.unusedVariables false
namespace AT
theorem specApply_eq {fu : Nat} (hfu : 2097153 ≤ fu) (p : Plan) (a : Action) (hB : PlanB p) (ha : a.Light.Route.Fibers.length ≤ 2097152) : spec_ApplyAction fu p a = some (if planOk p = true then act p a else (zeroP, false)) := by
  unfold spec_ApplyAction
  rw [specPlan_eq hfu p hB]
  simp only [Option.bind_some]
  cases hp : planOk p
  · rfl
  · simp only [Bool.not_true, Bool.false_eq_true, if_false, if_true, l20Apply_eq hfu p a hB hp ha]
    rfl
theorem FnInverses_true (x0 : List By) (o0 : ok_ByS x0) : ∃ fu, laws_FnInverses fu x0 = some true := by
  obtain ⟨fu, hfu⟩ : ∃ fu, 2097153 ≤ fu := ⟨2097153, Nat.le_refl _⟩
  refine ⟨fu, ?_⟩
  unfold laws_FnInverses laws_vBig
  by_cases hb : (x0.length : Int) > 65536
  · simp only [hb, decide_true, Option.bind_some, if_true]
  simp only [hb, decide_false, Option.bind_some, Bool.false_eq_true, if_false]
  have hc : Cur ⟨x0, 0, ⟨0⟩⟩ 0 := start_cur o0.1 (by omega)
  obtain ⟨p, a, g1, h1, h2⟩ := drawAction hfu hc
  obtain ⟨r, l, g2, h3, h4, h5⟩ := drawActions hfu hc
  have hB := h1.B
  have hA : ActsB l := ⟨by omega, fun x hx => by have := h5 x hx; omega⟩
  have ha : a.Light.Route.Fibers.length ≤ 2097152 := by omega
  obtain ⟨w, q1, q2, q3⟩ := hit_both hfu r l h3.B hA
  have d1 : spec_DrawInverseAction fu x0 = some (p, a) := by unfold spec_DrawInverseAction; rw [g1]; rfl
  have d2 : spec_DrawIsHitless fu x0 = some (r, l) := by unfold spec_DrawIsHitless; rw [g2]; rfl
  -- the second half, which stands twice
  have last : ((impl_ApplyActions fu r l).bind fun y15 => (if !w.1 then some true else if y15.2.2 then some (y15.2.1 == (l.length : Int)) else some false).bind fun c35 => some c35) = some true := by
    rw [applyActions_eq hfu r l h3.B hA, Option.bind_some]
    cases hw : w.1
    · rfl
    · obtain ⟨k1, k2, k3⟩ := q3 hw
      simp [k1, k2, k3]
  simp only [d1, d2, Option.bind_some, inverse_eq hfu p a hB ha, apply_eq hfu p a hB ha, specApply_eq hfu p a hB ha, q1, q2, bne_self_eq_false, Bool.false_eq_true, if_false, last]
  cases hp : planOk p
  · simp
  · cases hk : (act p a).2
    · simp [hk]
    · have hq := act_ok hp hk
      have hqB := act_B hB hp ha hk
      have hi := inv_len hB ha hk
      simp only [hk, and_self, if_true, bne_self_eq_false, Bool.false_eq_true, if_false, Option.bind_some, apply_eq hfu _ _ hqB hi, hq, act_inv hp hk, Bool.not_true, vPlans_self hfu p hB]
end AT
