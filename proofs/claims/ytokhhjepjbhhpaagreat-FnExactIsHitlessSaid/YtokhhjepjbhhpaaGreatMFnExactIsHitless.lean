/- IsHitless: the program's and the reference's are one. -/
import Derived.Test.YtokhhjepjbhhpaaGreatQActs
import Derived.Test.YtokhhjepjbhhpaaGreatH
set_option linter.unusedSimpArgs false
namespace AT
theorem hit_loop {fu : Nat} (hfu : 2097153 ≤ fu) (l : List Action) (hA : ActsB l) : ∀ (fk i : Nat) (q : Plan), planOk q = true → PlanB q → i ≤ l.length → l.length - i < fk →
    ∃ o, spec_IsHitless_L1 fu l fk i q.Network.Nodes q.Network.Fibers q.Lights = some o ∧ impl_IsHitless_L1 fu l fk i q.Network.Nodes q.Network.Fibers q.Lights = some o := by
  have hl := hA.1
  intro fk
  induction fk with
  | zero => intro i _ _ _ _ h; omega
  | succ fk ih =>
    intro i q hp hB hi hk
    rw [spec_IsHitless_L1, impl_IsHitless_L1]
    by_cases h : i < l.length
    · have h' : (i : Int) < (l.length : Int) := by omega
      have ha := hA.2 _ (List.getElem_mem h)
      have hap : spec_l20Apply fu ({ Network := ({ Nodes := q.Network.Nodes, Fibers := q.Network.Fibers } : Network), Lights := q.Lights } : Plan) l[i] = some (act q l[i]) := l20Apply_eq hfu q l[i] hB hp ha
      have hai : impl_ApplyAction fu ({ Network := ({ Nodes := q.Network.Nodes, Fibers := q.Network.Fibers } : Network), Lights := q.Lights } : Plan) l[i] = some (act q l[i]) := by
        have := apply_eq hfu q l[i] hB ha
        rwa [hp] at this
      simp only [h', decide_true, if_true, idx_in h, Option.bind_some, hap, hai]
      cases hc : (act q l[i]).2
      · exact ⟨_, rfl, rfl⟩
      · simp only [Bool.not_true, Bool.false_eq_true, if_false]
        rw [w64_inc h (by omega)]
        have next := ih (i + 1) (act q l[i]).1 (act_ok hp hc) (act_B hB hp ha hc) h (by omega)
        by_cases k : l[i].Kind = 3
        · obtain ⟨m1, m2, m3⟩ := act_move k hc
          have hi' := atId_lt m1
          have hm1 : (q.Lights.any fun y => y.Id == l[i].Light.Id) = true := m1
          have hq := q
          have f1 : spec_l9Find fu ({ Network := ({ Nodes := q.Network.Nodes, Fibers := q.Network.Fibers } : Network), Lights := q.Lights } : Plan) l[i].Light.Id = some ((atId q.Lights l[i].Light.Id : Nat) : Int) := by
            have hq1 := hB.2.1
            have := l9Find_eq (fu := fu) q l[i].Light.Id (by omega) hB.2.1
            rw [hm1] at this; exact this
          have f2 : impl_lightAt fu ({ Network := ({ Nodes := q.Network.Nodes, Fibers := q.Network.Fibers } : Network), Lights := q.Lights } : Plan) l[i].Light.Id = some ((atId q.Lights l[i].Light.Id : Nat) : Int) := by
            have hq1 := hB.2.1
            have := lightAt_eq (fu := fu) q l[i].Light.Id (by omega) hB.2.1
            rw [hm1] at this; exact this
          have hF := planF hp
          have l1 := hF.light _ (gd_mem l0 hi')
          have hF2 := planF m2
          have l2 : LightF q.Network l[i].Light := hF2.light _ (List.mem_set hi' _)
          have k' : (l[i].Kind == 3) = true := by rw [beq_iff_eq]; exact k
          simp only [k', if_true, f1, f2, idx_gd l0 hi', Option.bind_some, l9Collide_eq hfu l1 l2, collide_eq hfu l1 l2]
          cases coll (gd q.Lights (atId q.Lights l[i].Light.Id) l0) l[i].Light
          · simp only [Bool.false_eq_true, if_false]
            exact next
          · exact ⟨_, rfl, rfl⟩
        · have k' : (l[i].Kind == 3) = false := by rw [beq_eq_false_iff_ne]; exact k
          simp only [k', Bool.false_eq_true, if_false, Option.bind_some]
          exact next
    · obtain rfl : i = l.length := by omega
      rw [if_neg (by simp), if_neg (by simp)]
      exact ⟨_, rfl, rfl⟩
theorem main_FnExactIsHitless {fu : Nat} (hfu : 2097153 ≤ fu) {x0 : Plan} {x1 : List Action} (_ : ok_Plan x0) (_ : ok_ActionS x1) (b0 : B_Plan x0) (b1 : B_ActionS x1) : ∃ w, spec_IsHitless fu x0 x1 = some w ∧ impl_IsHitless fu x0 x1 = some w := by
  have hB : PlanB x0 := ⟨⟨b0.1.1, b0.1.2.1⟩, b0.2.1, fun x hx => (b0.2.2 x hx).1.1⟩
  have hA : ActsB x1 := ⟨b1.1, fun x hx => (b1.2 x hx).1.1⟩
  have hl := hA.1
  unfold spec_IsHitless impl_IsHitless
  rw [specPlan_eq hfu x0 hB, implPlan_eq hfu x0 hB]
  simp only [Option.bind_some]
  cases hp : planOk x0
  · exact ⟨_, rfl, rfl⟩
  · by_cases h : (x1.length : Int) > 8
    · simp only [Bool.not_true, Bool.false_eq_true, if_false, h, decide_true, Option.bind_some, if_true]
      exact ⟨_, rfl, rfl⟩
    · obtain ⟨o, h1, h2⟩ := hit_loop hfu x1 hA fu 0 x0 hp hB (by omega) (by omega)
      rw [show ((0 : Nat) : Int) = 0 from rfl] at h1 h2
      simp only [Bool.not_true, Bool.false_eq_true, if_false, h, decide_false, Option.bind_some, l9Own_eq hfu x0 hB, h1, h2]
      cases o with
      | ret r => exact ⟨_, rfl, rfl⟩
      | next z => exact ⟨_, rfl, rfl⟩
end AT
