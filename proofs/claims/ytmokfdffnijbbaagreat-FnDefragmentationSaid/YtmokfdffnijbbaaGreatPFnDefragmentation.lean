/- FnDefragmentation, plainly. -/
import Derived.Test.YtmokfdffnijbbaaGreatQVEq
set_option linter.unusedSimpArgs false
set_option linter.unusedVariables false
namespace AT
theorem one_okF {fu : Nat} {c : L1CurP} {k : Int} (hc : Cur c k) (hk : k ≤ 4611686018427387000) (n : Int) (hn : n ≤ 1099511627776) : ∃ r c', spec_l1Cur_one fu c n = some (r, c') ∧ Cur c' (k + 2) := by
  unfold spec_l1Cur_one
  obtain ⟨r, c', g1, -, -, g4⟩ := pick_ok (fu := fu) hc hk n hn
  rw [g1]
  exact ⟨_, _, rfl, g4⟩
theorem drawDefrag {fu : Nat} (hfu : 2097153 ≤ fu) {x : List By} (hc : Cur ⟨x, 0, ⟨0⟩⟩ 0) : ∃ p b m, spec_DrawDefragment fu x = some (p, b, m) ∧ PlanD p := by
  unfold spec_DrawDefragment
  obtain ⟨p, c1, a1, a2, a3⟩ := anyPlan_ok hfu hc (by omega)
  obtain ⟨b, c2, b1, b2⟩ := one_okF (fu := fu) a3 (by omega) 2 (by omega)
  obtain ⟨u, c4, u1, -, u3⟩ := among_ok (fu := fu) b2 (by omega) [60, 60, 60, 1, 2, 0, 61, -1] (by simp) (by simp)
  simp only [a1, b1, u1, Option.bind_some]
  exact ⟨_, _, _, rfl, a2⟩
theorem vRoutes_self {fu : Nat} (hfu : 2097153 ≤ fu) (r : Route) (h : r.Fibers.length ≤ 2097152) : laws_vRoutes fu r r = some true := by
  unfold laws_vRoutes
  rw [vInts_self hfu _ h, beq_self_eq_true, if_pos rfl]
  rfl
theorem same_loop {fu : Nat} (hfu : 2097153 ≤ fu) {p q : Plan} (hB : PlanB p) (hs : p.Lights.length ≤ 12) (hD : Dn p q) (ids : List Int) (b : Bool) : ∀ (fk i : Nat), i ≤ p.Lights.length → p.Lights.length - i < fk → laws_FnDefragmentation_L1 fu (q, ids, b) fk i p.Lights = some (.next ((p.Lights.length : Int), p.Lights)) := by
  intro fk
  induction fk with
  | zero => intro i _ h; omega
  | succ fk ih =>
    intro i hi hk
    rw [laws_FnDefragmentation_L1]
    by_cases h : i < p.Lights.length
    · obtain ⟨a1, a2, a3, a4⟩ := hD.at_ i h
      have hl := hD.len
      have hr := hB.2.2 _ (gd_mem l0 h)
      have hq : idx q.Lights (i : Int) = some (gd q.Lights i l0) := idx_gd l0 (by omega)
      have hgt : ¬ ((gd q.Lights i l0).Block.First > (gd p.Lights i l0).Block.First) := by omega
      rw [if_pos (by simpa using h), idx_gd l0 h, Option.bind_some]
      show ((idx q.Lights (i : Int)).bind _) = _
      rw [hq, Option.bind_some, a1, a2, a3, vRoutes_self hfu _ hr, decide_eq_false hgt, bne_self_eq_false, bne_self_eq_false, if_neg Bool.false_ne_true, Option.bind_some, if_neg (show ¬ (!true) = true by decide), if_neg Bool.false_ne_true, Option.bind_some, if_neg Bool.false_ne_true, w64_inc h (by omega)]
      exact ih (i + 1) h (by omega)
    · obtain rfl : i = p.Lights.length := by omega
      rw [if_neg (by simp)]
theorem last_ok {fu : Nat} (hfu : 2097200 ≤ fu) {p q : Plan} (hB : PlanB p) (hp : planOk p = true) (hqB : PlanB q) (hq : planOk q = true) (hD : Dn p q) :
    ((impl_LowestHeight fu p).bind fun y10 =>
      (impl_CompactPlan fu p).bind fun y11 =>
      (impl_PlanHeight fu q).bind fun y12 =>
      (impl_PlanHeight fu y11.1).bind fun y13 =>
      (if (y10.2 == y11.2) = true then if y12.2 = true then if (!y10.2) = true then some true
      else if y13.2 = true then if (y13.1 == y10.1) = true then if decide (y12.1 ≥ y10.1) = true then (impl_IsValidPlan fu y11.1).bind fun y14 =>
      some y14
      else some false
      else some false
      else some false
      else some false
      else some false).bind fun c24 =>
      some c24) = some true := by
  have hl := hB.2.1
  have h12 := (planF hp).short
  have hlow : impl_LowestHeight fu p = some ((if p.Lights.length ≤ 7 then (exR (reqsOf p)).2.1 else 0), (if p.Lights.length ≤ 7 then (exR (reqsOf p)).2.2 else false)) := by
    unfold impl_LowestHeight
    rw [implPlan_eq (by omega) p hB, hp, Option.bind_some, if_neg (show ¬ (!true) = true by decide), implReqsOf_eq (by omega) p hl, Option.bind_some, assignExact_eq hfu _ _ hB.1 (reqsOf_B hB), reqsOk_of hp, Option.bind_some]
    by_cases h7 : p.Lights.length ≤ 7
    · rw [decide_eq_true h7, if_pos rfl, if_pos h7, if_pos h7]
    · rw [decide_eq_false h7, if_neg Bool.false_ne_true, if_neg h7, if_neg h7]
  have hcmp : impl_CompactPlan fu p = some (if p.Lights.length ≤ 7 then (match ex (reqsOf p) with | some (full, _) => (withB p full, true) | none => (⟨⟨[], []⟩, []⟩, false)) else (⟨⟨[], []⟩, []⟩, false)) := by
    unfold impl_CompactPlan
    rw [implPlan_eq (by omega) p hB, hp, Option.bind_some, if_neg (show ¬ (!true) = true by decide), implReqsOf_eq (by omega) p hl, Option.bind_some, assignExact_eq hfu _ _ hB.1 (reqsOf_B hB), reqsOk_of hp, Option.bind_some]
    by_cases h7 : p.Lights.length ≤ 7
    · have hF : ReqF (reqsOf p) := reqF (n := p.Network) (by rw [reqsOk_of hp]; exact decide_eq_true h7)
      rw [decide_eq_true h7, if_pos rfl, if_pos h7]
      unfold exR
      cases he : ex (reqsOf p) with
      | none => rfl
      | some z =>
        obtain ⟨full, h⟩ := z
        obtain ⟨-, a2, -⟩ := ex_some hF he
        rw [reqsOf_len] at a2
        simp only [Bool.not_true, Bool.false_eq_true, if_false]
        rw [copyPlan_eq (by omega) p hB, Option.bind_some, implCompact_loop p full h true a2 (by omega) (by omega)]
        rfl
    · rw [decide_eq_false h7, if_neg Bool.false_ne_true, if_neg h7]
      rfl
  have hzB : PlanB (⟨⟨[], []⟩, []⟩ : Plan) := ⟨⟨⟨by simp, by simp⟩, by simp⟩, by simp, by simp⟩
  have hzH : ∃ z, impl_PlanHeight fu (⟨⟨[], []⟩, []⟩ : Plan) = some z := by
    unfold impl_PlanHeight
    rw [implPlan_eq (by omega) _ hzB, Option.bind_some]
    have : planOk (⟨⟨[], []⟩, []⟩ : Plan) = false := by
      unfold planOk netOk
      simp
    rw [this]
    exact ⟨_, rfl⟩
  obtain ⟨z0, hz0⟩ := hzH
  rw [hlow, Option.bind_some, hcmp, Option.bind_some, planHeight_eq (by omega) hqB hq, Option.bind_some]
  by_cases h7 : p.Lights.length ≤ 7
  · have hF : ReqF (reqsOf p) := reqF (n := p.Network) (by rw [reqsOk_of hp]; exact decide_eq_true h7)
    simp only [h7, if_true]
    unfold exR
    cases he : ex (reqsOf p) with
    | none =>
      simp only
      rw [hz0]
      rfl
    | some z =>
      obtain ⟨full, h⟩ := z
      obtain ⟨a1, a2, a3, a4, a5, a6⟩ := ex_some hF he
      have hh := ex_hgt hF he
      rw [reqsOf_len] at a2
      have hok := withB_ok hp a4 a1 a2
      have hBB := withB_B hB full
      have hbest : hgtP (withB p full) = h := by unfold hgtP; rw [blks_withB a2, hh]
      have hA := plan_as hq hD.len fun i hi => ⟨(hD.at_ i hi).2.1, (hD.at_ i hi).2.2.1⟩
      have hle : h ≤ hgtP q := a6 (hgtP q) (blks q) (hgt_0 _) (hA.le (by omega)) hA.hgt (by rw [blks_len, reqsOf_len]; exact hD.len)
      have hge : hgtP q ≥ h := hle
      simp only
      rw [planHeight_eq (by omega) hBB hok, Option.bind_some, hbest, implPlan_eq (by omega) _ hBB, hok]
      simp only [beq_self_eq_true, if_true, Bool.not_true, Bool.false_eq_true, if_false, decide_eq_true hge, Option.bind_some]
  · simp only [h7, if_false]
    rw [hz0]
    rfl
theorem FnDefragmentation_true (x0 : List By) (o0 : ok_ByS x0) : ∃ fu, laws_FnDefragmentation fu x0 = some true := by
  obtain ⟨fu, hfu4⟩ : ∃ fu, 2097200 ≤ fu := ⟨2097200, Nat.le_refl _⟩
  have hfu : 2097153 ≤ fu := by omega
  refine ⟨fu, ?_⟩
  unfold laws_FnDefragmentation laws_vBig
  by_cases hb : (x0.length : Int) > 65536
  · simp only [hb, decide_true, Option.bind_some, if_true]
  simp only [hb, decide_false, Option.bind_some, Bool.false_eq_true, if_false]
  have hc : Cur ⟨x0, 0, ⟨0⟩⟩ 0 := start_cur o0.1 (by omega)
  obtain ⟨p, hit, m, g1, h1⟩ := drawDefrag hfu hc
  have hB := h1.B
  rw [g1, Option.bind_some]
  have hzB : PlanB (⟨⟨[], []⟩, []⟩ : Plan) := ⟨⟨⟨by simp, by simp⟩, by simp⟩, by simp, by simp⟩
  by_cases hv : planOk p = true ∧ 0 ≤ m ∧ m ≤ 60
  · obtain ⟨hp, m0, m1⟩ := hv
    obtain ⟨L, rfl⟩ := Int.eq_ofNat_of_zero_le m0
    obtain ⟨q, ids, z, z', d1, d2, d3, d4, d5, d6, d7⟩ := defrag_valid hfu hit L (by omega) p fu 0 p [] (by omega) (by omega) hB hp (Dn.refl p) rfl
    rw [show ((0 : Nat) : Int) = 0 from rfl] at d2
    rw [Nat.sub_zero] at d1
    have hm : (decide ((0 : Int) ≤ (L : Int)) && decide ((L : Int) ≤ 60)) = true := by rw [decide_eq_true m0, decide_eq_true m1]; rfl
    have hi : impl_Defragment fu p hit (L : Int) = some (q, ids, true) := by
      unfold impl_Defragment
      rw [implPlan_eq hfu p hB, hp, Option.bind_some, if_neg (show ¬ (!true) = true by decide), within_eq, hm, Option.bind_some, Option.bind_some, if_neg (show ¬ (!true) = true by decide), copyPlan_eq hfu p hB, Option.bind_some, d2]
      rfl
    have hs : spec_Defragment fu p hit (L : Int) = some (q, ids, true) := by
      unfold spec_Defragment
      rw [specPlan_eq hfu p hB, hp, Option.bind_some, if_neg (show ¬ (!true) = true by decide), l1In_eq, hm, Option.bind_some, Option.bind_some, if_neg (show ¬ (!true) = true by decide), l9Own_eq hfu p hB, Option.bind_some, d1]
      rfl
    have hq12 := (planF d4).short
    have hsame := same_loop hfu hB (planF hp).short d5 ids true fu 0 (by omega) (by have := (planF hp).short; omega)
    rw [show ((0 : Nat) : Int) = 0 from rfl] at hsame
    have hcount : ((q.Lights.length : Int) != (p.Lights.length : Int)) = false := by rw [d5.len, bne_self_eq_false]
    have hv1 : (if (true != true) = true then some true else (laws_vPlans fu q q).bind fun y5 => if (!y5) = true then some true else (laws_vInts fu ids ids).bind fun y6 => some (!y6)) = some false := by
      rw [vPlans_self hfu q d3, vInts_self hfu ids (by omega)]; rfl
    have hcomp : ∃ w, impl_lowered fu q hit = some w ∧ (ids.length < L → w.2 = 0) := by
      obtain ⟨w, -, w2, -⟩ := step_valid hfu q d3 d4 hit
      refine ⟨w, w2, fun h => ?_⟩
      have := d7 h
      rw [w2] at this
      injection this with this
      rw [this]
    obtain ⟨w, w1, w2⟩ := hcomp
    have hic : impl_IsCompact fu q hit = some (w.2 == 0, true) := by
      unfold impl_IsCompact
      rw [implPlan_eq hfu q d3, d4, Option.bind_some, if_neg (show ¬ (!true) = true by decide), w1]
      rfl
    have hcc : (if (!true) = true then some true else if decide ((ids.length : Int) < (L : Int)) = true then some (!(w.2 == 0)) else some false) = some false := by
      rw [if_neg (show ¬ (!true) = true by decide)]
      by_cases hl : ids.length < L
      · have hl' : (ids.length : Int) < (L : Int) := by omega
        rw [decide_eq_true hl', if_pos rfl, w2 hl]
        rfl
      · have hl' : ¬ (ids.length : Int) < (L : Int) := by omega
        rw [decide_eq_false hl', if_neg Bool.false_ne_true]
    have hlast := last_ok hfu4 hB hp d3 d4 d5
    show ((impl_Defragment fu p hit (L : Int)).bind _) = _
    rw [hi, Option.bind_some]
    show ((spec_Defragment fu p hit (L : Int)).bind _) = _
    rw [hs, Option.bind_some]
    show ((if (true != true) = true then some true else (laws_vPlans fu q q).bind fun y5 => if (!y5) = true then some true else (laws_vInts fu ids ids).bind fun y6 => some (!y6)).bind _) = _
    rw [hv1, Option.bind_some, if_neg Bool.false_ne_true, if_neg (show ¬ (!true) = true by decide)]
    show (((impl_IsValidPlan fu q).bind _).bind _) = _
    rw [implPlan_eq hfu q d3, d4, Option.bind_some, if_neg (show ¬ (!true) = true by decide), hcount, Option.bind_some, if_neg Bool.false_ne_true]
    show ((laws_FnDefragmentation_L1 fu (q, ids, true) fu 0 p.Lights).bind _) = _
    rw [hsame, Option.bind_some]
    show ((impl_IsCompact fu q hit).bind _) = _
    rw [hic, Option.bind_some]
    show ((if (!true) = true then some true else if decide ((ids.length : Int) < (L : Int)) = true then some (!(w.2 == 0)) else some false).bind _) = _
    rw [hcc, Option.bind_some, if_neg Bool.false_ne_true]
    exact hlast
  · have hi : impl_Defragment fu p hit m = some (⟨⟨[], []⟩, []⟩, [], false) := by
      unfold impl_Defragment
      rw [implPlan_eq hfu p hB, Option.bind_some, within_eq]
      cases hp : planOk p
      · rfl
      · have hm : (decide ((0 : Int) ≤ m) && decide (m ≤ 60)) = false := by
          rw [Bool.eq_false_iff]
          intro h
          simp only [Bool.and_eq_true, decide_eq_true_eq] at h
          exact hv ⟨hp, h⟩
        rw [hm]
        rfl
    have hs : spec_Defragment fu p hit m = some (⟨⟨[], []⟩, []⟩, [], false) := by
      unfold spec_Defragment
      rw [specPlan_eq hfu p hB, Option.bind_some, l1In_eq]
      cases hp : planOk p
      · rfl
      · have hm : (decide ((0 : Int) ≤ m) && decide (m ≤ 60)) = false := by
          rw [Bool.eq_false_iff]
          intro h
          simp only [Bool.and_eq_true, decide_eq_true_eq] at h
          exact hv ⟨hp, h⟩
        rw [hm]
        rfl
    show ((impl_Defragment fu p hit m).bind _) = _
    rw [hi, Option.bind_some]
    show ((spec_Defragment fu p hit m).bind _) = _
    rw [hs, Option.bind_some]
    show ((if (false != false) = true then some true else (laws_vPlans fu (⟨⟨[], []⟩, []⟩ : Plan) ⟨⟨[], []⟩, []⟩).bind fun y5 => if (!y5) = true then some true else (laws_vInts fu ([] : List Int) []).bind fun y6 => some (!y6)).bind _) = _
    rw [vPlans_self hfu _ hzB, vInts_self hfu _ (by simp)]
    rfl
end AT
