/- Texts: written and read back. -/
import Derived.Test.YtlemonjnolciiaaGreatDoorQTx6
import Derived.Test.YtlemonjnolciiaaGreatDoorQVEq
import Derived.Test.YtlemonjnolciiaaGreatDoorP1
set_option linter.unusedSimpArgs false
set_option linter.unusedVariables false
namespace AT
theorem drawR {fu : Nat} (hfu : 2097153 ≤ fu) {x : List By} (hc : Cur ⟨x, 0, ⟨0⟩⟩ 0) : ∃ n r, spec_DrawFormatRoute fu x = some (n, r) ∧ NetB n ∧ r.Fibers.length ≤ 2097152 := by
  unfold spec_DrawFormatRoute spec_DrawIsValidRoute
  obtain ⟨n, c1, g1, h1, k1⟩ := anyNetwork_ok hfu hc (by omega)
  obtain ⟨r, c2, g2, h2, -⟩ := anyRoute_ok hfu k1 (by omega) (n := n) (by have := h1.f2; omega) (by have := h1.n2; omega)
  simp only [g1, g2, Option.bind_some]
  exact ⟨_, _, rfl, h1.B, by omega⟩
theorem drawB {fu : Nat} {x : List By} (hc : Cur ⟨x, 0, ⟨0⟩⟩ 0) : ∃ b, spec_DrawFormatBlock fu x = some b := by
  unfold spec_DrawFormatBlock spec_DrawIsValidBlock spec_l1Cur_one
  obtain ⟨r1, c1, g1, -, -, k1⟩ := pick_ok (fu := fu) hc (by omega) 3 (by decide)
  obtain ⟨r2, c2, g2, -, -, k2⟩ := pick_ok (fu := fu) k1 (by omega) 26 (by decide)
  obtain ⟨r3, c3, g3, -, -, k3⟩ := pick_ok (fu := fu) k2 (by omega) 27 (by decide)
  obtain ⟨b, c4, g4, -⟩ := block_ok (fu := fu) k1 (by omega)
  simp only [g1, g2, g3, g4, Option.bind_some]
  split <;> exact ⟨_, rfl⟩
theorem drawP {fu : Nat} (hfu : 2097153 ≤ fu) {x : List By} (hc : Cur ⟨x, 0, ⟨0⟩⟩ 0) : ∃ p, spec_DrawFormatPlan fu x = some p ∧ PlanB p := by
  unfold spec_DrawFormatPlan spec_DrawIsValidPlan
  obtain ⟨p, c1, g1, h1, -⟩ := anyPlan_ok hfu hc (by omega)
  simp only [g1, Option.bind_some]
  exact ⟨_, rfl, h1.B⟩
theorem FnTexts_true (x0 : List By) (o0 : ok_ByS x0) : ∃ fu, laws_FnTexts fu x0 = some true := by
  obtain ⟨fu, hfu⟩ : ∃ fu, 2097153 ≤ fu := ⟨2097153, Nat.le_refl _⟩
  refine ⟨fu, ?_⟩
  unfold laws_FnTexts laws_vBig
  by_cases hb : (x0.length : Int) > 65536
  · simp only [hb, decide_true, Option.bind_some, if_true]
  simp only [hb, decide_false, Option.bind_some, Bool.false_eq_true, if_false]
  have hc : Cur ⟨x0, 0, ⟨0⟩⟩ 0 := start_cur o0.1 (by omega)
  have e0 : ByteArray.empty = mkB [] := rfl
  obtain ⟨n, r, g1, hN, hR⟩ := drawR hfu hc
  obtain ⟨b, g2⟩ := drawB (fu := fu) hc
  obtain ⟨p, g3, hP⟩ := drawP hfu hc
  obtain ⟨l, g4, hl⟩ := drawText hfu o0.1 (by omega)
  rw [g1, Option.bind_some]
  dsimp only
  have s1 : ∃ y4, impl_ParseNetwork fu (if netOk n = true then (mkB (fmtN n), true) else (ByteArray.empty, false)).1 = some y4 ∧ (netOk n = true → y4 = (n, true)) := by
    by_cases h : netOk n = true
    · rw [if_pos h]; exact ⟨_, parseN_back hfu h, fun _ => rfl⟩
    · rw [if_neg h]
      obtain ⟨m, c, hm, -⟩ := parseN_ex (fu := fu) hfu [] (by simp)
      exact ⟨_, hm, fun h' => absurd h' h⟩
  obtain ⟨y4, p4, q4⟩ := s1
  have t1 : ((spec_IsValidNetwork fu n).bind fun y5 => if (if netOk n = true then (mkB (fmtN n), true) else (ByteArray.empty, false)).2 != y5 then some true else if (if netOk n = true then (mkB (fmtN n), true) else (ByteArray.empty, false)).2 then if !y4.2 then some true else (laws_vNetworks fu y4.1 n).bind fun y6 => some (!y6) else some false) = some false := by
    unfold spec_IsValidNetwork
    rw [specNet_eq hfu n hN, Option.bind_some, Option.bind_some]
    by_cases h : netOk n = true
    · rw [q4 h, h, if_pos rfl]
      simp [vNetworks_self hfu n hN]
    · rw [if_neg h, Bool.eq_false_iff.2 h]
      simp
  rw [formatN_eq hfu n hN, Option.bind_some, p4, Option.bind_some, t1, Option.bind_some, if_neg (by decide)]
  have s2 : ∃ y8, impl_ParseRoute fu n (if rtOk n r = true then (mkB (fmtRt n r), true) else (ByteArray.empty, false)).1 = some y8 ∧ (rtOk n r = true → y8 = (r, true)) := by
    by_cases h : rtOk n r = true
    · rw [if_pos h]; exact ⟨_, parseR_back hfu h, fun _ => rfl⟩
    · rw [if_neg h]
      obtain ⟨m, c, hm, -⟩ := parseR_ex (fu := fu) hfu hN [] (by simp)
      exact ⟨_, hm, fun h' => absurd h' h⟩
  obtain ⟨y8, p8, q8⟩ := s2
  have t2 : ((spec_IsValidRoute fu n r).bind fun y9 => if (if rtOk n r = true then (mkB (fmtRt n r), true) else (ByteArray.empty, false)).2 != y9 then some true else if (if rtOk n r = true then (mkB (fmtRt n r), true) else (ByteArray.empty, false)).2 then if !y8.2 then some true else (laws_vRoutes fu y8.1 r).bind fun y10 => some (!y10) else some false) = some false := by
    unfold spec_IsValidRoute
    rw [l4Good_eq hfu n r hN hR, Option.bind_some, Option.bind_some]
    rw [show (netOk n && (rnodes n r).isSome) = rtOk n r from rfl]
    by_cases h : rtOk n r = true
    · rw [q8 h, h, if_pos rfl]
      simp [laws_vRoutes, vInts_self hfu _ hR]
    · rw [if_neg h, Bool.eq_false_iff.2 h]
      simp
  rw [formatR_eq hfu n r hN hR, Option.bind_some, p8, Option.bind_some, t2, Option.bind_some, if_neg (by decide)]
  have s3 : ∃ y13, impl_ParseBlock fu (if blkOk b = true then (mkB (fmtB b), true) else (ByteArray.empty, false)).1 = some y13 ∧ (blkOk b = true → y13 = (b, true)) := by
    by_cases h : blkOk b = true
    · rw [if_pos h]; exact ⟨_, parseB_back h, fun _ => rfl⟩
    · rw [if_neg h]
      obtain ⟨m, c, hm⟩ := parseB_ex fu [] (by simp)
      exact ⟨_, hm, fun h' => absurd h' h⟩
  obtain ⟨y13, p13, q13⟩ := s3
  have t3 : ((spec_IsValidBlock fu b).bind fun y14 => if (if blkOk b = true then (mkB (fmtB b), true) else (ByteArray.empty, false)).2 != y14 then some true else if (if blkOk b = true then (mkB (fmtB b), true) else (ByteArray.empty, false)).2 then if !y13.2 then some true else some (!(([y13.1.First, y13.1.Count] : List Int) == ([b.First, b.Count] : List Int))) else some false) = some false := by
    unfold spec_IsValidBlock
    rw [l8Good_eq, Option.bind_some, Option.bind_some]
    by_cases h : blkOk b = true
    · rw [q13 h, h, if_pos rfl]
      simp
    · rw [if_neg h, Bool.eq_false_iff.2 h]
      simp
  rw [g2, Option.bind_some, formatB_eq, Option.bind_some, p13, Option.bind_some, t3, Option.bind_some, if_neg (by decide)]
  have s4 : ∃ y17, impl_ParsePlan fu (if planOk p = true then (mkB (fmtP p), true) else (ByteArray.empty, false)).1 = some y17 ∧ (planOk p = true → y17 = (p, true)) := by
    by_cases h : planOk p = true
    · rw [if_pos h]; exact ⟨_, parseP_back hfu h, fun _ => rfl⟩
    · rw [if_neg h]
      obtain ⟨m, c, hm, -⟩ := parseP_ex (fu := fu) hfu [] (by simp)
      exact ⟨_, hm, fun h' => absurd h' h⟩
  obtain ⟨y17, p17, q17⟩ := s4
  have t4 : ((spec_IsValidPlan fu p).bind fun y18 => if (if planOk p = true then (mkB (fmtP p), true) else (ByteArray.empty, false)).2 != y18 then some true else if (if planOk p = true then (mkB (fmtP p), true) else (ByteArray.empty, false)).2 then if !y17.2 then some true else (laws_vPlans fu y17.1 p).bind fun y19 => some (!y19) else some false) = some false := by
    unfold spec_IsValidPlan
    rw [specPlan_eq hfu p hP, Option.bind_some, Option.bind_some]
    by_cases h : planOk p = true
    · rw [q17 h, h, if_pos rfl]
      simp [vPlans_self hfu p hP]
    · rw [if_neg h, Bool.eq_false_iff.2 h]
      simp
  rw [g3, Option.bind_some, formatP_eq hfu p hP, Option.bind_some, p17, Option.bind_some, t4, Option.bind_some, if_neg (by decide)]
  obtain ⟨w, c, hw, hB, hcb⟩ := parseP_ex (fu := fu) hfu l hl
  rw [g4, Option.bind_some, hw, Option.bind_some, formatP_eq hfu w hB, Option.bind_some]
  cases c with
  | false => rfl
  | true =>
    obtain ⟨o1, o2⟩ := hcb rfl
    rw [if_neg (by simp), if_pos o1, if_pos rfl, o2, Option.bind_some, beq_self_eq_true]
end AT
