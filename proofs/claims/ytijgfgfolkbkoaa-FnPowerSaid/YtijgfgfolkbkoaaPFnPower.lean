/- FnPower, plainly. -/
import Derived.Test.YtijgfgfolkbkoaaQLine2
import Derived.Test.YtijgfgfolkbkoaaQPlace
import Derived.Test.YtijgfgfolkbkoaaQWorst
set_option linter.unusedSimpArgs false
set_option linter.unusedVariables false
namespace AT
theorem place_all {fu : Nat} (hfu : 2097153 ≤ fu) (l : List Span) (a : Amplifier) (x need : Int) : ∃ w, impl_PlaceAmplifiers fu l a x need = some w ∧ spec_PlaceAmplifiers fu l a x need = some w ∧
    (w.2 = true → w.1.length ≤ 12 ∧ ∃ y, spec_l22Levels fu l w.1 x = some y ∧ y.2.2 = true ∧ ∀ e ∈ y.1, need ≤ e) := by
  unfold spec_PlaceAmplifiers impl_PlaceAmplifiers
  rw [isLine_eq hfu, l22Line_eq hfu]
  simp only [isAmplifier_eq, l22Kind_eq, level_eq, isLevel_eq, Option.bind_some]
  obtain ⟨b1, h1⟩ : ∃ b, b = lineOk l := ⟨_, rfl⟩
  obtain ⟨b2, h2⟩ : ∃ b, b = ampOk a := ⟨_, rfl⟩
  obtain ⟨b3, h3⟩ : ∃ b, b = (decide (-10000 ≤ x) && decide (x ≤ 10000)) := ⟨_, rfl⟩
  obtain ⟨b4, h4⟩ : ∃ b, b = (decide (-10000 ≤ need) && decide (need ≤ 10000)) := ⟨_, rfl⟩
  simp only [← h1, ← h2, ← h3, ← h4]
  cases b1
  · exact ⟨_, rfl, rfl, fun h => by cases h⟩
  cases b2
  · exact ⟨_, rfl, rfl, fun h => by cases h⟩
  cases b3
  · exact ⟨_, rfl, rfl, fun h => by cases h⟩
  cases b4
  · exact ⟨_, rfl, rfl, fun h => by cases h⟩
  obtain ⟨hl, hl1⟩ := loss_range h1.symm
  simp only [Bool.not_true, Bool.false_eq_true, if_false, Option.bind_some]
  have g := place_loop (fu := fu) l a need hl fu 0 [] x a.After (by simp) (by omega) (by omega)
  rw [Int.ofNat_zero] at g
  rcases g with ⟨r, g1, g2, g3⟩ | ⟨fl, n', i', m', g1, g2, g3⟩
  · rw [g1, g2]
    obtain ⟨r1, r2⟩ := r
    have hr := place_ret (fu := fu) l a need fu [] x 0 g1
    simp only at hr
    subst hr
    exact ⟨_, rfl, rfl, fun h => by cases h⟩
  · rw [g1, g2]
    have gz : spec_PlaceAmplifiers_L1 fu l a need fu [] x ((0 : Nat) : Int) = some (.next (fl, n', i')) := g1
    obtain ⟨rest, r1, r2, r3, r4, r5⟩ := place_levels hfu l a need hl h2.symm fl fu 0 [] x n' i' (by simp) (by omega) (by omega) gz
    rw [List.nil_append] at r1
    subst r1
    refine ⟨_, rfl, rfl, fun _ => ⟨by simp only; omega, ?_⟩⟩
    obtain ⟨b', a', x', p', i2, q1, q2, q3⟩ := r5 fu [] [] (by omega) rfl rfl
    have hamps : ampsOk fl (l.length : Int) = true := by
      unfold ampsOk
      rw [Bool.not_eq_true', List.any_eq_false]
      intro i hi
      have hi' := List.mem_range.1 hi
      obtain ⟨s1, s2, s3⟩ := r3 (gd fl i amp0) (by rw [gd_in amp0 hi']; exact List.getElem_mem hi')
      have e : w64 ((l.length : Int) - 1) = (l.length : Int) - 1 := w64_in (by omega) (by omega)
      have s4 : ¬ (0 < i ∧ (gd fl (i - 1) amp0).After ≥ (gd fl i amp0).After) := fun h => by
        have := r4 (i - 1) i (by omega) hi'
        exact absurd this (Int.not_lt.2 h.2)
      unfold ampBad
      generalize gd fl i amp0 = u at s1 s2 s3 s4 ⊢
      generalize gd fl (i - 1) amp0 = v at s4 ⊢
      have t1 : decide (0 ≤ u.After) = true := by simpa using s1
      have t2 : decide (u.After ≤ w64 ((l.length : Int) - 1)) = true := by rw [e]; simp; omega
      simp only [s3, t1, t2, Bool.not_true, Bool.and_self, Bool.or_self, Bool.false_or, Bool.and_eq_true, decide_eq_true_eq]
      exact s4
    unfold spec_l22Levels
    rw [l22Line_eq hfu, l22List_eq fl _ (by omega) (by omega), ← h1, hamps]
    simp only [level_eq, ← h3, Option.bind_some, Bool.not_true, Bool.false_eq_true, if_false]
    have q1' : spec_l22Levels_L1 fu l fl fu [] [] x 0 0 = some (.next (b', a', x', p', i2)) := q1
    rw [q1']
    refine ⟨_, rfl, rfl, fun e he => ?_⟩
    rcases q2 e he with q | q
    · cases q
    · exact q
theorem margin_all {fu : Nat} (hfu : 2097153 ≤ fu) (l : List Span) (as : List Amplifier) (x need : Int) (hn : as.length ≤ 2097152) : ∃ w, impl_PowerMargin fu l as x need = some w ∧ spec_PowerMargin fu l as x need = some w ∧
    (w.2 = true → ∃ y e, impl_profile fu l as x = some y ∧ y.2.2 = true ∧ 1 ≤ y.1.length ∧ y.1.length ≤ 12 ∧ y.2.1.length = y.1.length ∧ y.1.length = l.length ∧ (∀ k, gd y.1 k 0 ≤ gd y.2.1 k 0) ∧ idx y.2.1 (w64 ((y.2.1.length : Int) - 1)) = some e ∧ w.1 = w64 (e - need)) := by
  obtain ⟨y, h1, h2, h3, h4, h5⟩ := profile_eq hfu l as x hn
  unfold spec_PowerMargin impl_PowerMargin
  rw [h1, h2]
  simp only [Option.bind_some, level_eq, isLevel_eq]
  cases hy : y.2.2
  · exact ⟨_, rfl, rfl, fun h => by cases h⟩
  · obtain ⟨g1, g2, g3, g4⟩ := h5 hy
    obtain ⟨e, he, -⟩ := idx_some (l := y.2.1) (i := w64 ((y.2.1.length : Int) - 1)) (by rw [w64_in (by omega) (by omega)]; omega) (by rw [w64_in (by omega) (by omega)]; omega)
    rw [he]
    simp only [Bool.not_true, Bool.false_eq_true, if_false, Option.bind_some]
    cases (decide (-10000 ≤ need) && decide (need ≤ 10000))
    · exact ⟨_, rfl, rfl, fun h => by cases h⟩
    · cases (decide (-10000 ≤ w64 (e - need)) && decide (w64 (e - need) ≤ 10000))
      · exact ⟨_, rfl, rfl, fun h => by cases h⟩
      · exact ⟨_, rfl, rfl, fun _ => ⟨y, e, rfl, hy, g1, h3, g2, g3, g4, he, rfl⟩⟩
theorem FnPower_true (x0 : List By) (o0 : ok_ByS x0) : ∃ fu, laws_FnPower fu x0 = some true := by
  obtain ⟨fu, hfu⟩ : ∃ fu, 2097153 ≤ fu := ⟨2097153, Nat.le_refl _⟩
  refine ⟨fu, ?_⟩
  unfold laws_FnPower laws_vBig
  by_cases hb : (x0.length : Int) > 65536
  · simp only [hb, decide_true, Option.bind_some, if_true]
  simp only [hb, decide_false, Option.bind_some, Bool.false_eq_true, if_false]
  have hc : Cur ⟨x0, 0, ⟨0⟩⟩ 0 := start_cur o0.1 (by omega)
  have d1 : ∃ l a x n, spec_DrawPlaceAmplifiers fu x0 = some (l, a, x, n) := by
    unfold spec_DrawPlaceAmplifiers
    obtain ⟨r1, c1, g1, k1⟩ := level_ok (fu := fu) hc (by omega)
    obtain ⟨r2, c2, g2, -, k2⟩ := among_ok (fu := fu) k1 (by omega) [0, 100, 300, 1000, r1] (by simp) (by simp)
    obtain ⟨r3, c3, g3, -, k3⟩ := line_ok hfu k2 (by omega)
    obtain ⟨r4, c4, g4, k4⟩ := amplifier_ok (fu := fu) k3 (by omega)
    obtain ⟨r5, c5, g5, -, k5⟩ := among_ok (fu := fu) k4 (by omega) [50, 100, 300, 600, 0, 2000] (by decide) (by decide)
    simp only [g1, g2, g3, g4, g5, Option.bind_some]
    exact ⟨_, _, _, _, rfl⟩
  have d2 : ∃ l as x n, spec_DrawPowerMargin fu x0 = some (l, as, x, n) ∧ as.length ≤ 1000 := by
    unfold spec_DrawPowerMargin spec_DrawPowerProfile
    obtain ⟨r1, c1, g1, h1, k1⟩ := line_ok hfu hc (by omega)
    obtain ⟨r2, c2, g2, h2, k2⟩ := amplifiers_ok hfu k1 (by omega) r1.length (by omega)
    obtain ⟨r3, c3, g3, k3⟩ := level_ok (fu := fu) k2 (by omega)
    obtain ⟨r4, c4, g4, k4⟩ := level_ok (fu := fu) hc (by omega)
    simp only [g1, g2, g3, g4, Option.bind_some]
    exact ⟨_, _, _, _, rfl, by omega⟩
  obtain ⟨l, a, x, n, d1⟩ := d1
  obtain ⟨l2, as, x2, n2, d2, has⟩ := d2
  obtain ⟨w, p1, p2, p3⟩ := place_all hfu l a x n
  obtain ⟨v, m1, m2, m3⟩ := margin_all hfu l2 as x2 n2 (by omega)
  -- the second half, which stands twice
  have tail : v.2 = true → ∃ y9 y10, impl_PowerProfile fu l2 as x2 = some y9 ∧ impl_WorstLevel fu l2 as x2 = some y10 ∧
      (if y9.2 = true then if y10.2.2 = true then if ((y9.1.length : Int) == (l2.length : Int)) = true then (idx y9.1 (w64 ((y9.1.length : Int) - 1))).bind fun e => if (w64 (e - n2) == v.1) = true then if decide (y10.2.1 < (y9.1.length : Int)) = true then (idx y9.1 y10.2.1).bind fun e2 => some (decide (y10.1 ≤ e2)) else some false else some false else some false else some false else some false : Option Bool) = some true := by
    intro hv
    obtain ⟨y, e, q1, q2, q3, q4, q5, q6, q7, q8, q9⟩ := m3 hv
    obtain ⟨q, g1, g2⟩ := worst_of hfu q1 q2 q3 q4
    refine ⟨(y.2.1, y.2.2), _, by unfold impl_PowerProfile; rw [q1]; rfl, g1, ?_⟩
    have e1 : ((y.2.1.length : Int) == (l2.length : Int)) = true := by simp; omega
    have e2 : ((q : Int) < (y.2.1.length : Int)) = True := by simp; omega
    have e3 := idx_gd 0 (show q < y.2.1.length by omega)
    have e4 := q7 q
    simp only [q2, if_true, e1, q8, Option.bind_some, q9, beq_self_eq_true, e2, decide_true, e3, e4]
  have last : (if (!v.2) = true then (if (v.1 == v.1) = true then some (v.2 == v.2) else some false).bind fun c10 => some c10
      else (impl_PowerProfile fu l2 as x2).bind fun y9 => (impl_WorstLevel fu l2 as x2).bind fun y10 =>
        (if y9.2 = true then if y10.2.2 = true then if ((y9.1.length : Int) == (l2.length : Int)) = true then (idx y9.1 (w64 ((y9.1.length : Int) - 1))).bind fun e => if (w64 (e - n2) == v.1) = true then if decide (y10.2.1 < (y9.1.length : Int)) = true then (idx y9.1 y10.2.1).bind fun e2 => some (decide (y10.1 ≤ e2)) else some false else some false else some false else some false else some false).bind fun c12 => some c12) = some true := by
    cases hv : v.2
    · simp
    · obtain ⟨y9, y10, t1, t2, t3⟩ := tail hv
      simp only [bne_self_eq_false, Bool.false_eq_true, if_false, Bool.not_true, Option.bind_some, t1, t2, t3]
  simp only [d1, d2, p1, p2, m1, m2, Option.bind_some, bne_self_eq_false, Bool.false_eq_true, if_false]
  cases hw : w.2
  · simp only [Bool.false_eq_true, if_false]
    exact last
  · obtain ⟨hwl, y, s1, s2, s3⟩ := p3 hw
    obtain ⟨y', t1, t2, t3, t4, t5⟩ := profile_eq hfu l w.1 x (by omega)
    obtain rfl : y = y' := Option.some.inj (s1.symm.trans t1)
    obtain ⟨u1, -, -⟩ := t5 s2
    obtain ⟨q, g1, g2⟩ := worst_of hfu t2 s2 u1 t3
    have hge : ¬ (gd y.1 q 0 < n) := by
      have := s3 (gd y.1 q 0) (by rw [gd_in 0 g2]; exact List.getElem_mem g2)
      omega
    simp only [if_true, g1, Option.bind_some, Bool.not_true, Bool.false_eq_true, if_false, hge, decide_false]
    exact last
end AT
