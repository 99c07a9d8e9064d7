/- PlaceAmplifiers: the program's and the reference's are one. -/
import Derived.Test.YtijgfgfolkbkoaaQLine
import Derived.Test.YtijgfgfolkbkoaaH
set_option linter.unusedSimpArgs false
namespace AT
theorem place_loop {fu : Nat} (l : List Span) (a : Amplifier) (need : Int) (hn : l.length ≤ 12) : ∀ (fk i : Nat) (o : List Amplifier) (now m : Int), o.length ≤ i → i ≤ l.length → l.length - i < fk →
    (∃ r, spec_PlaceAmplifiers_L1 fu l a need fk o now i = some (.ret r) ∧ impl_PlaceAmplifiers_L1 fu l a need fk o now i m = some (.ret r) ∧ r.1 = []) ∨
    (∃ o' n' i' m', spec_PlaceAmplifiers_L1 fu l a need fk o now i = some (.next (o', n', i')) ∧ impl_PlaceAmplifiers_L1 fu l a need fk o now i m = some (.next (o', n', i', m')) ∧ o'.length ≤ l.length) := by
  intro fk
  induction fk with
  | zero => intro i _ _ _ _ _ h; omega
  | succ fk ih =>
    intro i o now m ho hi hk
    rw [spec_PlaceAmplifiers_L1, impl_PlaceAmplifiers_L1]
    by_cases h : i < l.length
    · rw [if_pos (by simpa using h), if_pos (by simpa using h), idx_in h]
      simp only [Option.bind_some, l22Loss_eq, lossOf_eq, level_eq, isLevel_eq]
      generalize w64 (now - lossF l[i]) = x
      by_cases hx : (-10000 ≤ x ∧ x ≤ 10000) ∧ ¬ x < need
      · obtain ⟨⟨x1, x2⟩, x3⟩ := hx
        simp only [x1, x2, x3, decide_true, decide_false, Bool.and_self, Bool.not_true, Bool.false_eq_true, if_false, Option.bind_some, w64_inc h (show (l.length : Int) ≤ 9223372036854775807 by omega)]
        have ha : ∀ z : Amplifier, app o [z] = some (o ++ [z]) := fun z => by unfold app; rw [if_pos (by simp; omega)]
        simp only [ha, Option.bind_some, amplified_eq, l22Raise_eq]
        by_cases h2 : i + 1 < l.length
        · have h2' : ((i + 1 : Nat) : Int) < l.length := by omega
          simp only [h2', decide_true, if_true, idx_in h2, Option.bind_some]
          by_cases h3 : w64 (x - lossF l[i + 1]) < need
          · simp only [h3, decide_true, if_true]
            exact ih (i + 1) _ _ _ (by simp; omega) h (by omega)
          · simp only [h3, decide_false, Bool.false_eq_true, if_false]
            exact ih (i + 1) _ _ _ (by omega) h (by omega)
        · have h2' : ¬ ((i + 1 : Nat) : Int) < l.length := by omega
          simp only [h2', decide_false, Bool.false_eq_true, if_false, Option.bind_some]
          exact ih (i + 1) _ _ _ (by omega) h (by omega)
      · left
        refine ⟨([], false), ?_, ?_, rfl⟩
        · by_cases y : -10000 ≤ x ∧ x ≤ 10000
          · have y3 : x < need := by
              rcases Int.lt_or_le x need with y3 | y3
              · exact y3
              · exact absurd ⟨y, by omega⟩ hx
            simp [y.1, y.2, y3]
          · have : (decide (-10000 ≤ x) && decide (x ≤ 10000)) = false := by rw [Bool.eq_false_iff]; simpa using y
            simp [this]
        · by_cases y3 : x < need
          · simp [y3]
          · have : (decide (-10000 ≤ x) && decide (x ≤ 10000)) = false := by
              rw [Bool.eq_false_iff]
              intro hh
              simp only [Bool.and_eq_true, decide_eq_true_eq] at hh
              exact hx ⟨hh, y3⟩
            simp [y3, this]
    · obtain rfl : i = l.length := by omega
      rw [if_neg (by simp), if_neg (by simp)]
      exact .inr ⟨_, _, _, _, rfl, rfl, ho⟩
theorem main_FnExactPlaceAmplifiers {fu : Nat} (hfu : 2097153 ≤ fu) {x0 : List Span} {x1 : Amplifier} {x2 x3 : Int} (_ : ok_SpanS x0) (_ : ok_Amplifier x1) (_ : ok_Int x2) (_ : ok_Int x3) (_ : B_SpanS x0) (_ : B_Amplifier x1) :
    ∃ w, spec_PlaceAmplifiers fu x0 x1 x2 x3 = some w ∧ impl_PlaceAmplifiers fu x0 x1 x2 x3 = some w ∧ B_AmplifierS w.1 := by
  unfold spec_PlaceAmplifiers impl_PlaceAmplifiers
  rw [isLine_eq hfu, l22Line_eq hfu]
  simp only [isAmplifier_eq, l22Kind_eq, level_eq, isLevel_eq, Option.bind_some]
  have nil : B_AmplifierS [] := ⟨by simp, by simp⟩
  obtain ⟨b1, h1⟩ : ∃ b, b = lineOk x0 := ⟨_, rfl⟩
  obtain ⟨b2, h2⟩ : ∃ b, b = ampOk x1 := ⟨_, rfl⟩
  obtain ⟨b3, h3⟩ : ∃ b, b = (decide (-10000 ≤ x2) && decide (x2 ≤ 10000)) := ⟨_, rfl⟩
  obtain ⟨b4, h4⟩ : ∃ b, b = (decide (-10000 ≤ x3) && decide (x3 ≤ 10000)) := ⟨_, rfl⟩
  simp only [← h1, ← h2, ← h3, ← h4]
  cases b1
  · exact ⟨_, rfl, rfl, nil⟩
  cases b2
  · exact ⟨_, rfl, rfl, nil⟩
  cases b3
  · exact ⟨_, rfl, rfl, nil⟩
  cases b4
  · exact ⟨_, rfl, rfl, nil⟩
  obtain ⟨hl, -⟩ := loss_range h1.symm
  simp only [Bool.not_true, Bool.false_eq_true, if_false, Option.bind_some]
  have g := place_loop (fu := fu) x0 x1 x3 hl fu 0 [] x2 x1.After (by simp) (by omega) (by omega)
  rw [Int.ofNat_zero] at g
  rcases g with ⟨r, g1, g2, g3⟩ | ⟨o, n', i', m', g1, g2, g3⟩
  · rw [g1, g2]
    exact ⟨r, rfl, rfl, by rw [g3]; exact nil⟩
  · rw [g1, g2]
    exact ⟨_, rfl, rfl, by simp only; omega, fun _ _ => trivial⟩
end AT
