/- NoiseSum: the program's and the reference's are one. -/
import Derived.Test.YtijgfgfolkbkoaaQLin
import Derived.Test.YtijgfgfolkbkoaaQAmp
import Derived.Test.YtijgfgfolkbkoaaH
namespace AT
theorem noise_loop {fu : Nat} (hfu : 200 ≤ fu) (l : List Amplifier) (hn : l.length ≤ 2097152) : ∀ (fk i : Nat) (s : Int), i ≤ l.length → l.length - i < fk → ∃ o, spec_NoiseSum_L1 fu l fk s i = some o ∧ impl_NoiseSum_L1 fu l fk s i = some o := by
  intro fk
  induction fk with
  | zero => intro i s _ h; omega
  | succ fk ih =>
    intro i s hi hk
    rw [spec_NoiseSum_L1, impl_NoiseSum_L1]
    by_cases h : i < l.length
    · rw [if_pos (by simpa using h), if_pos (by simpa using h), idx_in h]
      simp only [Option.bind_some, hasLinear_eq]
      cases hl : linOk l[i].Noise
      · rw [linear_no fu hl]
        exact ⟨_, rfl, rfl⟩
      · obtain ⟨a, h1, h2, h3, -, -⟩ := linear_yes hfu hl
        rw [h1, h2]
        have : ¬ a = 0 := by omega
        simp only [Option.bind_some, beq_iff_eq, this, if_false, Bool.not_true, Bool.false_eq_true]
        rw [w64_inc h (by omega)]
        exact ih _ _ h (by omega)
    · obtain rfl : i = l.length := by omega
      rw [if_neg (by simp), if_neg (by simp)]
      exact ⟨_, rfl, rfl⟩
theorem main_FnExactNoiseSum {fu : Nat} (hfu : 2097153 ≤ fu) {x0 : List Amplifier} (_ : ok_AmplifierS x0) (b : B_AmplifierS x0) : ∃ w, spec_NoiseSum fu x0 = some w ∧ impl_NoiseSum fu x0 = some w := by
  have hl := b.1
  unfold spec_NoiseSum impl_NoiseSum
  rw [areAmplifiers_eq x0 12 (by omega) hl, l22List_eq x0 12 (by omega) hl]
  simp only [Option.bind_some]
  generalize hc : (if ((x0.length : Int) == 0) = true then some true else some (!ampsOk x0 12) : Option Bool) = c
  have : ∃ d, c = some d := by rw [← hc]; split <;> exact ⟨_, rfl⟩
  obtain ⟨d, rfl⟩ := this
  simp only [Option.bind_some]
  cases d
  · simp only [Bool.false_eq_true, if_false]
    obtain ⟨o, h1, h2⟩ := noise_loop (fu := fu) (by omega) x0 hl fu 0 0 (by omega) (by omega)
    rw [Int.ofNat_zero] at h1 h2
    rw [h1, h2]
    cases o with
    | ret r => exact ⟨r, rfl, rfl⟩
    | next z =>
      simp only [Option.bind_some, Out.on, l1In_eq, impl_LevelOf, within_eq]
      obtain ⟨r, h3, h4⟩ := levelOf_eq (fu := fu) (by omega) z.1 fu 0 (by decide) (by omega)
      simp only [spec_l22Of, h3, h4, Option.bind_some]
      split <;> exact ⟨_, rfl, rfl⟩
  · exact ⟨_, rfl, rfl⟩
end AT
