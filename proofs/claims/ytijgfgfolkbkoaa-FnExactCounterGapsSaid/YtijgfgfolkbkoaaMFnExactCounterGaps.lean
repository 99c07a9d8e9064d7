/- CounterGaps: the program's and the reference's are one. -/
import Derived.Test.YtijgfgfolkbkoaaQFrames
import Derived.Test.YtijgfgfolkbkoaaH
set_option linter.unusedSimpArgs false
namespace AT
theorem gaps_loop {fu : Nat} (l : List Frame) (hn : l.length ≤ 2097152) : ∀ (fk i : Nat) (o : List Int), 1 ≤ i → o.length ≤ i → l.length - i < fk → ∃ r, spec_CounterGaps_L1 fu l fk o i = some r ∧ impl_CounterGaps_L1 fu l fk o i = some r ∧ r.1.length ≤ max i l.length := by
  intro fk
  induction fk with
  | zero => intro i _ _ _ h; omega
  | succ fk ih =>
    intro i o h1 ho hk
    rw [spec_CounterGaps_L1, impl_CounterGaps_L1]
    by_cases h : i < l.length
    · rw [if_pos (by simpa using h), if_pos (by simpa using h), idx_in h, w64_dec h1 (by omega), idx_in (show i - 1 < l.length by omega)]
      have ha : app o [(i : Int)] = some (o ++ [(i : Int)]) := by unfold app; rw [if_pos (by simp; omega)]
      simp only [Option.bind_some, rem, ha, w64_inc h (show (l.length : Int) ≤ 9223372036854775807 by omega)]
      simp only [show ¬ ((256 : Int) = 0) by decide, if_false, Option.bind_some]
      split
      · obtain ⟨r, g1, g2, g3⟩ := ih (i + 1) (o ++ [(i : Int)]) (by omega) (by simp; omega) (by omega)
        exact ⟨r, g1, g2, by omega⟩
      · obtain ⟨r, g1, g2, g3⟩ := ih (i + 1) o (by omega) (by omega) (by omega)
        exact ⟨r, g1, g2, by omega⟩
    · rw [if_neg (by simp; omega), if_neg (by simp; omega)]
      exact ⟨_, rfl, rfl, by simp only; omega⟩
theorem main_FnExactCounterGaps {fu : Nat} (hfu : 2097153 ≤ fu) {x0 : List Frame} (_ : ok_FrameS x0) (b : B_FrameS x0) : ∃ w, spec_CounterGaps fu x0 = some w ∧ impl_CounterGaps fu x0 = some w ∧ B_IntS w.1 := by
  unfold spec_CounterGaps impl_CounterGaps
  rw [areFrames_eq hfu, l23Frames_eq hfu]
  have hl := b.1
  cases hf : areOk x0
  · exact ⟨_, rfl, rfl, by simp, by simp⟩
  · obtain ⟨r, g1, g2, g3⟩ := gaps_loop (fu := fu) x0 hl fu 1 [] (by omega) (by simp) (by omega)
    rw [show ((1 : Nat) : Int) = 1 from rfl] at g1 g2
    simp only [Option.bind_some, Bool.not_true, Bool.false_eq_true, if_false, g1, g2]
    exact ⟨_, rfl, rfl, by simp only; omega, fun _ _ => trivial⟩
end AT
