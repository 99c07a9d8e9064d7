/- A span, plainly. -/
import Derived.Test.YtijgfgfolkbkoaaQAmp0
set_option linter.unusedSimpArgs false
namespace AT
def spanOk (s : Span) : Bool := decide (0 ≤ s.Length) && decide (s.Length ≤ 1000) && (decide (0 ≤ s.Loss) && decide (s.Loss ≤ 1000)) && (decide (0 ≤ s.Splices) && decide (s.Splices ≤ 50))
theorem l22Span_eq (fu : Nat) (s : Span) : spec_l22Span fu s = some (spanOk s) := by
  simp only [spec_l22Span, l1In_eq, Option.bind_some, spanOk]
  generalize (decide (0 ≤ s.Length) && decide (s.Length ≤ 1000)) = a
  generalize (decide (0 ≤ s.Loss) && decide (s.Loss ≤ 1000)) = b
  generalize (decide (0 ≤ s.Splices) && decide (s.Splices ≤ 50)) = c
  cases a <;> cases b <;> cases c <;> rfl
theorem isSpan_eq (fu : Nat) (s : Span) : impl_isSpan fu s = some (spanOk s) := by
  simp only [impl_isSpan, within_eq, Option.bind_some, spanOk]
  generalize (decide (0 ≤ s.Length) && decide (s.Length ≤ 1000)) = a
  generalize (decide (0 ≤ s.Loss) && decide (s.Loss ≤ 1000)) = b
  generalize (decide (0 ≤ s.Splices) && decide (s.Splices ≤ 50)) = c
  cases a <;> cases b <;> cases c <;> rfl
def lossF (s : Span) : Int := w64 (w64 ((w64 (w64 (s.Length * s.Loss) + 999)).tdiv 1000) + w64 (5 * s.Splices))
theorem l22Loss_eq (fu : Nat) (s : Span) : spec_l22Loss fu s = some (lossF s) := rfl
theorem lossOf_eq (fu : Nat) (s : Span) : impl_lossOf fu s = some (lossF s) := rfl
theorem spanLoss_eq (fu : Nat) (s : Span) : spec_SpanLoss fu s = some (if spanOk s then (lossF s, true) else (0, false)) := by
  unfold spec_SpanLoss
  rw [l22Span_eq, l22Loss_eq]
  cases spanOk s <;> rfl
theorem most_loop (fu : Nat) (s : Span) (l n : Int) : ∀ (fk : Nat) (c : Int), 0 ≤ c → c ≤ 12 → 12 - c < (fk : Int) → (c ≠ 0 → w64 (l - w64 (c * lossF s)) ≥ n) →
    ∃ r, spec_MostSpans_L1 fu s l n fk c = some r ∧ impl_MostSpans_L1 fu s l n fk c = some r ∧ (r ≠ 0 → w64 (l - w64 (r * lossF s)) ≥ n)
  | 0, c => by intro _ _ h; omega
  | fk + 1, c => by
    intro h0 h1 h2 h3
    simp only [spec_MostSpans_L1, impl_MostSpans_L1, l22Loss_eq, lossOf_eq, Option.bind_some]
    by_cases h : c < 12
    · simp only [h, decide_true, if_true, Option.bind_some]
      have e : w64 (c + 1) = c + 1 := w64_in (by omega) (by omega)
      rw [e]
      by_cases hq : w64 (l - w64 ((c + 1) * lossF s)) ≥ n
      · simp only [hq, decide_true, if_true]
        exact most_loop fu s l n fk (c + 1) (by omega) (by omega) (by omega) fun _ => hq
      · simp only [hq, decide_false, Bool.false_eq_true, if_false]
        exact ⟨_, rfl, rfl, h3⟩
    · simp only [h, decide_false, Bool.false_eq_true, if_false, Option.bind_some]
      exact ⟨_, rfl, rfl, h3⟩
theorem mostSpans_eq {fu : Nat} (hfu : 2097153 ≤ fu) (s : Span) (l n : Int) : ∃ w, impl_MostSpans fu s l n = some w ∧ spec_MostSpans fu s l n = some w ∧ (w.2 = true → w.1 ≠ 0 → spanOk s = true ∧ w64 (l - w64 (w.1 * lossF s)) ≥ n) := by
  unfold impl_MostSpans spec_MostSpans
  simp only [isSpan_eq, l22Span_eq, level_eq, isLevel_eq, Option.bind_some]
  obtain ⟨b1, h1⟩ : ∃ b, b = spanOk s := ⟨_, rfl⟩
  obtain ⟨b2, h2⟩ : ∃ b, b = (decide (-10000 ≤ l) && decide (l ≤ 10000)) := ⟨_, rfl⟩
  obtain ⟨b3, h3⟩ : ∃ b, b = (decide (-10000 ≤ n) && decide (n ≤ 10000)) := ⟨_, rfl⟩
  simp only [← h1, ← h2, ← h3]
  cases b1
  · exact ⟨_, rfl, rfl, fun h => by cases h⟩
  cases b2
  · exact ⟨_, rfl, rfl, fun h => by cases h⟩
  cases b3
  · exact ⟨_, rfl, rfl, fun h => by cases h⟩
  obtain ⟨r, g1, g2, g3⟩ := most_loop fu s l n fu 0 (by omega) (by omega) (by omega) (fun h => absurd rfl h)
  simp only [Bool.not_true, Bool.false_eq_true, if_false, Option.bind_some, g1, g2]
  exact ⟨_, rfl, rfl, fun _ hr => ⟨trivial, g3 hr⟩⟩
end AT
