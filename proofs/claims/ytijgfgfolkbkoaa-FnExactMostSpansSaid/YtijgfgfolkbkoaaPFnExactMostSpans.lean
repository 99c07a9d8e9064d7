/- MostSpans: the program's and the reference's are one. -/
import Derived.Test.YtijgfgfolkbkoaaPFnExactSpanLoss
namespace AT
theorem isLevel_eq (fu : Nat) (x : Int) : impl_isLevel fu x = spec_l22Level fu x := by simp only [impl_isLevel, spec_l22Level, l1In_eq, within_eq]
theorem level_eq (fu : Nat) (x : Int) : spec_l22Level fu x = some (decide (-10000 ≤ x) && decide (x ≤ 10000)) := by simp only [spec_l22Level, l1In_eq, Option.bind_some]
theorem most_eq (fu : Nat) (s : Span) (l n : Int) : ∀ fk c, impl_MostSpans_L1 fu s l n fk c = spec_MostSpans_L1 fu s l n fk c
  | 0, _ => rfl
  | fk + 1, c => by
    simp only [impl_MostSpans_L1, spec_MostSpans_L1, lossOf_eq, most_eq fu s l n fk]
theorem most_some (fu : Nat) (s : Span) (l n : Int) : ∀ (fk : Nat) (c : Int), 0 ≤ c → c ≤ 12 → 12 - c < (fk : Int) → ∃ r, spec_MostSpans_L1 fu s l n fk c = some r
  | 0, c => by intro _ _ h; omega
  | fk + 1, c => by
    intro h0 h1 h2
    obtain ⟨r, hr⟩ := loss_some s
    simp only [spec_MostSpans_L1, hr, Option.bind_some]
    by_cases h : c < 12
    · simp only [h, decide_true, if_true, Option.bind_some]
      split
      · rw [w64_in (by omega) (by omega)]
        exact most_some fu s l n fk _ (by omega) (by omega) (by omega)
      · exact ⟨_, rfl⟩
    · simp [h]
theorem FnExactMostSpans_true (s : Span) (l n : Int) (_ : ok_Span s) (_ : ok_Int l) (_ : ok_Int n) : ∃ fu, laws_FnExactMostSpans fu s l n = some true := by
  refine ⟨13, ?_⟩
  have h : impl_MostSpans 13 s l n = spec_MostSpans 13 s l n := by simp only [impl_MostSpans, spec_MostSpans, isSpan_eq, isLevel_eq, most_eq]
  have h2 : ∃ r, spec_MostSpans 13 s l n = some r := by
    obtain ⟨r, hr⟩ := most_some 13 s l n 13 0 (by omega) (by omega) (by omega)
    simp only [spec_MostSpans, span_eq, level_eq, hr, Option.bind_some]
    generalize hb : (if (!(decide (0 ≤ s.Length) && decide (s.Length ≤ 1000) && (decide (0 ≤ s.Loss) && decide (s.Loss ≤ 1000)) && (decide (0 ≤ s.Splices) && decide (s.Splices ≤ 50)))) = true then (some true : Option Bool) else _) = b
    have : ∃ c : Bool, b = some c := by
      rw [← hb]; split
      · exact ⟨_, rfl⟩
      · split <;> exact ⟨_, rfl⟩
    obtain ⟨c, rfl⟩ := this
    simp only [Option.bind_some]
    split <;> exact ⟨_, rfl⟩
  obtain ⟨r, hr⟩ := h2
  simp [laws_FnExactMostSpans, toSpan_eq, h, hr]
end AT
