/- SpanLoss: the program's and the reference's are one. -/
import Derived.Test.YtijgfgfolkbkoaaP1
namespace AT
theorem isSpan_eq (fu : Nat) (s : Span) : impl_isSpan fu s = spec_l22Span fu s := by simp only [impl_isSpan, spec_l22Span, l1In_eq, within_eq]
theorem span_eq (fu : Nat) (s : Span) : spec_l22Span fu s = some (decide (0 ≤ s.Length) && decide (s.Length ≤ 1000) && (decide (0 ≤ s.Loss) && decide (s.Loss ≤ 1000)) && (decide (0 ≤ s.Splices) && decide (s.Splices ≤ 50))) := by
  simp only [spec_l22Span, l1In_eq, Option.bind_some]
  generalize (decide (0 ≤ s.Length) && decide (s.Length ≤ 1000)) = a
  generalize (decide (0 ≤ s.Loss) && decide (s.Loss ≤ 1000)) = b
  generalize (decide (0 ≤ s.Splices) && decide (s.Splices ≤ 50)) = c
  cases a <;> cases b <;> cases c <;> rfl
theorem lossOf_eq (fu : Nat) (s : Span) : impl_lossOf fu s = spec_l22Loss fu s := rfl
theorem loss_some (s : Span) : ∃ r, ∀ fu, spec_l22Loss fu s = some r := ⟨_, fun _ => rfl⟩
theorem toSpan_eq (fu : Nat) (s : Span) : laws_toSpan fu s = some s := rfl
theorem FnExactSpanLoss_true (s : Span) (_ : ok_Span s) : ∃ fu, laws_FnExactSpanLoss fu s = some true := by
  refine ⟨0, ?_⟩
  have h : impl_SpanLoss 0 s = spec_SpanLoss 0 s := by simp only [impl_SpanLoss, spec_SpanLoss, isSpan_eq, lossOf_eq]
  have h2 : ∃ r, spec_SpanLoss 0 s = some r := by
    obtain ⟨l, hl⟩ := loss_some s
    simp only [spec_SpanLoss, span_eq, hl, Option.bind_some]
    split <;> exact ⟨_, rfl⟩
  obtain ⟨r, hr⟩ := h2
  simp [laws_FnExactSpanLoss, toSpan_eq, h, hr]
end AT
