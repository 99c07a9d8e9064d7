/- Lines of spans, plainly. -/
import Derived.Test.YtijgfgfolkbkoaaQAmp0
set_option linter.unusedSimpArgs false
namespace AT
def spanOk (s : Span) : Bool := decide (0 ≤ s.Length) && decide (s.Length ≤ 1000) && (decide (0 ≤ s.Loss) && decide (s.Loss ≤ 1000)) && (decide (0 ≤ s.Splices) && decide (s.Splices ≤ 50))
theorem l22Span_eq (fu : Nat) (s : Span) : spec_l22Span fu s = some (spanOk s) := by
  simp only [spec_l22Span, l1In_eq, Option.bind_some, spanOk]
  generalize (decide (0 ≤ s.Length) && decide (s.Length ≤ 1000)) = a
  generalize (decide (0 ≤ s.Loss) && decide (s.Loss ≤ 1000)) = b
  generalize (decide (0 ≤ s.Splices) && decide (s.Splices ≤ 50)) = c
  cases a <;> cases b <;> cases c <;> rfl
theorem isSpan_eq (fu : Nat) (s : Span) : impl_isSpan fu s = some (spanOk s) := by
  simp only [impl_isSpan, within_eq, Option.bind_some, spanOk]
  generalize (decide (0 ≤ s.Length) && decide (s.Length ≤ 1000)) = a
  generalize (decide (0 ≤ s.Loss) && decide (s.Loss ≤ 1000)) = b
  generalize (decide (0 ≤ s.Splices) && decide (s.Splices ≤ 50)) = c
  cases a <;> cases b <;> cases c <;> rfl
def lossF (s : Span) : Int := w64 (w64 ((w64 (w64 (s.Length * s.Loss) + 999)).tdiv 1000) + w64 (5 * s.Splices))
theorem l22Loss_eq (fu : Nat) (s : Span) : spec_l22Loss fu s = some (lossF s) := rfl
theorem lossOf_eq (fu : Nat) (s : Span) : impl_lossOf fu s = some (lossF s) := rfl
def lineOk (l : List Span) : Bool := decide (1 ≤ l.length) && decide (l.length ≤ 12) && l.all spanOk
theorem isLine_eq {fu : Nat} (hfu : 2097153 ≤ fu) (l : List Span) : impl_isLine fu l = some (lineOk l) := by
  unfold impl_isLine lineOk
  rw [within_eq]
  have e1 : decide ((1 : Int) ≤ l.length) = decide (1 ≤ l.length) := by simp only [decide_eq_decide]; omega
  have e2 : decide ((l.length : Int) ≤ 12) = decide (l.length ≤ 12) := by simp only [decide_eq_decide]; omega
  rw [e1, e2, Option.bind_some]
  by_cases h : 1 ≤ l.length ∧ l.length ≤ 12
  · simp only [h.1, h.2, decide_true, Bool.and_self, if_true, Bool.true_and]
    unfold slices_ContainsFunc_impl_Span_impl_Span_of_isLine_c1 slices_IndexFunc_impl_Span_impl_Span_of_isLine_c1
    rw [scan_all (l := l) (G := slices_IndexFunc_impl_Span_impl_Span_of_isLine_c1_L1 fu l) (fun b => !spanOk b) (fun i => (i : Int)) (by omega)
      (fun fk i hi => by rw [slices_IndexFunc_impl_Span_impl_Span_of_isLine_c1_L1, if_pos (by simpa using hi), idx_in hi]; simp [impl_isLine_c1, isSpan_eq])
      (fun fk => by rw [slices_IndexFunc_impl_Span_impl_Span_of_isLine_c1_L1, if_neg (by simp)]) fu (by omega)]
    have hc : l.all spanOk = !(l.any fun b => !spanOk b) := List.all_eq_not_any_not
    rw [hc]
    cases l.any (fun b => !spanOk b) <;> simp [Out.on]
  · have : (decide (1 ≤ l.length) && decide (l.length ≤ 12)) = false := by
      rw [Bool.eq_false_iff]; simpa using h
    rw [this]; rfl
theorem l22Line_eq {fu : Nat} (hfu : 2097153 ≤ fu) (l : List Span) : spec_l22Line fu l = some (lineOk l) := by
  unfold spec_l22Line lineOk
  rw [scan_all (l := l.take 13) (G := spec_l22Line_L1 fu l) (fun b => !spanOk b) (fun i => false) (by simp; omega)
    (fun fk i hi => by
      have h1 : i < l.length := by simp at hi; omega
      have h2 : i ≤ 12 := by simp at hi; omega
      have h1' : (i : Int) < l.length := by omega
      have h2' : (i : Int) ≤ 12 := by omega
      rw [spec_l22Line_L1]
      simp only [h1', h2', decide_true, if_true, Option.bind_some, idx_in h1, l22Span_eq, List.getElem_take])
    (fun fk => by
      rw [spec_l22Line_L1]
      by_cases h : l.length ≤ 12
      · have : ¬ (((l.take 13).length : Int) < l.length) := by simp; omega
        simp only [this, decide_false, Bool.false_eq_true, if_false, Option.bind_some]
      · have h1 : ¬ (((l.take 13).length : Int) ≤ 12) := by simp; omega
        have h2 : (((l.take 13).length : Int) < l.length) ∨ ¬ (((l.take 13).length : Int) < l.length) := Classical.em _
        rcases h2 with h2 | h2
        · simp only [h1, h2, decide_true, decide_false, if_true, Bool.false_eq_true, if_false, Option.bind_some]
        · simp only [h2, decide_false, Bool.false_eq_true, if_false, Option.bind_some]) fu (by simp; omega)]
  have e1 : decide ((1 : Int) ≤ l.length) = decide (1 ≤ l.length) := by simp only [decide_eq_decide]; omega
  have e2 : decide ((l.length : Int) ≤ 12) = decide (l.length ≤ 12) := by simp only [decide_eq_decide]; omega
  by_cases h : l.length ≤ 12
  · rw [List.take_of_length_le (by omega)]
    have hc : l.all spanOk = !(l.any fun b => !spanOk b) := List.all_eq_not_any_not
    rw [hc]
    cases l.any (fun b => !spanOk b)
    · simp only [Bool.false_eq_true, if_false, Option.bind_some, Out.on, l1In_eq, e1, e2, Bool.not_false, Bool.and_true]
    · simp [Out.on]
  · cases (l.take 13).any (fun b => !spanOk b)
    · simp only [Bool.false_eq_true, if_false, Option.bind_some, Out.on, l1In_eq, e1, e2, h, decide_false, Bool.and_false, Bool.false_and]
    · simp [Out.on, h]
theorem loss_range {l : List Span} (h : lineOk l = true) : l.length ≤ 12 ∧ 1 ≤ l.length := by
  unfold lineOk at h
  simp only [Bool.and_eq_true, decide_eq_true_eq] at h
  omega
def ampF (x g o : Int) : Int := gmax x (gmin (w64 (x + g)) o)
theorem amplified_eq (fu : Nat) (x : Int) (a : Amplifier) : impl_amplified fu x a = some (ampF x a.Gain a.Output) := rfl
theorem l22Raise_eq (fu : Nat) (x : Int) (a : Amplifier) : spec_l22Raise fu a x = some (ampF x a.Gain a.Output) := by
  unfold spec_l22Raise spec_l1Least spec_l1Most ampF gmax gmin
  by_cases h : w64 (x + a.Gain) < a.Output
  · have h' : ¬ a.Output < w64 (x + a.Gain) := by omega
    simp only [h, h', decide_true, if_true, if_false, Option.bind_some]
    by_cases g : x > w64 (x + a.Gain)
    · have g' : ¬ w64 (x + a.Gain) > x := by omega
      simp only [g, g', decide_true, if_true, if_false, Option.bind_some]
    · simp only [g, decide_false, Bool.false_eq_true, if_false, Option.bind_some]
      split
      · rfl
      · congr 1; omega
  · simp only [h, decide_false, Bool.false_eq_true, if_false, Option.bind_some]
    have e : (if a.Output < w64 (x + a.Gain) then a.Output else w64 (x + a.Gain)) = a.Output := by
      split
      · rfl
      · omega
    rw [e]
    by_cases g : x > a.Output
    · have g' : ¬ a.Output > x := by omega
      simp only [g, g', decide_true, if_true, if_false, Option.bind_some]
    · simp only [g, decide_false, Bool.false_eq_true, if_false, Option.bind_some]
      split
      · rfl
      · congr 1; omega
end AT
