/- Lists of amplifiers, plainly. -/
import Derived.Test.YtijgfgfolkbkoaaQAmp0
set_option linter.unusedSimpArgs false
namespace AT
/-- What is wrong with the amplifier at i. -/
def ampBad (l : List Amplifier) (n : Int) (i : Nat) : Bool :=
  !(ampOk (gd l i amp0)) || !(decide (0 ≤ (gd l i amp0).After) && decide ((gd l i amp0).After ≤ w64 (n - 1))) || (decide (0 < i) && decide ((gd l (i - 1) amp0).After ≥ (gd l i amp0).After))
def ampsOk (l : List Amplifier) (n : Int) : Bool := !((List.range l.length).any (ampBad l n))
theorem areAmplifiers_eq {fu : Nat} (l : List Amplifier) (n : Int) (h : l.length < fu) (hn : l.length ≤ 2097152) : impl_areAmplifiers fu l n = some (ampsOk l n) := by
  unfold impl_areAmplifiers
  rw [scan_all (l := List.range l.length) (G := impl_areAmplifiers_L1 fu l n) (ampBad l n) (fun i => false) (by simp; omega)
    (fun fk i hi => by
      have hi' : i < l.length := by simpa using hi
      rw [impl_areAmplifiers_L1, if_pos (by simpa using hi'), idx_gd amp0 hi', List.getElem_range]
      generalize hx : gd l i amp0 = x
      obtain ⟨b1, h1⟩ : ∃ b, b = ampOk x := ⟨_, rfl⟩
      obtain ⟨b2, h2⟩ : ∃ b, b = (decide (0 ≤ x.After) && decide (x.After ≤ w64 (n - 1))) := ⟨_, rfl⟩
      simp only [Option.bind_some, isAmplifier_eq, within_eq, ampBad, hx, ← h1, ← h2]
      cases b1
      · rfl
      cases b2
      · rfl
      by_cases h0 : 0 < i
      · rw [w64_dec h0 (by omega), idx_gd amp0 (show i - 1 < l.length by omega)]
        simp [h0]
      · simp [h0])
    (fun fk => by rw [List.length_range, impl_areAmplifiers_L1, if_neg (by simp)]) fu (by simpa using h)]
  unfold ampsOk
  cases (List.range l.length).any (ampBad l n) <;> rfl
theorem l22List_eq {fu : Nat} (l : List Amplifier) (n : Int) (h : l.length < fu) (hn : l.length ≤ 2097152) : spec_l22List fu l n = some (ampsOk l n) := by
  unfold spec_l22List
  rw [scan_all (l := List.range l.length) (G := spec_l22List_L1 fu l n) (ampBad l n) (fun i => false) (by simp; omega)
    (fun fk i hi => by
      have hi' : i < l.length := by simpa using hi
      rw [spec_l22List_L1, if_pos (by simpa using hi'), idx_gd amp0 hi', List.getElem_range]
      generalize hx : gd l i amp0 = x
      obtain ⟨b1, h1⟩ : ∃ b, b = ampOk x := ⟨_, rfl⟩
      obtain ⟨b2, h2⟩ : ∃ b, b = (decide (0 ≤ x.After) && decide (x.After ≤ w64 (n - 1))) := ⟨_, rfl⟩
      simp only [Option.bind_some, l22Kind_eq, l1In_eq, ampBad, hx, ← h1, ← h2]
      cases b1
      · rfl
      cases b2
      · rfl
      by_cases h0 : 0 < i
      · rw [w64_dec h0 (by omega), idx_gd amp0 (show i - 1 < l.length by omega)]
        simp [h0]
      · simp [h0])
    (fun fk => by rw [List.length_range, spec_l22List_L1, if_neg (by simp)]) fu (by simpa using h)]
  unfold ampsOk
  cases (List.range l.length).any (ampBad l n) <;> rfl
end AT
