/- ParseFrame, plainly. -/
import Derived.Test.YtijgfgfolkbkoaaQFrame
set_option linter.unusedSimpArgs false
namespace AT
theorem parity_loop {fu : Nat} (l : List Int) (hn : l.length ≤ 2097152) : ∀ (fk i : Nat) (o : Int), i ≤ l.length → l.length - i < fk → ∃ r, spec_l23Parity_L1 fu l fk o i = some r ∧ impl_bytesOf_L1 fu l fk o i = some r := by
  intro fk
  induction fk with
  | zero => intro i _ _ h; omega
  | succ fk ih =>
    intro i o hi hk
    rw [spec_l23Parity_L1, impl_bytesOf_L1]
    by_cases h : i < l.length
    · rw [if_pos (by simpa using h), if_pos (by simpa using h), idx_in h, Option.bind_some, Option.bind_some, w64_inc h (by omega)]
      exact ih _ _ h (by omega)
    · obtain rfl : i = l.length := by omega
      rw [if_neg (by simp), if_neg (by simp)]
      exact ⟨_, rfl, rfl⟩
theorem bytes_eq {fu : Nat} (hfu : 2097153 ≤ fu) (f : Frame) (h : f.Payload.length = 12) : ∃ l, spec_l23List fu f = some l ∧ impl_bytesOf fu f = some l ∧ l.length = 17 := by
  have ha : app [246, 40, f.Counter, f.Pointer] f.Payload = some ([246, 40, f.Counter, f.Pointer] ++ f.Payload) := by
    unfold app; rw [if_pos (by simp; omega)]
  have hl : ([246, 40, f.Counter, f.Pointer] ++ f.Payload).length = 16 := by simp; omega
  unfold spec_l23List impl_bytesOf spec_l23Parity
  rw [ha]
  generalize [246, 40, f.Counter, f.Pointer] ++ f.Payload = l at hl
  obtain ⟨r, h1, h2⟩ := parity_loop (fu := fu) l (by omega) fu 0 0 (by omega) (by omega)
  rw [Int.ofNat_zero] at h1 h2
  simp only [Option.bind_some, h1, h2]
  have hb : app l [r.1] = some (l ++ [r.1]) := by unfold app; rw [if_pos (by simp; omega)]
  rw [hb]
  exact ⟨_, rfl, rfl, by simp [hl]⟩
theorem same_loop {fu : Nat} (a b : List Int) (hab : a.length = b.length) (hn : a.length ≤ 2097152) : ∀ (fk i : Nat), i ≤ a.length → a.length - i < fk → ∃ o, spec_l1Same_L1 fu a b fk i = some o ∧ slices_Equal_int_int_L1 fu a b fk i = some o := by
  intro fk
  induction fk with
  | zero => intro i _ h; omega
  | succ fk ih =>
    intro i hi hk
    by_cases h : i < a.length
    · have hc : ((i : Int) < a.length) = True := by simp; omega
      simp only [spec_l1Same_L1, slices_Equal_int_int_L1, hc, decide_true, if_true, idx_in h, idx_in (show i < b.length by omega), Option.bind_some, w64_inc h (show (a.length : Int) ≤ 9223372036854775807 by omega)]
      split
      · exact ⟨_, rfl, rfl⟩
      · exact ih (i + 1) h (by omega)
    · obtain rfl : i = a.length := by omega
      rw [spec_l1Same_L1, slices_Equal_int_int_L1, if_neg (by simp), if_neg (by simp)]
      exact ⟨_, rfl, rfl⟩
theorem same_eq {fu : Nat} (hfu : 2097153 ≤ fu) (a b : List Int) (hab : a.length = b.length) (hn : a.length ≤ 2097152) : ∃ o, spec_l1Same fu a b = some o ∧ slices_Equal_int_int fu a b = some o := by
  unfold spec_l1Same slices_Equal_int_int
  obtain ⟨o, h1, h2⟩ := same_loop (fu := fu) a b hab hn fu 0 (by omega) (by omega)
  rw [Int.ofNat_zero] at h1 h2
  have : ((a.length : Int) != (b.length : Int)) = false := by simp; omega
  simp only [this, Bool.false_eq_true, if_false, h1, h2, Option.bind_some]
  cases o <;> exact ⟨_, rfl, rfl⟩
theorem parse_eq {fu : Nat} (hfu : 2097153 ≤ fu) (l : List Int) : ∃ w, spec_ParseFrame fu l = some w ∧ impl_ParseFrame fu l = some w ∧ w.1.Payload.length ≤ 12 := by
  unfold spec_ParseFrame impl_ParseFrame
  by_cases hl : l.length = 17
  · have e : ((l.length : Int) != 17) = false := by simp; omega
    simp only [e, Bool.false_eq_true, if_false]
    obtain ⟨e2, h2, -⟩ := idx_some (l := l) (i := 2) (by omega) (by omega)
    obtain ⟨e3, h3, -⟩ := idx_some (l := l) (i := 3) (by omega) (by omega)
    have hs : ∃ p, sub l 4 16 = some p ∧ p.length = 12 := by
      unfold sub; rw [if_pos (by omega)]; exact ⟨_, rfl, by simp; omega⟩
    obtain ⟨p, hp, hpl⟩ := hs
    have ha : app [] p = some p := by unfold app; rw [if_pos (by simp; omega)]; rfl
    have hc : slices_Clone_int_int fu p = some p := by
      unfold slices_Clone_int_int
      rw [ha]
      cases p with
      | nil => cases hpl
      | cons x p => rfl
    have ho : spec_l1Own fu p = some p := by unfold spec_l1Own; rw [ha]; rfl
    simp only [h2, h3, hp, hc, ho, Option.bind_some]
    rw [l23Good_eq _ (by omega), isValidFrame_eq _ (by omega)]
    obtain ⟨q, g1, g2, g3⟩ := bytes_eq hfu ⟨e2, e3, p⟩ hpl
    obtain ⟨o, g4, g5⟩ := same_eq hfu q l (by omega) (by omega)
    simp only [g1, g2, g4, g5, Option.bind_some]
    cases isFrame ⟨e2, e3, p⟩
    · exact ⟨_, rfl, rfl, by simp⟩
    · cases o
      · exact ⟨_, rfl, rfl, by simp⟩
      · exact ⟨_, rfl, rfl, by simp only; omega⟩
  · have e : ((l.length : Int) != 17) = true := by simp; omega
    simp only [e, if_true]
    exact ⟨_, rfl, rfl, by simp⟩
end AT
