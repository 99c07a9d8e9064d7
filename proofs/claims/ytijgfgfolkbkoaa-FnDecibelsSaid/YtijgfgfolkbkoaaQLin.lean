/- Levels and their linear values, plainly, with any fuel that is enough. -/
import Derived.Test.YtijgfgfolkbkoaaP1
import Derived.Test.YtijgfgfolkbkoaaAtL
set_option linter.unusedSimpArgs false
namespace AT
theorem l22Linear_L1_mono (fu fu' : Nat) : ∀ (fk fk' : Nat) (o k : Int) (r), fk ≤ fk' → spec_l22Linear_L1 fu fk o k = some r → spec_l22Linear_L1 fu' fk' o k = some r
  | 0, _, _, _, _, _, h => by cases h
  | fk + 1, 0, _, _, _, h, _ => by omega
  | fk + 1, fk' + 1, o, k, r, hk, h => by
    simp only [spec_l22Linear_L1] at h ⊢
    split <;> rename_i hc
    · rw [if_pos hc] at h; exact l22Linear_L1_mono fu fu' fk fk' _ _ _ (by omega) h
    · rwa [if_neg hc] at h
theorem linear_L1_mono (fu fu' : Nat) (q : Int) : ∀ (fk fk' : Nat) (o k : Int) (r), fk ≤ fk' → impl_linear_L1 fu q fk o k = some r → impl_linear_L1 fu' q fk' o k = some r
  | 0, _, _, _, _, _, h => by cases h
  | fk + 1, 0, _, _, _, h, _ => by omega
  | fk + 1, fk' + 1, o, k, r, hk, h => by
    simp only [impl_linear_L1] at h ⊢
    split <;> rename_i hc
    · rw [if_pos hc] at h; exact linear_L1_mono fu fu' q fk fk' _ _ _ (by omega) h
    · rwa [if_neg hc] at h
theorem l22Linear_mono {fu fu' : Nat} (h : fu ≤ fu') {x r : Int} (e : spec_l22Linear fu x = some r) : spec_l22Linear fu' x = some r := by
  simp only [spec_l22Linear, l1In_eq, spec_l22Table, Option.bind_some] at e ⊢
  obtain ⟨c, h1, e⟩ := bind_some e
  rw [h1, Option.bind_some]
  cases c
  · simp only [Bool.false_eq_true, if_false] at e ⊢
    obtain ⟨q, h2, e⟩ := bind_some e
    obtain ⟨q2, h3, e⟩ := bind_some e
    obtain ⟨y, h4, e⟩ := bind_some e
    obtain ⟨q3, h5, e⟩ := bind_some e
    obtain ⟨z, h6, e⟩ := bind_some e
    rw [h2, Option.bind_some, h3, Option.bind_some, h4, Option.bind_some, h5, Option.bind_some, l22Linear_L1_mono fu fu' fu fu' _ _ _ h h6]
    exact e
  · simpa using e
theorem linear_mono {fu fu' : Nat} (h : fu ≤ fu') {x r : Int} (e : impl_linear fu x = some r) : impl_linear fu' x = some r := by
  simp only [impl_linear] at e ⊢
  obtain ⟨q, h2, e⟩ := bind_some e
  obtain ⟨q2, h3, e⟩ := bind_some e
  obtain ⟨y, h4, e⟩ := bind_some e
  obtain ⟨q3, h5, e⟩ := bind_some e
  obtain ⟨z, h6, e⟩ := bind_some e
  rw [h2, Option.bind_some, h3, Option.bind_some, h4, Option.bind_some, h5, Option.bind_some, linear_L1_mono fu fu' q3 fu fu' _ _ _ h h6]
  exact e
def linB (m : Nat) : Bool := match spec_l22Linear 200 (100 * (m : Int)), impl_linear 200 (100 * (m : Int)) with
  | some a, some b => a == b && decide (m * 100 ≤ a) && decide (0 < a) && decide (a ≤ 9223372036854775807)
  | _, _ => false
theorem linB_all : (List.range 100).all linB = true := by decide +kernel
theorem lin_at (m : Nat) (h : m < 100) : ∃ a, spec_l22Linear 200 (100 * (m : Int)) = some a ∧ impl_linear 200 (100 * (m : Int)) = some a ∧ 0 < a ∧ a ≤ 9223372036854775807 ∧ m * 100 ≤ a := by
  have := List.all_eq_true.1 linB_all m (List.mem_range.2 h)
  unfold linB at this
  split at this
  · rename_i a b ha hb
    simp only [Bool.and_eq_true, beq_iff_eq, decide_eq_true_eq] at this
    obtain ⟨⟨⟨rfl, h0⟩, h1⟩, h2⟩ := this
    exact ⟨a, ha, hb, h1, h2, h0⟩
  · cases this
def linOk (x : Int) : Bool := decide (0 ≤ x) && decide (x ≤ 9900) && decide (x % 100 = 0)
theorem hasLinear_eq (fu : Nat) (x : Int) : impl_hasLinear fu x = some (linOk x) := by
  simp only [impl_hasLinear, within_eq, Option.bind_some, rem, linOk]
  by_cases h : 0 ≤ x
  · rw [Int.tmod_eq_emod_of_nonneg h]
    cases decide (x ≤ 9900) <;> simp [h] ; rfl
  · simp [h]
theorem linear_no {x : Int} (fu : Nat) (h : linOk x = false) : spec_l22Linear fu x = some 0 := by
  simp only [spec_l22Linear, l1In_eq, Option.bind_some, rem]
  by_cases h0 : 0 ≤ x
  · by_cases h1 : x ≤ 9900
    · have h2 : x % 100 ≠ 0 := by simpa [linOk, h0, h1] using h
      rw [Int.tmod_eq_emod_of_nonneg h0]
      simp [h0, h1, h2]
    · simp [h0, h1]
  · simp [h0]
theorem linear_yes {fu : Nat} (hfu : 200 ≤ fu) {x : Int} (h : linOk x = true) : ∃ a, spec_l22Linear fu x = some a ∧ impl_linear fu x = some a ∧ 0 < a ∧ a ≤ 9223372036854775807 ∧ x ≤ a := by
  simp only [linOk, Bool.and_eq_true, decide_eq_true_eq] at h
  obtain ⟨⟨h0, h1⟩, h2⟩ := h
  have e : x = 100 * ((x / 100).toNat : Int) := by omega
  obtain ⟨a, g1, g2, g3, g4, g5⟩ := lin_at (x / 100).toNat (by omega)
  rw [← e] at g1 g2
  exact ⟨a, l22Linear_mono hfu g1, linear_mono hfu g2, g3, g4, by omega⟩
theorem levelOf_eq {fu : Nat} (hfu : 200 ≤ fu) (v : Int) (fk : Nat) : ∀ (x : Int), linOk x = true → (9900 - x) / 100 < (fk : Int) → ∃ r, spec_l22Of_L1 fu v fk x = some r ∧ impl_LevelOf_L1 fu v fk x = some r := by
  induction fk with
  | zero => intro x hx h; simp only [linOk, Bool.and_eq_true, decide_eq_true_eq] at hx; omega
  | succ fk ih =>
    intro x hx h1
    have hx' := hx
    simp only [linOk, Bool.and_eq_true, decide_eq_true_eq] at hx'
    have e : w64 (x + 100) = x + 100 := w64_in (by omega) (by omega)
    simp only [spec_l22Of_L1, impl_LevelOf_L1, hasLinear_eq, Option.bind_some, e]
    by_cases h : x < 9900
    · have hl : linOk (x + 100) = true := by
        simp only [linOk, Bool.and_eq_true, decide_eq_true_eq]; omega
      obtain ⟨a, h1, h2, h3, h4, -⟩ := linear_yes hfu hl
      simp only [h1, h2, hl, h, decide_true, if_true, Option.bind_some]
      split
      · exact ih _ hl (by omega)
      · exact ⟨_, rfl, rfl⟩
    · have hl : linOk (x + 100) = false := by
        simp only [linOk, Bool.and_eq_false_iff, decide_eq_false_iff_not]; omega
      simp only [hl, h, decide_false, Bool.false_eq_true, if_false, Option.bind_some]
      exact ⟨_, rfl, rfl⟩
end AT
