/- The worst level, plainly. -/
import Derived.Test.YtijgfgfolkbkoaaQProfile
set_option linter.unusedSimpArgs false
namespace AT
theorem worst_loop {fu : Nat} (y : List Int × List Int × Bool) (hn : y.1.length ≤ 12) : ∀ (fk i p : Nat), p < i → i ≤ y.1.length → y.1.length - i < fk → (∀ k, k < i → gd y.1 p 0 ≤ gd y.1 k 0) → (∀ k, k < p → gd y.1 p 0 < gd y.1 k 0) →
    ∃ q : Nat, slices_Min_int_int_L1 fu y.1 fk (gd y.1 p 0) i = some (gd y.1 q 0, (y.1.length : Int)) ∧ q < y.1.length ∧ (∀ k, k < y.1.length → gd y.1 q 0 ≤ gd y.1 k 0) ∧ (∀ k, k < q → gd y.1 q 0 < gd y.1 k 0) := by
  intro fk
  induction fk with
  | zero => intro i p _ _ h; omega
  | succ fk ih =>
    intro i p hp hi hk h1 h2
    rw [slices_Min_int_int_L1]
    by_cases h : i < y.1.length
    · rw [if_pos (by simpa using h), idx_gd 0 h]
      simp only [Option.bind_some, w64_inc h (show (y.1.length : Int) ≤ 9223372036854775807 by omega), gmin]
      by_cases hlt : gd y.1 i 0 < gd y.1 p 0
      · simp only [hlt, decide_true, if_true]
        exact ih (i + 1) i (by omega) h (by omega) (fun k hk' => by
          by_cases e : k = i
          · subst e; omega
          · have := h1 k (by omega); omega) (fun k hk' => by have := h1 k hk'; omega)
      · simp only [hlt, decide_false, Bool.false_eq_true, if_false]
        exact ih (i + 1) p (by omega) h (by omega) (fun k hk' => by
          by_cases e : k = i
          · subst e; omega
          · exact h1 k (by omega)) h2
    · obtain rfl : i = y.1.length := by omega
      rw [if_neg (by simp)]
      exact ⟨p, rfl, hp, h1, h2⟩
theorem index_eq {fu : Nat} (hfu : 13 ≤ fu) (l : List Int) (hn : l.length ≤ 12) (v : Int) (q : Nat) (hq : q < l.length) (hv : gd l q 0 = v) (hne : ∀ k, k < q → gd l k 0 ≠ v) : slices_Index_int_int fu l v = some (q : Int) := by
  unfold slices_Index_int_int
  rw [scan_all (l := l) (G := slices_Index_int_int_L1 fu l v) (fun e => v == e) (fun i => (i : Int)) (by omega)
    (fun fk i hi => by rw [slices_Index_int_int_L1, if_pos (by simpa using hi), idx_in hi]; rfl)
    (fun fk => by rw [slices_Index_int_int_L1, if_neg (by simp)]) fu (by omega)]
  have hvq : l[q] = v := by rw [← gd_in 0 hq]; exact hv
  have hany : l.any (fun e => v == e) = true := List.any_eq_true.2 ⟨l[q], List.getElem_mem hq, by simp [hvq]⟩
  have hidx : l.findIdx (fun e => v == e) = q := by
    rw [List.findIdx_eq hq]
    refine ⟨by simp [hvq], fun j hj => ?_⟩
    have := hne j hj
    rw [gd_in 0 (by omega)] at this
    simpa using Ne.symm this
  rw [hany, hidx]
  rfl
/-- The worst level is the first lowest of those before the amplifiers. -/
theorem worst_of {fu : Nat} (hfu : 2097153 ≤ fu) {ln : List Span} {l : List Amplifier} {x : Int} {y : List Int × List Int × Bool} (h : impl_profile fu ln l x = some y) (hy : y.2.2 = true) (h1 : 1 ≤ y.1.length) (h3 : y.1.length ≤ 12) :
    ∃ q : Nat, impl_WorstLevel fu ln l x = some (gd y.1 q 0, (q : Int), true) ∧ q < y.1.length := by
  unfold impl_WorstLevel
  rw [h]
  obtain ⟨q, e2, e3, e4, e5⟩ := worst_loop (fu := fu) y h3 fu 1 0 (by omega) (by omega) (by omega) (fun k hk => by
    obtain rfl : k = 0 := by omega
    exact Int.le_refl _) (fun k hk => by omega)
  rw [show ((1 : Nat) : Int) = 1 from rfl] at e2
  have hlen : ¬ ((y.1.length : Int) < 1) := by omega
  have h0 : idx y.1 0 = some (gd y.1 0 0) := idx_gd (i := 0) 0 (by omega)
  simp only [hy, Bool.not_true, Bool.false_eq_true, if_false, slices_Min_int_int, hlen, decide_false, h0, Option.bind_some, e2]
  rw [index_eq (by omega) y.1 h3 _ q e3 rfl (fun k hk => by have := e5 k hk; omega)]
  exact ⟨q, rfl, e3⟩
end AT
