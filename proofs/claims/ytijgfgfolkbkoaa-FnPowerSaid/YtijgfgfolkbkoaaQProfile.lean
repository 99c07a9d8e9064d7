/- The levels along a line, plainly. -/
import Derived.Test.YtijgfgfolkbkoaaQLine
import Derived.Test.YtijgfgfolkbkoaaQAmp
set_option linter.unusedSimpArgs false
namespace AT
theorem sorted_of {l : List Amplifier} {n : Int} (h : ampsOk l n = true) : ∀ j k, j < k → k < l.length → (gd l j amp0).After < (gd l k amp0).After := by
  have adj : ∀ i, 0 < i → i < l.length → (gd l (i - 1) amp0).After < (gd l i amp0).After := fun i h0 hi => by
    unfold ampsOk at h
    simp only [Bool.not_eq_true', List.any_eq_false, List.mem_range] at h
    have := h i hi
    simp only [ampBad, Bool.or_eq_true, not_or, Bool.and_eq_true, decide_eq_true_eq, not_and] at this
    have := this.2 h0
    omega
  intro j k hj hk
  induction k with
  | zero => omega
  | succ k ih =>
    have h1 := adj (k + 1) (by omega) hk
    rw [Nat.add_sub_cancel] at h1
    by_cases e : j = k
    · subst e; exact h1
    · exact Int.lt_trans (ih (by omega) (by omega)) h1
theorem after0 {l : List Amplifier} {n : Int} (h : ampsOk l n = true) {j : Nat} (hj : j < l.length) : 0 ≤ (gd l j amp0).After := by
  unfold ampsOk at h
  simp only [Bool.not_eq_true', List.any_eq_false, List.mem_range] at h
  have := h j hj
  simp only [ampBad, Bool.or_eq_true, not_or, Bool.not_eq_true', Bool.not_eq_false, Bool.and_eq_true, decide_eq_true_eq] at this
  exact this.1.2.1
/-- The inner loop, where none fits. -/
theorem inner_skip {fu : Nat} (l : List Amplifier) (i : Int) (hn : l.length ≤ 2097152) (x : Int) : ∀ (fk j : Nat), j ≤ l.length → l.length - j < fk → (∀ k, j ≤ k → k < l.length → (gd l k amp0).After ≠ i) → impl_profile_L2 fu l i fk x j = some (x, (l.length : Int)) := by
  intro fk
  induction fk with
  | zero => intro j _ h; omega
  | succ fk ih =>
    intro j hj hk hne
    rw [impl_profile_L2]
    by_cases h : j < l.length
    · have h1 := hne j (Nat.le_refl _) h
      have h2 : ((gd l j amp0).After == i) = false := by simpa using h1
      rw [if_pos (by simpa using h), idx_gd amp0 h, Option.bind_some, h2]
      simp only [Bool.false_eq_true, if_false]
      rw [w64_inc h (by omega)]
      exact ih (j + 1) h (by omega) fun k hk' hkl => hne k (by omega) hkl
    · obtain rfl : j = l.length := by omega
      rw [if_neg (by simp)]
/-- .. where the one at 'at' fits, or none. -/
theorem inner_eq {fu : Nat} (l : List Amplifier) (i : Int) (hn : l.length ≤ 2097152) (x : Int) (p : Nat) (hp : p ≤ l.length) (hlo : ∀ k, k < p → k < l.length → (gd l k amp0).After < i) (hhi : ∀ k, p < k → k < l.length → i < (gd l k amp0).After) :
    ∀ (fk j : Nat), j ≤ p → l.length - j < fk → impl_profile_L2 fu l i fk x j = some (if p < l.length ∧ (gd l p amp0).After = i then ampF x (gd l p amp0).Gain (gd l p amp0).Output else x, (l.length : Int)) := by
  intro fk
  induction fk with
  | zero => intro j hj h; omega
  | succ fk ih =>
    intro j hj hk
    by_cases e : j = p
    · subst e
      rw [impl_profile_L2]
      by_cases h : j < l.length
      · rw [if_pos (by simpa using h), idx_gd amp0 h, Option.bind_some]
        have hsk : ∀ y, impl_profile_L2 fu l i fk y (w64 ((j : Int) + 1)) = some (y, (l.length : Int)) := fun y => by
          rw [w64_inc h (by omega)]
          exact inner_skip l i hn y fk (j + 1) h (by omega) fun k hk1 hk2 => by have := hhi k (by omega) hk2; omega
        by_cases h2 : (gd l j amp0).After = i
        · simp only [h2, beq_self_eq_true, if_true, amplified_eq, Option.bind_some, hsk, h, and_self]
        · have h3 : ((gd l j amp0).After == i) = false := by simpa using h2
          simp only [h3, Bool.false_eq_true, if_false, hsk, h2, and_false]
      · obtain rfl : j = l.length := by omega
        rw [if_neg (by simp)]
        simp
    · have h : j < l.length := by omega
      rw [impl_profile_L2, if_pos (by simpa using h), idx_gd amp0 h, Option.bind_some]
      have h1 := hlo j (by omega) h
      have h3 : ((gd l j amp0).After == i) = false := by simp; omega
      rw [h3]
      simp only [Bool.false_eq_true, if_false]
      rw [w64_inc h (by omega)]
      exact ih (j + 1) (by omega) (by omega)
theorem gd_snoc_le {b a : List Int} {y v : Int} (hl : b.length = a.length) (h : ∀ k, gd b k 0 ≤ gd a k 0) (hy : y ≤ v) : ∀ k, gd (b ++ [y]) k 0 ≤ gd (a ++ [v]) k 0 := by
  intro k
  have h' := h k
  unfold gd at h' ⊢
  rcases Nat.lt_trichotomy k b.length with hk | hk | hk
  · rw [List.getElem?_append_left hk, List.getElem?_append_left (by omega)]; exact h'
  · rw [List.getElem?_append_right (by omega), List.getElem?_append_right (by omega), show k - b.length = 0 by omega, show k - a.length = 0 by omega]
    exact hy
  · rw [List.getElem?_eq_none (by simp; omega), List.getElem?_eq_none (by simp; omega)]
    exact Int.le_refl _
theorem ampF_ge (x g o : Int) : x ≤ ampF x g o := by
  unfold ampF gmax
  split <;> omega
theorem profile_loop {fu : Nat} (hfu : 2097153 ≤ fu) (ln : List Span) (l : List Amplifier) (hln : ln.length ≤ 12) (hn : l.length ≤ 2097152) {n : Int} (hok : ampsOk l n = true) : ∀ (fk i p : Nat) (b a : List Int) (x : Int), b.length = i → a.length = i → i ≤ ln.length → p ≤ l.length → ln.length - i < fk →
    (∀ k, k < p → k < l.length → (gd l k amp0).After < i) → (∀ k, p ≤ k → k < l.length → (i : Int) ≤ (gd l k amp0).After) → (∀ k, gd b k 0 ≤ gd a k 0) →
    (∃ r, spec_l22Levels_L1 fu ln l fk b a x p i = some (.ret r) ∧ impl_profile_L1 fu ln l fk b a x i = some (.ret r) ∧ r = ([], [], false)) ∨
    (∃ b' a' x' p' i', spec_l22Levels_L1 fu ln l fk b a x p i = some (.next (b', a', x', p', i')) ∧ impl_profile_L1 fu ln l fk b a x i = some (.next (b', a', x', i')) ∧ b'.length = ln.length ∧ a'.length = ln.length ∧ ∀ k, gd b' k 0 ≤ gd a' k 0) := by
  intro fk
  induction fk with
  | zero => intro i p _ _ _ _ _ _ _ h; omega
  | succ fk ih =>
    intro i p b a x hb ha hi hp hk hlo hhi hba
    rw [spec_l22Levels_L1, impl_profile_L1]
    by_cases h : i < ln.length
    · have hc : ((i : Int) < ln.length) = True := by simp; omega
      simp only [hc, decide_true, if_true, idx_in h, Option.bind_some, l22Loss_eq, lossOf_eq, level_eq, isLevel_eq]
      generalize w64 (x - lossF ln[i]) = y
      obtain ⟨c, hc⟩ : ∃ c, c = (decide (-10000 ≤ y) && decide (y ≤ 10000)) := ⟨_, rfl⟩
      simp only [← hc]
      cases c
      · exact .inl ⟨_, rfl, rfl, rfl⟩
      have ab : ∀ z : Int, app b [z] = some (b ++ [z]) := fun z => by unfold app; rw [if_pos (by simp; omega)]
      have aa : ∀ z : Int, app a [z] = some (a ++ [z]) := fun z => by unfold app; rw [if_pos (by simp; omega)]
      simp only [Bool.not_true, Bool.false_eq_true, if_false, ab, aa, Option.bind_some, w64_inc h (show (ln.length : Int) ≤ 9223372036854775807 by omega)]
      have hsort := sorted_of hok
      by_cases hp2 : p < l.length
      · have hp2' : (p : Int) < l.length := by omega
        simp only [hp2', decide_true, if_true, idx_gd amp0 hp2, Option.bind_some]
        have hhi2 : ∀ k, p < k → k < l.length → (i : Int) < (gd l k amp0).After := fun k hk1 hk2 => by
          exact Int.lt_of_le_of_lt (hhi p (Nat.le_refl _) hp2) (hsort p k hk1 hk2)
        have hin := inner_eq (fu := fu) l (i : Int) hn y p hp hlo hhi2 fu 0 (by omega) (by omega)
        rw [Int.ofNat_zero] at hin
        rw [hin]
        simp only [Option.bind_some, hp2, true_and]
        by_cases he : (gd l p amp0).After = i
        · simp only [he, beq_self_eq_true, if_true, l22Raise_eq, Option.bind_some]
          have hw : w64 ((p : Int) + 1) = ((p + 1 : Nat) : Int) := w64_inc hp2 (by omega)
          rw [hw]
          have hyv := ampF_ge y (gd l p amp0).Gain (gd l p amp0).Output
          generalize ampF y (gd l p amp0).Gain (gd l p amp0).Output = v at hyv
          refine ih (i + 1) (p + 1) (b ++ [y]) (a ++ [v]) v (by simp [hb]) (by simp [ha]) h hp2 (by omega) (fun k hk1 hk2 => ?_) (fun k hk1 hk2 => ?_) (gd_snoc_le (hb.trans ha.symm) hba hyv)
          · show (gd l k amp0).After < ((i + 1 : Nat) : Int)
            by_cases e : k = p
            · rw [e]; omega
            · have h9 := hlo k (Nat.lt_of_le_of_ne (Nat.le_of_lt_succ hk1) e) hk2; generalize (gd l k amp0).After = u at h9 ⊢; omega
          · have h9 := hhi2 k hk1 hk2; generalize (gd l k amp0).After = u at h9 ⊢; omega
        · have he' : ((gd l p amp0).After == (i : Int)) = false := by simpa using he
          simp only [he', he, Bool.false_eq_true, if_false]
          have h2 := hhi p (Nat.le_refl _) hp2
          refine ih (i + 1) p (b ++ [y]) (a ++ [y]) y (by simp [hb]) (by simp [ha]) h hp (by omega) (fun k hk1 hk2 => ?_) (fun k hk1 hk2 => ?_) (gd_snoc_le (hb.trans ha.symm) hba (Int.le_refl _))
          · have h9 := hlo k hk1 hk2; generalize (gd l k amp0).After = u at h9 ⊢; omega
          · by_cases e : k = p
            · rw [e]; omega
            · have h9 := hhi2 k (Nat.lt_of_le_of_ne hk1 (Ne.symm e)) hk2; generalize (gd l k amp0).After = u at h9 ⊢; omega
      · have hp2' : ¬ (p : Int) < l.length := by omega
        simp only [hp2', decide_false, Bool.false_eq_true, if_false, Option.bind_some]
        have hin := inner_eq (fu := fu) l (i : Int) hn y p hp hlo (fun k hk1 hk2 => by omega) fu 0 (by omega) (by omega)
        rw [Int.ofNat_zero] at hin
        rw [hin]
        simp only [Option.bind_some, hp2, false_and, if_false]
        refine ih (i + 1) p (b ++ [y]) (a ++ [y]) y (by simp [hb]) (by simp [ha]) h hp (by omega) (fun k hk1 hk2 => ?_) (fun k hk1 hk2 => ?_) (gd_snoc_le (hb.trans ha.symm) hba (Int.le_refl _))
        · have h9 := hlo k hk1 hk2; generalize (gd l k amp0).After = u at h9 ⊢; omega
        · omega
    · obtain rfl : i = ln.length := by omega
      simp only [Int.lt_irrefl, decide_false, Bool.false_eq_true, if_false]
      exact .inr ⟨_, _, _, _, _, rfl, rfl, hb, ha, hba⟩
/-- Both are the same; and where they tell levels, as many as spans. -/
theorem profile_eq {fu : Nat} (hfu : 2097153 ≤ fu) (ln : List Span) (l : List Amplifier) (x : Int) (hn : l.length ≤ 2097152) : ∃ y, spec_l22Levels fu ln l x = some y ∧ impl_profile fu ln l x = some y ∧ y.1.length ≤ 12 ∧ y.2.1.length ≤ 12 ∧ (y.2.2 = true → 1 ≤ y.1.length ∧ y.2.1.length = y.1.length ∧ y.1.length = ln.length ∧ ∀ k, gd y.1 k 0 ≤ gd y.2.1 k 0) := by
  unfold spec_l22Levels impl_profile
  rw [isLine_eq hfu, l22Line_eq hfu]
  rw [areAmplifiers_eq l _ (by omega) hn, l22List_eq l _ (by omega) hn]
  simp only [level_eq, isLevel_eq, Option.bind_some]
  obtain ⟨b1, h1⟩ : ∃ b, b = lineOk ln := ⟨_, rfl⟩
  obtain ⟨b2, h2⟩ : ∃ b, b = ampsOk l (ln.length : Int) := ⟨_, rfl⟩
  obtain ⟨b3, h3⟩ : ∃ b, b = (decide (-10000 ≤ x) && decide (x ≤ 10000)) := ⟨_, rfl⟩
  simp only [← h1, ← h2, ← h3]
  have nil : ∃ y : List Int × List Int × Bool, some (([] : List Int), ([] : List Int), false) = some y ∧ some (([] : List Int), ([] : List Int), false) = some y ∧ y.1.length ≤ 12 ∧ y.2.1.length ≤ 12 ∧ (y.2.2 = true → 1 ≤ y.1.length ∧ y.2.1.length = y.1.length ∧ y.1.length = ln.length ∧ ∀ k, gd y.1 k 0 ≤ gd y.2.1 k 0) := ⟨_, rfl, rfl, by simp, by simp, fun h => by cases h⟩
  cases b1
  · exact nil
  cases b2
  · exact nil
  cases b3
  · exact nil
  obtain ⟨hl, hl1⟩ := loss_range h1.symm
  simp only [Bool.not_true, Bool.false_eq_true, if_false, Option.bind_some]
  have g := profile_loop hfu ln l hl hn h2.symm fu 0 0 [] [] x rfl rfl (by omega) (by omega) (by omega) (fun k hk => by omega) (fun k _ hk => after0 h2.symm hk) (fun k => Int.le_refl _)
  rw [Int.ofNat_zero] at g
  rcases g with ⟨r, g1, g2, rfl⟩ | ⟨b', a', x', p', i', g1, g2, g3, g4, g5⟩
  · rw [g1, g2]; exact nil
  · rw [g1, g2]
    exact ⟨_, rfl, rfl, by simp only; omega, by simp only; omega, fun _ => ⟨by simp only; omega, by simp only; omega, g3, g5⟩⟩
end AT
