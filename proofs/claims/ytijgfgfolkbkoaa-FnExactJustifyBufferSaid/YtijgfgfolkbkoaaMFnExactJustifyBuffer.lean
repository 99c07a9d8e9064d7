/- JustifyBuffer: the program's and the reference's are one. -/
import Derived.Test.YtijgfgfolkbkoaaP1
import Derived.Test.YtijgfgfolkbkoaaH
set_option linter.unusedSimpArgs false
namespace AT
theorem app_one {α : Type} {l : List α} {x : α} (h : l.length ≤ 2097152) : app l [x] = some (l ++ [x]) := by
  unfold app; rw [if_pos (by simp; omega)]
abbrev JO := Out (Int × List Int × List Int × Int) (List Int × List Int × Bool)
def jGood (n : Nat) : JO → Prop
  | .ret r => r.1 = [] ∧ r.2.1 = []
  | .next z => z.2.1.length = n ∧ z.2.2.1.length = n
theorem justify_loop {fu : Nat} (ws : List Int) (size low high : Int) (hs : size ≤ 100) (hn : ws.length ≤ 40) : ∀ (fk i : Nat) (f : Int) (m fl : List Int), 0 ≤ f → f ≤ 100 → m.length = i → fl.length = i → i ≤ ws.length → ws.length - i < fk →
    ∃ o, spec_JustifyBuffer_L1 fu ws size low high fk f m fl i = some o ∧ impl_JustifyBuffer_L1 fu ws size low high fk f m fl i = some o ∧ jGood ws.length o := by
  intro fk
  induction fk with
  | zero => intro i _ _ _ _ _ _ _ _ h; omega
  | succ fk ih =>
    intro i f m fl h0 h1 hm hfl hi hk
    rw [spec_JustifyBuffer_L1, impl_JustifyBuffer_L1]
    by_cases h : i < ws.length
    · rw [if_pos (by simpa using h), if_pos (by simpa using h), idx_in h]
      generalize ws[i] = e
      simp only [Option.bind_some, l1In_eq, within_eq]
      by_cases he : 0 ≤ e ∧ e ≤ 14
      · obtain ⟨he0, he1⟩ := he
        have e1 : w64 (f + e) = f + e := w64_in (by omega) (by omega)
        have c1 : w64 (12 + -1) = 11 := by decide
        have c2 : w64 (12 + 1) = 13 := by decide
        have c3 : w64 (12 + 0) = 12 := by decide
        simp only [he0, he1, decide_true, Bool.and_self, Bool.not_true, Bool.false_eq_true, if_false, e1, c1, c2, c3, app_one (show m.length ≤ 2097152 by omega), app_one (show fl.length ≤ 2097152 by omega), Option.bind_some, w64_inc h (by omega)]
        generalize hg : f + e = g
        have d0 : w64 (g - 12) = g - 12 := w64_in (by omega) (by omega)
        have d1 : w64 (g - 12 - -1) = g - 11 := by rw [w64_in (by omega) (by omega)]; omega
        have d2 : w64 (g - 12 - 1) = g - 13 := by rw [w64_in (by omega) (by omega)]; omega
        have d3 : w64 (g - 12 - 0) = g - 12 := by rw [w64_in (by omega) (by omega)]; omega
        have d4 : w64 (g - 11) = g - 11 := w64_in (by omega) (by omega)
        have d5 : w64 (g - 13) = g - 13 := w64_in (by omega) (by omega)
        simp only [d0, d1, d2, d3, d4, d5]
        have q1 : decide (g - 11 < 0) = decide (g < 11) := by simp only [decide_eq_decide]; omega
        have q2 : decide (g - 13 < 0) = decide (g < 13) := by simp only [decide_eq_decide]; omega
        have q3 : decide (g - 12 < 0) = decide (g < 12) := by simp only [decide_eq_decide]; omega
        simp only [q1, q2, q3]
        by_cases s1 : g > size
        · simp only [s1, decide_true, if_true, Option.bind_some]
          cases decide (g > high) <;> cases decide (g < low) <;> exact ⟨_, rfl, rfl, rfl, rfl⟩
        · simp only [s1, decide_false, if_false, Option.bind_some, Bool.false_eq_true]
          have key : ∀ d x : Int, 0 ≤ x → x ≤ 100 → ∃ o, spec_JustifyBuffer_L1 fu ws size low high fk x (m ++ [d]) (fl ++ [x]) ((i + 1 : Nat) : Int) = some o ∧ impl_JustifyBuffer_L1 fu ws size low high fk x (m ++ [d]) (fl ++ [x]) ((i + 1 : Nat) : Int) = some o ∧ jGood ws.length o :=
            fun d x hx0 hx1 => ih (i + 1) x _ _ hx0 hx1 (by simp [hm]) (by simp [hfl]) h (by omega)
          by_cases s2 : g > high <;> by_cases s3 : g < low
          · by_cases s4 : g < 11
            · simp only [s2, s3, s4, decide_true, if_true]; exact ⟨_, rfl, rfl, rfl, rfl⟩
            · simp only [s2, s3, s4, decide_true, decide_false, if_true, Bool.false_eq_true, if_false]; exact key _ _ (by omega) (by omega)
          · by_cases s4 : g < 13
            · simp only [s2, s3, s4, decide_true, decide_false, if_true, Bool.false_eq_true, if_false]; exact ⟨_, rfl, rfl, rfl, rfl⟩
            · simp only [s2, s3, s4, decide_true, decide_false, if_true, Bool.false_eq_true, if_false]; exact key _ _ (by omega) (by omega)
          · by_cases s4 : g < 11
            · simp only [s2, s3, s4, decide_true, decide_false, if_true, Bool.false_eq_true, if_false]; exact ⟨_, rfl, rfl, rfl, rfl⟩
            · simp only [s2, s3, s4, decide_true, decide_false, if_true, Bool.false_eq_true, if_false]; exact key _ _ (by omega) (by omega)
          · by_cases s4 : g < 12
            · simp only [s2, s3, s4, decide_true, decide_false, if_true, Bool.false_eq_true, if_false]; exact ⟨_, rfl, rfl, rfl, rfl⟩
            · simp only [s2, s3, s4, decide_true, decide_false, if_true, Bool.false_eq_true, if_false]; exact key _ _ (by omega) (by omega)
      · have : (decide (0 ≤ e) && decide (e ≤ 14)) = false := by
          rw [Bool.eq_false_iff]; simpa using he
        simp only [this, Bool.not_false, if_true]
        exact ⟨_, rfl, rfl, rfl, rfl⟩
    · obtain rfl : i = ws.length := by omega
      rw [if_neg (by simp), if_neg (by simp)]
      exact ⟨_, rfl, rfl, hm, hfl⟩
theorem main_FnExactJustifyBuffer {fu : Nat} (hfu : 2097153 ≤ fu) {x0 : Int} {x1 : List Int} {x2 x3 x4 : Int} (_ : ok_Int x0) (_ : ok_IntS x1) (_ : ok_Int x2) (_ : ok_Int x3) (_ : ok_Int x4) (_ : B_IntS x1) :
    ∃ w, spec_JustifyBuffer fu x0 x1 x2 x3 x4 = some w ∧ impl_JustifyBuffer fu x0 x1 x2 x3 x4 = some w ∧ B_IntS w.1 ∧ B_IntS w.2.1 := by
  unfold spec_JustifyBuffer impl_JustifyBuffer
  simp only [l1In_eq, within_eq, Option.bind_some]
  obtain ⟨b1, h1⟩ : ∃ b, b = (decide (1 ≤ x2) && decide (x2 ≤ 100)) := ⟨_, rfl⟩
  obtain ⟨b2, h2⟩ : ∃ b, b = (decide (0 ≤ x0) && decide (x0 ≤ x2)) := ⟨_, rfl⟩
  obtain ⟨b3, h3⟩ : ∃ b, b = (decide (0 ≤ x3) && decide (x3 ≤ x4)) := ⟨_, rfl⟩
  obtain ⟨b4, h4⟩ : ∃ b, b = decide (x4 > x2) := ⟨_, rfl⟩
  obtain ⟨b5, h5⟩ : ∃ b, b = decide ((x1.length : Int) > 40) := ⟨_, rfl⟩
  simp only [← h1, ← h2, ← h3, ← h4, ← h5]
  have nil : B_IntS [] := ⟨by simp, by simp⟩
  cases b1
  · exact ⟨_, rfl, rfl, nil, nil⟩
  cases b2
  · exact ⟨_, rfl, rfl, nil, nil⟩
  cases b3
  · exact ⟨_, rfl, rfl, nil, nil⟩
  cases b4
  case true => exact ⟨_, rfl, rfl, nil, nil⟩
  cases b5
  case true => exact ⟨_, rfl, rfl, nil, nil⟩
  have h1' := h1.symm
  have h2' := h2.symm
  have h5' := h5.symm
  simp only [Bool.and_eq_true, decide_eq_true_eq, decide_eq_false_iff_not] at h1' h2' h5'
  obtain ⟨o, g1, g2, g3⟩ := justify_loop (fu := fu) x1 x2 x3 x4 h1'.2 (by omega) fu 0 x0 [] [] h2'.1 (by omega) rfl rfl (by omega) (by omega)
  rw [Int.ofNat_zero] at g1 g2
  simp only [Bool.not_true, Bool.false_eq_true, if_false, Option.bind_some, g1, g2]
  cases o with
  | ret r =>
    refine ⟨r, rfl, rfl, ?_⟩
    rw [g3.1, g3.2]; exact ⟨nil, nil⟩
  | next z => exact ⟨_, rfl, rfl, ⟨by have := g3.1; simp only; omega, fun _ _ => trivial⟩, ⟨by have := g3.2; simp only; omega, fun _ _ => trivial⟩⟩
end AT
