/- Draws of lines, plainly: they come to an end. -/
import Derived.Test.YtijgfgfolkbkoaaQDraw
set_option linter.unusedSimpArgs false
namespace AT
theorem line_loop1 {fu : Nat} : ∀ (fk n : Nat) (o : List Span) (m : List By) (m2 : Int) (m3 : U64) (k : Int), Cur ⟨m, m2, m3⟩ k → k ≤ 1000 - 12 * (n : Int) → o.length + n ≤ 7 → n < fk →
    ∃ l n' m' a' s', spec_l1Cur_line_L1 fu fk o (n : Int) m m2 m3 = some (l, n', m', a', s') ∧ l.length ≤ 7 ∧ Cur ⟨m', a', s'⟩ 1000 := by
  intro fk
  induction fk with
  | zero => intro n _ _ _ _ _ _ _ _ h; omega
  | succ fk ih =>
    intro n o m m2 m3 k hc hk ho hf
    rw [spec_l1Cur_line_L1]
    by_cases h : 0 < n
    · have hlt : ((n : Int) > 0) = True := by simp; omega
      obtain ⟨r1, c1, g1, k1⟩ := span_ok (fu := fu) hc (by omega)
      have e : w64 ((n : Int) - 1) = ((n - 1 : Nat) : Int) := by rw [w64_in (by omega) (by omega)]; omega
      have ha : app o [r1] = some (o ++ [r1]) := by unfold app; rw [if_pos (by simp; omega)]
      simp only [hlt, decide_true, if_true, g1, Option.bind_some, ha, e]
      exact ih (n - 1) _ _ _ _ _ k1 (by omega) (by simp; omega) (by omega)
    · obtain rfl : n = 0 := by omega
      rw [if_neg (by simp)]
      exact ⟨_, _, _, _, _, rfl, by omega, hc.mono (by omega)⟩
theorem line_loop2 {fu : Nat} : ∀ (fk : Nat) (o : List Span) (m : List By) (m2 : Int) (m3 : U64) (k : Int), Cur ⟨m, m2, m3⟩ k → k ≤ 1010 + 2 * (o.length : Int) → o.length ≤ 13 → 13 - o.length < fk →
    ∃ l m' a' s', spec_l1Cur_line_L2 fu fk o m m2 m3 = some (l, m', a', s') ∧ l.length ≤ 13 ∧ Cur ⟨m', a', s'⟩ 1100 := by
  intro fk
  induction fk with
  | zero => intro o _ _ _ _ _ _ _ h; omega
  | succ fk ih =>
    intro o m m2 m3 k hc hk ho hf
    rw [spec_l1Cur_line_L2]
    obtain ⟨r1, c1, g1, p0, p1, k1⟩ := pick_ok (fu := fu) hc (by omega) 2 (by decide)
    have p2 := p1 (by decide)
    have e : w64 (12 + r1) = 12 + r1 := w64_in (by omega) (by omega)
    simp only [g1, Option.bind_some, e]
    by_cases h : (o.length : Int) < 12 + r1
    · have ha : ∀ z : Span, app o [z] = some (o ++ [z]) := fun z => by unfold app; rw [if_pos (by simp; omega)]
      simp only [h, decide_true, if_true, ha, Option.bind_some]
      exact ih _ _ _ _ _ k1 (by simp; omega) (by simp; omega) (by simp; omega)
    · simp only [h, decide_false, Bool.false_eq_true, if_false]
      exact ⟨_, _, _, _, rfl, ho, k1.mono (by omega)⟩
theorem line_ok {fu : Nat} (hfu : 2097153 ≤ fu) {c : L1CurP} {k : Int} (hc : Cur c k) (hk : k ≤ 100) : ∃ r c', spec_l1Cur_line fu c = some (r, c') ∧ r.length ≤ 13 ∧ Cur c' 1100 := by
  unfold spec_l1Cur_line
  obtain ⟨r1, c1, g1, p0, p1, k1⟩ := pick_ok (fu := fu) hc (by omega) 7 (by decide)
  have p2 := p1 (by decide)
  have e : w64 (1 + r1) = (((1 + r1).toNat : Nat) : Int) := by rw [w64_in (by omega) (by omega)]; omega
  obtain ⟨l, n', m', a', s', g2, hl, k2⟩ := line_loop1 (fu := fu) fu (1 + r1).toNat [] c1.code c1.at_ c1.seed (k + 2) k1 (by omega) (by simp; omega) (by omega)
  obtain ⟨r3, c3, g3, -, -, k3⟩ := pick_ok (fu := fu) k2 (by omega) 60 (by decide)
  simp only [g1, Option.bind_some, e, g2, g3]
  split
  · have hs : sub l 0 0 = some [] := by unfold sub; rw [if_pos (by omega)]; simp
    simp only [hs, Option.bind_some]
    exact ⟨_, _, rfl, by simp, k3.mono (by omega)⟩
  · split
    · obtain ⟨l4, m4, a4, s4, g4, h4, k4⟩ := line_loop2 (fu := fu) fu l c3.code c3.at_ c3.seed (1000 + 2) k3 (by omega) (by omega) (by omega)
      simp only [g4, Option.bind_some]
      exact ⟨_, _, rfl, h4, k4⟩
    · exact ⟨_, _, rfl, by omega, k3.mono (by omega)⟩
end AT
