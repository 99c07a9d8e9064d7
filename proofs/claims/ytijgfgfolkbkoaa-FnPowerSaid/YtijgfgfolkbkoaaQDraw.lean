/- Draws of spans and amplifiers, plainly: they come to an end. -/
import Derived.Test.YtijgfgfolkbkoaaQCur
set_option linter.unusedSimpArgs false
namespace AT
theorem amplifier_ok {fu : Nat} {c : L1CurP} {k : Int} (hc : Cur c k) (hk : k ≤ 4611686018427386000) : ∃ r c', spec_l1Cur_amplifier fu c = some (r, c') ∧ Cur c' (k + 10) := by
  unfold spec_l1Cur_amplifier
  obtain ⟨r1, c1, g1, -, k1⟩ := among_ok (fu := fu) hc (by omega) [0, 20, 100, 200, 1000, 3000] (by decide) (by decide)
  obtain ⟨r2, c2, g2, -, k2⟩ := among_ok (fu := fu) k1 (by omega) [0, 50, 300, 2000, (-100)] (by decide) (by decide)
  obtain ⟨r3, c3, g3, -, k3⟩ := among_ok (fu := fu) k2 (by omega) [0, 100, 500, 1000, 1000, 1300, 9900] (by decide) (by decide)
  obtain ⟨r4, c4, g4, -, -, k4⟩ := pick_ok (fu := fu) k3 (by omega) 60 (by decide)
  simp only [g1, g2, g3, g4, Option.bind_some]
  split
  · obtain ⟨r5, c5, g5, -, k5⟩ := among_ok (fu := fu) k4 (by omega) [(-1), 10001] (by decide) (by decide)
    simp only [g5, Option.bind_some]; exact ⟨_, _, rfl, k5.mono (by omega)⟩
  · split
    · obtain ⟨r5, c5, g5, -, k5⟩ := among_ok (fu := fu) k4 (by omega) [(-10001), 10001] (by decide) (by decide)
      simp only [g5, Option.bind_some]; exact ⟨_, _, rfl, k5.mono (by omega)⟩
    · split
      · obtain ⟨r5, c5, g5, -, k5⟩ := among_ok (fu := fu) k4 (by omega) [(-100), 10000, 10001, 150] (by decide) (by decide)
        simp only [g5, Option.bind_some]; exact ⟨_, _, rfl, k5.mono (by omega)⟩
      · exact ⟨_, _, rfl, k4.mono (by omega)⟩
theorem amps_loop {fu : Nat} (n : Nat) (hn : n ≤ 100) : ∀ (fk i : Nat) (o : List Amplifier) (m : List By) (m2 : Int) (m3 : U64) (k : Int), Cur ⟨m, m2, m3⟩ k → k ≤ 1000000 + 12 * (i : Int) → o.length ≤ i → i ≤ n → n - i < fk →
    ∃ l i' m' a' s', spec_l1Cur_amplifiers_L1 fu (n : Int) fk o i m m2 m3 = some (l, i', m', a', s') ∧ l.length ≤ n ∧ Cur ⟨m', a', s'⟩ (1000000 + 12 * (n : Int)) := by
  intro fk
  induction fk with
  | zero => intro i _ _ _ _ _ _ _ _ _ h; omega
  | succ fk ih =>
    intro i o m m2 m3 k hc hk ho hi hf
    rw [spec_l1Cur_amplifiers_L1]
    by_cases h : i < n
    · have hlt : ((i : Int) < (n : Int)) = True := by simp; omega
      obtain ⟨r1, c1, g1, -, -, k1⟩ := pick_ok (fu := fu) hc (by omega) 2 (by decide)
      have e : w64 ((i : Int) + 1) = ((i + 1 : Nat) : Int) := by rw [w64_in (by omega) (by omega)]; omega
      simp only [hlt, decide_true, if_true, spec_l1Cur_one, g1, Option.bind_some, e]
      split
      · obtain ⟨r2, c2, g2, k2⟩ := amplifier_ok (fu := fu) k1 (by omega)
        have ha : ∀ z : Amplifier, app o [z] = some (o ++ [z]) := fun z => by unfold app; rw [if_pos (by simp; omega)]
        simp only [g2, Option.bind_some, ha]
        exact ih (i + 1) _ _ _ _ _ k2 (by omega) (by simp; omega) h (by omega)
      · exact ih (i + 1) _ _ _ _ _ k1 (by omega) (by omega) h (by omega)
    · obtain rfl : i = n := by omega
      rw [if_neg (by simp)]
      exact ⟨_, _, _, _, _, rfl, ho, hc.mono hk⟩
theorem amplifiers_ok {fu : Nat} (hfu : 2097153 ≤ fu) {c : L1CurP} {k : Int} (hc : Cur c k) (hk : k ≤ 1000000) (n : Nat) (hn : n ≤ 100) : ∃ l c', spec_l1Cur_amplifiers fu c (n : Int) = some (l, c') ∧ l.length ≤ n + 1 ∧ Cur c' 1100000 := by
  unfold spec_l1Cur_amplifiers
  obtain ⟨l, i', m', a', s', g1, g2, k1⟩ := amps_loop (fu := fu) n hn fu 0 [] c.code c.at_ c.seed k hc (by omega) (by simp) (by omega) (by omega)
  rw [Int.ofNat_zero] at g1
  obtain ⟨r2, c2, g3, -, -, k2⟩ := pick_ok (fu := fu) k1 (by omega) 30 (by decide)
  simp only [g1, Option.bind_some, spec_l1Cur_one, g3]
  split
  · have e : w64 ((n : Int) + 2) = (n : Int) + 2 := w64_in (by omega) (by omega)
    rw [e]
    obtain ⟨r3, c3, g4, -, -, k3⟩ := pick_ok (fu := fu) k2 (by omega) ((n : Int) + 2) (by omega)
    have ha : ∀ z : Amplifier, app l [z] = some (l ++ [z]) := fun z => by unfold app; rw [if_pos (by simp; omega)]
    simp only [g4, Option.bind_some, ha]
    exact ⟨_, _, rfl, by simp; omega, k3.mono (by omega)⟩
  · exact ⟨_, _, rfl, by omega, k2.mono (by omega)⟩
theorem level_ok {fu : Nat} {c : L1CurP} {k : Int} (hc : Cur c k) (hk : k ≤ 4611686018427386000) : ∃ r c', spec_l1Cur_level fu c = some (r, c') ∧ Cur c' (k + 4) := by
  unfold spec_l1Cur_level
  obtain ⟨r1, c1, g1, p0, p1, k1⟩ := pick_ok (fu := fu) hc (by omega) 60 (by decide)
  have p2 := p1 (by decide)
  have hq : ∃ q, quo r1 59 = some q ∧ 0 ≤ q ∧ q ≤ 1 := by
    unfold quo
    rw [if_neg (by decide), Int.tdiv_eq_ediv_of_nonneg p0, w64_in (by omega) (by omega)]
    exact ⟨_, rfl, by omega, by omega⟩
  obtain ⟨q, h1, h2, h3⟩ := hq
  have e : w64 (8 + q) = 8 + q := w64_in (by omega) (by omega)
  have hs : ∃ l, sub [0, 100, 300, (-500), 2000, (-2000), 10000, (-10000), (10001 : Int)] 0 (8 + q) = some l ∧ 1 ≤ l.length ∧ l.length ≤ 9 := by
    unfold sub
    rw [if_pos ⟨by decide, by omega, by simp; omega⟩]
    exact ⟨_, rfl, by simp; omega, by simp; omega⟩
  obtain ⟨l, h4, h5, h6⟩ := hs
  obtain ⟨r2, c2, g2, -, k2⟩ := among_ok (fu := fu) k1 (by omega) l h5 (by omega)
  simp only [g1, h1, e, h4, g2, Option.bind_some]
  exact ⟨_, _, rfl, k2.mono (by omega)⟩
theorem span_ok {fu : Nat} {c : L1CurP} {k : Int} (hc : Cur c k) (hk : k ≤ 4611686018427386000) : ∃ r c', spec_l1Cur_span fu c = some (r, c') ∧ Cur c' (k + 10) := by
  unfold spec_l1Cur_span
  obtain ⟨r1, c1, g1, -, k1⟩ := among_ok (fu := fu) hc (by omega) [0, 10, 40, 80, 100, 1000] (by decide) (by decide)
  obtain ⟨r2, c2, g2, -, k2⟩ := among_ok (fu := fu) k1 (by omega) [0, 200, 220, 250, 1000] (by decide) (by decide)
  obtain ⟨r3, c3, g3, -, -, k3⟩ := pick_ok (fu := fu) k2 (by omega) 5 (by decide)
  obtain ⟨r4, c4, g4, -, -, k4⟩ := pick_ok (fu := fu) k3 (by omega) 60 (by decide)
  simp only [g1, g2, g3, g4, Option.bind_some]
  split
  · obtain ⟨r5, c5, g5, -, k5⟩ := among_ok (fu := fu) k4 (by omega) [(-1), 1001] (by decide) (by decide)
    simp only [g5, Option.bind_some]; exact ⟨_, _, rfl, k5.mono (by omega)⟩
  · split
    · obtain ⟨r5, c5, g5, -, k5⟩ := among_ok (fu := fu) k4 (by omega) [(-1), 1001] (by decide) (by decide)
      simp only [g5, Option.bind_some]; exact ⟨_, _, rfl, k5.mono (by omega)⟩
    · split
      · obtain ⟨r5, c5, g5, -, k5⟩ := among_ok (fu := fu) k4 (by omega) [(-1), 51, 50] (by decide) (by decide)
        simp only [g5, Option.bind_some]; exact ⟨_, _, rfl, k5.mono (by omega)⟩
      · exact ⟨_, _, rfl, k4.mono (by omega)⟩
end AT
