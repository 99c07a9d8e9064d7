/- Amplifiers that are placed, plainly: with them the levels are what was asked for. -/
import Derived.Test.YtijgfgfolkbkoaaQProfile
set_option linter.unusedSimpArgs false
namespace AT
theorem place_loop {fu : Nat} (l : List Span) (a : Amplifier) (need : Int) (hn : l.length ≤ 12) : ∀ (fk i : Nat) (o : List Amplifier) (now m : Int), o.length ≤ i → i ≤ l.length → l.length - i < fk →
    (∃ r, spec_PlaceAmplifiers_L1 fu l a need fk o now i = some (.ret r) ∧ impl_PlaceAmplifiers_L1 fu l a need fk o now i m = some (.ret r) ∧ r.1 = []) ∨
    (∃ o' n' i' m', spec_PlaceAmplifiers_L1 fu l a need fk o now i = some (.next (o', n', i')) ∧ impl_PlaceAmplifiers_L1 fu l a need fk o now i m = some (.next (o', n', i', m')) ∧ o'.length ≤ l.length) := by
  intro fk
  induction fk with
  | zero => intro i _ _ _ _ _ h; omega
  | succ fk ih =>
    intro i o now m ho hi hk
    rw [spec_PlaceAmplifiers_L1, impl_PlaceAmplifiers_L1]
    by_cases h : i < l.length
    · rw [if_pos (by simpa using h), if_pos (by simpa using h), idx_in h]
      simp only [Option.bind_some, l22Loss_eq, lossOf_eq, level_eq, isLevel_eq]
      generalize w64 (now - lossF l[i]) = x
      by_cases hx : (-10000 ≤ x ∧ x ≤ 10000) ∧ ¬ x < need
      · obtain ⟨⟨x1, x2⟩, x3⟩ := hx
        simp only [x1, x2, x3, decide_true, decide_false, Bool.and_self, Bool.not_true, Bool.false_eq_true, if_false, Option.bind_some, w64_inc h (show (l.length : Int) ≤ 9223372036854775807 by omega)]
        have ha : ∀ z : Amplifier, app o [z] = some (o ++ [z]) := fun z => by unfold app; rw [if_pos (by simp; omega)]
        simp only [ha, Option.bind_some, amplified_eq, l22Raise_eq]
        by_cases h2 : i + 1 < l.length
        · have h2' : ((i + 1 : Nat) : Int) < l.length := by omega
          simp only [h2', decide_true, if_true, idx_in h2, Option.bind_some]
          by_cases h3 : w64 (x - lossF l[i + 1]) < need
          · simp only [h3, decide_true, if_true]
            exact ih (i + 1) _ _ _ (by simp; omega) h (by omega)
          · simp only [h3, decide_false, Bool.false_eq_true, if_false]
            exact ih (i + 1) _ _ _ (by omega) h (by omega)
        · have h2' : ¬ ((i + 1 : Nat) : Int) < l.length := by omega
          simp only [h2', decide_false, Bool.false_eq_true, if_false, Option.bind_some]
          exact ih (i + 1) _ _ _ (by omega) h (by omega)
      · left
        refine ⟨([], false), ?_, ?_, rfl⟩
        · by_cases y : -10000 ≤ x ∧ x ≤ 10000
          · have y3 : x < need := by
              rcases Int.lt_or_le x need with y3 | y3
              · exact y3
              · exact absurd ⟨y, by omega⟩ hx
            simp [y.1, y.2, y3]
          · have : (decide (-10000 ≤ x) && decide (x ≤ 10000)) = false := by rw [Bool.eq_false_iff]; simpa using y
            simp [this]
        · by_cases y3 : x < need
          · simp [y3]
          · have : (decide (-10000 ≤ x) && decide (x ≤ 10000)) = false := by
              rw [Bool.eq_false_iff]
              intro hh
              simp only [Bool.and_eq_true, decide_eq_true_eq] at hh
              exact hx ⟨hh, y3⟩
            simp [y3, this]
    · obtain rfl : i = l.length := by omega
      rw [if_neg (by simp), if_neg (by simp)]
      exact .inr ⟨_, _, _, _, rfl, rfl, ho⟩

theorem place_ret {fu : Nat} (l : List Span) (a : Amplifier) (need : Int) : ∀ (fk : Nat) (o : List Amplifier) (now i : Int) {r : List Amplifier × Bool}, spec_PlaceAmplifiers_L1 fu l a need fk o now i = some (.ret r) → r.2 = false := by
  intro fk
  induction fk with
  | zero => intro o now i r h; cases h
  | succ fk ih =>
    intro o now i r h
    rw [spec_PlaceAmplifiers_L1] at h
    split at h
    · obtain ⟨e, -, h⟩ := bind_some h
      obtain ⟨y5, -, h⟩ := bind_some h
      obtain ⟨c4, -, h⟩ := bind_some h
      split at h
      · simp only [Option.some.injEq, Out.ret.injEq] at h
        subst h; rfl
      · obtain ⟨c5, -, h⟩ := bind_some h
        split at h
        · obtain ⟨l2, -, h⟩ := bind_some h
          obtain ⟨y8, -, h⟩ := bind_some h
          exact ih _ _ _ h
        · exact ih _ _ _ h
    · simp only [Option.some.injEq] at h
      cases h
/-- Placing from round i on, and the levels with what has been placed at the end. -/
theorem place_levels {fu : Nat} (hfu : 2097153 ≤ fu) (l : List Span) (a : Amplifier) (need : Int) (hn : l.length ≤ 12) (haok : ampOk a = true) (fl : List Amplifier) : ∀ (fk i : Nat) (o : List Amplifier) (now : Int) (n' : Int) (i' : Int), o.length ≤ i → i ≤ l.length → l.length - i < fk →
    spec_PlaceAmplifiers_L1 fu l a need fk o now i = some (.next (fl, n', i')) →
    ∃ rest, fl = o ++ rest ∧ rest.length ≤ l.length - i ∧ (∀ e ∈ rest, (i : Int) ≤ e.After ∧ e.After < l.length ∧ ampOk e = true) ∧ (∀ j k, j < k → k < rest.length → (gd rest j amp0).After < (gd rest k amp0).After) ∧
      ∀ (fk2 : Nat) (b av : List Int), l.length - i < fk2 → b.length = i → av.length = i → ∃ b' a' x' p' i2, spec_l22Levels_L1 fu l fl fk2 b av now (o.length : Int) i = some (.next (b', a', x', p', i2)) ∧ (∀ e ∈ b', e ∈ b ∨ need ≤ e) ∧ b'.length = l.length := by
  intro fk
  induction fk with
  | zero => intro i _ _ _ _ _ _ h; omega
  | succ fk ih =>
    intro i o now n' i' ho hi hk hp
    rw [spec_PlaceAmplifiers_L1] at hp
    by_cases h : i < l.length
    · have hc : ((i : Int) < l.length) = True := by simp; omega
      simp only [hc, decide_true, if_true, idx_in h, Option.bind_some, l22Loss_eq, level_eq, w64_inc h (show (l.length : Int) ≤ 9223372036854775807 by omega)] at hp
      generalize hx : w64 (now - lossF l[i]) = x at hp
      obtain ⟨c, hcc⟩ : ∃ c, c = (decide (-10000 ≤ x) && decide (x ≤ 10000)) := ⟨_, rfl⟩
      simp only [← hcc] at hp
      cases c
      · simp at hp
      simp only [Bool.not_true, Bool.false_eq_true, if_false, Option.bind_some] at hp
      by_cases hnd : x < need
      · simp [hnd] at hp
      simp only [hnd, decide_false, Bool.false_eq_true, if_false] at hp
      -- what the levels do in this round
      have step : ∀ (fk2 : Nat) (b av : List Int), l.length - i < fk2 → b.length = i → av.length = i → ∃ fk3, fk2 = fk3 + 1 ∧ l.length - (i + 1) < fk3 + 1 ∧ spec_l22Levels_L1 fu l fl fk2 b av now (o.length : Int) i =
          (if decide ((o.length : Int) < (fl.length : Int)) then (idx fl (o.length : Int)).bind fun e2 => some (e2.After == (i : Int)) else some false).bind fun c7 =>
            if c7 then (idx fl (o.length : Int)).bind fun e3 => (app av [ampF x e3.Gain e3.Output]).bind fun l2 => spec_l22Levels_L1 fu l fl fk3 (b ++ [x]) l2 (ampF x e3.Gain e3.Output) (w64 ((o.length : Int) + 1)) ((i + 1 : Nat) : Int)
            else (app av [x]).bind fun l3 => spec_l22Levels_L1 fu l fl fk3 (b ++ [x]) l3 x (o.length : Int) ((i + 1 : Nat) : Int) := by
        intro fk2 b av hf hb hav
        obtain ⟨fk3, rfl⟩ := Nat.exists_eq_succ_of_ne_zero (by omega : fk2 ≠ 0)
        refine ⟨fk3, rfl, by omega, ?_⟩
        have ab : app b [x] = some (b ++ [x]) := by unfold app; rw [if_pos (by simp; omega)]
        rw [spec_l22Levels_L1]
        simp only [hc, decide_true, if_true, idx_in h, Option.bind_some, l22Loss_eq, level_eq, hx, ← hcc, Bool.not_true, Bool.false_eq_true, if_false, ab, l22Raise_eq, w64_inc h (show (l.length : Int) ≤ 9223372036854775807 by omega)]
      -- the next round of placing
      have nop : spec_PlaceAmplifiers_L1 fu l a need fk o x ((i + 1 : Nat) : Int) = some (.next (fl, n', i')) → _ := fun hq => ih (i + 1) o x n' i' (by omega) h (by omega) hq
      have yes : ∀ z : Amplifier, z.After = i → z.Gain = a.Gain → z.Output = a.Output → z.Noise = a.Noise → spec_PlaceAmplifiers_L1 fu l a need fk (o ++ [z]) (ampF x a.Gain a.Output) ((i + 1 : Nat) : Int) = some (.next (fl, n', i')) →
          ∃ rest, fl = o ++ rest ∧ rest.length ≤ l.length - i ∧ (∀ e ∈ rest, (i : Int) ≤ e.After ∧ e.After < l.length ∧ ampOk e = true) ∧ (∀ j k, j < k → k < rest.length → (gd rest j amp0).After < (gd rest k amp0).After) ∧
      ∀ (fk2 : Nat) (b av : List Int), l.length - i < fk2 → b.length = i → av.length = i → ∃ b' a' x' p' i2, spec_l22Levels_L1 fu l fl fk2 b av now (o.length : Int) i = some (.next (b', a', x', p', i2)) ∧ (∀ e ∈ b', e ∈ b ∨ need ≤ e) ∧ b'.length = l.length := by
        intro z z1 z2 z3 z4 hq
        obtain ⟨rest, r1, r2, r3, r4, r5⟩ := ih (i + 1) (o ++ [z]) _ n' i' (by simp; omega) h (by omega) hq
        have hzok : ampOk z = true := by unfold ampOk at haok ⊢; rw [z2, z3, z4]; exact haok
        refine ⟨z :: rest, by rw [r1]; simp, by simp; omega, fun e he => ?_, fun j k hj hk' => ?_, fun fk2 b av hf hb hav => ?_⟩
        · rcases List.mem_cons.1 he with rfl | he
          · exact ⟨by omega, by omega, hzok⟩
          · obtain ⟨q1, q2, q3⟩ := r3 e he
            exact ⟨by omega, q2, q3⟩
        · cases k with
          | zero => omega
          | succ k =>
            have hk2 : k < rest.length := by simpa using hk'
            cases j with
            | zero =>
              show z.After < (gd rest k amp0).After
              have := (r3 (gd rest k amp0) (by rw [gd_in amp0 hk2]; exact List.getElem_mem hk2)).1
              generalize (gd rest k amp0).After = u at this
              omega
            | succ j => exact r4 j k (by omega) hk2
        · obtain ⟨fk3, rfl, hf3, hs⟩ := step fk2 b av hf hb hav
          rw [hs]
          have hlt : ((o.length : Int) < (fl.length : Int)) = True := by rw [r1]; simp; omega
          have hidx : idx fl (o.length : Int) = some z := by
            rw [idx_nat, r1]; simp
          have aa : app av [ampF x z.Gain z.Output] = some (av ++ [ampF x z.Gain z.Output]) := by unfold app; rw [if_pos (by simp; omega)]
          have hw : w64 ((o.length : Int) + 1) = (((o ++ [z]).length : Nat) : Int) := by rw [w64_in (by omega) (by omega)]; simp
          simp only [hlt, decide_true, if_true, hidx, Option.bind_some, z1, beq_self_eq_true, aa, hw]
          rw [z2, z3]
          obtain ⟨b', a', x', p', i2, g1, g2, g3⟩ := r5 fk3 (b ++ [x]) (av ++ [ampF x a.Gain a.Output]) (by omega) (by simp [hb]) (by simp [hav])
          refine ⟨b', a', x', p', i2, g1, fun e he => ?_, g3⟩
          rcases g2 e he with q | q
          · rcases List.mem_append.1 q with q | q
            · exact .inl q
            · rw [List.mem_singleton] at q; subst q; exact .inr (by omega)
          · exact .inr q
      have no : spec_PlaceAmplifiers_L1 fu l a need fk o x ((i + 1 : Nat) : Int) = some (.next (fl, n', i')) →
          ∃ rest, fl = o ++ rest ∧ rest.length ≤ l.length - i ∧ (∀ e ∈ rest, (i : Int) ≤ e.After ∧ e.After < l.length ∧ ampOk e = true) ∧ (∀ j k, j < k → k < rest.length → (gd rest j amp0).After < (gd rest k amp0).After) ∧
      ∀ (fk2 : Nat) (b av : List Int), l.length - i < fk2 → b.length = i → av.length = i → ∃ b' a' x' p' i2, spec_l22Levels_L1 fu l fl fk2 b av now (o.length : Int) i = some (.next (b', a', x', p', i2)) ∧ (∀ e ∈ b', e ∈ b ∨ need ≤ e) ∧ b'.length = l.length := by
        intro hq
        obtain ⟨rest, r1, r2, r3, r4, r5⟩ := ih (i + 1) o x n' i' (by omega) h (by omega) hq
        refine ⟨rest, r1, by omega, fun e he => ?_, r4, fun fk2 b av hf hb hav => ?_⟩
        · obtain ⟨q1, q2, q3⟩ := r3 e he
          exact ⟨by omega, q2, q3⟩
        · obtain ⟨fk3, rfl, hf3, hs⟩ := step fk2 b av hf hb hav
          rw [hs]
          have aa : app av [x] = some (av ++ [x]) := by unfold app; rw [if_pos (by simp; omega)]
          have hno : (if decide ((o.length : Int) < (fl.length : Int)) then (idx fl (o.length : Int)).bind fun e2 => some (e2.After == (i : Int)) else some false : Option Bool) = some false := by
            cases rest with
            | nil =>
              have : ¬ ((o.length : Int) < (fl.length : Int)) := by rw [r1]; simp
              simp [this]
            | cons z rest =>
              have hlt : ((o.length : Int) < (fl.length : Int)) = True := by rw [r1]; simp; omega
              have hidx : idx fl (o.length : Int) = some z := by rw [idx_nat, r1]; simp
              have hz := (r3 z (by simp)).1
              have : (z.After == (i : Int)) = false := by simp; omega
              simp only [hlt, decide_true, if_true, hidx, Option.bind_some, this]
          rw [hno]
          simp only [Option.bind_some, Bool.false_eq_true, if_false, aa]
          obtain ⟨b', a', x', p', i2, g1, g2, g3⟩ := r5 fk3 (b ++ [x]) (av ++ [x]) (by omega) (by simp [hb]) (by simp [hav])
          refine ⟨b', a', x', p', i2, g1, fun e he => ?_, g3⟩
          rcases g2 e he with q | q
          · rcases List.mem_append.1 q with q | q
            · exact .inl q
            · rw [List.mem_singleton] at q; subst q; exact .inr (by omega)
          · exact .inr q
      clear nop
      have ha : ∀ z : Amplifier, app o [z] = some (o ++ [z]) := fun z => by unfold app; rw [if_pos (by simp; omega)]
      simp only [ha, Option.bind_some, l22Raise_eq] at hp
      by_cases h2 : i + 1 < l.length
      · have h2' : (((i + 1 : Nat) : Int) < l.length) = True := by simp; omega
        simp only [h2', decide_true, if_true, idx_in h2, Option.bind_some] at hp
        split at hp
        · exact yes ⟨(i : Int), a.Gain, a.Output, a.Noise⟩ rfl rfl rfl rfl hp
        · exact no hp
      · have h2' : (((i + 1 : Nat) : Int) < l.length) = False := by simp; omega
        simp only [h2', decide_false, Bool.false_eq_true, if_false, Option.bind_some] at hp
        exact no hp
    · obtain rfl : i = l.length := by omega
      rw [if_neg (by simp)] at hp
      simp only [Option.some.injEq, Out.next.injEq, Prod.mk.injEq] at hp
      obtain ⟨rfl, rfl, rfl⟩ := hp
      refine ⟨[], by simp, by simp, by simp, fun j k _ hk' => by simp at hk', fun fk2 b av hf hb hav => ?_⟩
      obtain ⟨fk3, rfl⟩ := Nat.exists_eq_succ_of_ne_zero (by omega : fk2 ≠ 0)
      rw [spec_l22Levels_L1, if_neg (by simp)]
      exact ⟨_, _, _, _, _, rfl, fun e he => .inl he, hb⟩
end AT
