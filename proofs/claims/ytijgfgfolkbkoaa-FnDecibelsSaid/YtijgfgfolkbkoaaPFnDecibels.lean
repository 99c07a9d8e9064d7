/- FnDecibels, plainly. -/
import Derived.Test.YtijgfgfolkbkoaaQCur
import Derived.Test.YtijgfgfolkbkoaaQLin
import Derived.Test.YtijgfgfolkbkoaaQAmp
import Derived.Test.YtijgfgfolkbkoaaQSpan
import Derived.Test.YtijgfgfolkbkoaaQDraw
set_option linter.unusedSimpArgs false
set_option linter.unusedVariables false
namespace AT
/-- The value table: linear values grow. -/
def linT (m : Nat) : Int := ((spec_l22Linear 200 (100 * (m : Int))).getD 0)
theorem linT_mono : (List.range 99).all (fun m => decide (linT m < linT (m + 1))) = true := by decide +kernel
theorem linT_lo : decide (linT 0 = 1000) = true := by decide +kernel
theorem linT_hi : decide (linT 99 ≤ 7943000000000) = true := by decide +kernel
theorem lin_T {fu : Nat} (hfu : 200 ≤ fu) {m : Nat} (h : m < 100) {x : Int} (hx : x = 100 * (m : Int)) : spec_l22Linear fu x = some (linT m) ∧ impl_linear fu x = some (linT m) := by
  obtain ⟨a, h1, h2, -, -, -⟩ := lin_at m h
  have e : linT m = a := by unfold linT; rw [h1]; rfl
  rw [e, hx]
  exact ⟨l22Linear_mono hfu h1, linear_mono hfu h2⟩
theorem linT_lt : ∀ {i j : Nat}, i < j → j < 100 → linT i < linT j := by
  intro i j hij hj
  have adj : ∀ m, m < 99 → linT m < linT (m + 1) := fun m hm => by
    have := List.all_eq_true.1 linT_mono m (List.mem_range.2 hm)
    simpa using this
  induction j with
  | zero => omega
  | succ j ih =>
    by_cases e : i = j
    · subst e; exact adj i (by omega)
    · exact Int.lt_trans (ih (by omega) (by omega)) (adj j (by omega))
theorem linT_range {m : Nat} (h : m < 100) : 1000 ≤ linT m ∧ linT m ≤ 7943000000000 := by
  have h0 : linT 0 = 1000 := by simpa using linT_lo
  have h9 : linT 99 ≤ 7943000000000 := by simpa using linT_hi
  constructor
  · by_cases e : m = 0
    · subst e; omega
    · have := linT_lt (i := 0) (j := m) (by omega) h; omega
  · by_cases e : m = 99
    · subst e; exact h9
    · have := linT_lt (i := m) (j := 99) (by omega) (by omega); omega
theorem linOk_iff {x : Int} : linOk x = true ↔ ∃ m : Nat, m < 100 ∧ x = 100 * (m : Int) := by
  simp only [linOk, Bool.and_eq_true, decide_eq_true_eq]
  constructor
  · rintro ⟨⟨h0, h1⟩, h2⟩
    exact ⟨(x / 100).toNat, by omega, by omega⟩
  · rintro ⟨m, hm, rfl⟩
    omega
/-- The level of a value: the highest whose linear value is not above it. -/
theorem level_loop {fu : Nat} (hfu : 200 ≤ fu) (v : Int) : ∀ (fk m : Nat) (x : Int), x = 100 * (m : Int) → m < 100 → 99 - m < fk → ∃ (q : Nat) (y : Int), impl_LevelOf_L1 fu v fk x = some y ∧ y = 100 * (q : Int) ∧ m ≤ q ∧ q < 100 ∧ (∀ j, m < j → j ≤ q → linT j ≤ v) ∧ (q + 1 < 100 → v < linT (q + 1)) := by
  intro fk
  induction fk with
  | zero => intro m x _ _ h; omega
  | succ fk ih =>
    intro m x hx hm hk
    obtain ⟨x2, hx2⟩ : ∃ x2, x2 = x + 100 := ⟨_, rfl⟩
    have e : w64 (x + 100) = x2 := by rw [w64_in (by omega) (by omega)]; omega
    have hx3 : x2 = 100 * ((m + 1 : Nat) : Int) := by omega
    rw [impl_LevelOf_L1]
    simp only [hasLinear_eq, e, Option.bind_some]
    clear e
    by_cases h : m + 1 < 100
    · have hl : linOk x2 = true := linOk_iff.2 ⟨m + 1, h, hx3⟩
      simp only [hl, if_true, (lin_T hfu h hx3).2, Option.bind_some]
      by_cases hv : linT (m + 1) ≤ v
      · simp only [hv, decide_true, if_true]
        obtain ⟨q, y, g1, g0, g2, g3, g4, g5⟩ := ih (m + 1) x2 hx3 h (by omega)
        refine ⟨q, y, g1, g0, by omega, g3, fun j hj1 hj2 => ?_, g5⟩
        by_cases ej : j = m + 1
        · subst ej; exact hv
        · exact g4 j (by omega) hj2
      · simp only [hv, decide_false, Bool.false_eq_true, if_false]
        exact ⟨m, x, rfl, hx, Nat.le_refl _, hm, fun j h1 h2 => by omega, fun _ => by omega⟩
    · have hl : linOk x2 = false := by
        rw [Bool.eq_false_iff]
        intro hh
        obtain ⟨q, hq1, hq2⟩ := linOk_iff.1 hh
        omega
      simp only [hl, Bool.false_eq_true, if_false, Option.bind_some]
      exact ⟨m, x, rfl, hx, Nat.le_refl _, hm, fun j h1 h2 => by omega, fun hh => absurd hh h⟩
theorem levelOf_of {fu : Nat} (hfu : 200 ≤ fu) {v : Int} (h0 : 1000 ≤ v) (h1 : v ≤ 10000000000000) : ∃ (q : Nat) (y : Int), impl_LevelOf fu v = some (y, true) ∧ y = 100 * (q : Int) ∧ q < 100 ∧ (∀ j, 0 < j → j ≤ q → linT j ≤ v) ∧ (q + 1 < 100 → v < linT (q + 1)) := by
  obtain ⟨q, y, g1, g0, g2, g3, g4, g5⟩ := level_loop hfu v fu 0 0 rfl (by omega) (by omega)
  refine ⟨q, y, ?_, g0, g3, fun j hj => g4 j hj, g5⟩
  unfold impl_LevelOf
  have hw : impl_within fu v 1000 10000000000000 = some true := by simp [h0, h1]
  rw [hw]
  simp only [Option.bind_some, Bool.not_true, Bool.false_eq_true, if_false, g1]
theorem levelOf_T {fu : Nat} (hfu : 200 ≤ fu) {m : Nat} (h : m < 100) {x : Int} (hx : x = 100 * (m : Int)) : impl_LevelOf fu (linT m) = some (x, true) := by
  obtain ⟨r0, r1⟩ := linT_range h
  obtain ⟨q, y, g1, g0, g2, g3, g4⟩ := levelOf_of hfu (v := linT m) r0 (by omega)
  have : q = m := by
    rcases Nat.lt_trichotomy q m with hq | hq | hq
    · have h1 := g4 (by omega)
      by_cases e : q + 1 = m
      · rw [e] at h1; omega
      · have := linT_lt (i := q + 1) (j := m) (by omega) h; omega
    · exact hq
    · have h1 := g3 q (by omega) (Nat.le_refl _)
      have := linT_lt hq g2
      omega
  have hy : y = x := by rw [g0, hx, this]
  rw [hy] at g1; exact g1
/-- The sum of noises is at least each of them. -/
theorem sum_loop {fu : Nat} (hfu : 200 ≤ fu) (l : List Amplifier) (hn : l.length ≤ 100000) : ∀ (fk i : Nat) (s : Int), i ≤ l.length → l.length - i < fk → 0 ≤ s → s ≤ 7943000000000 * (i : Int) →
    ∃ o, impl_NoiseSum_L1 fu l fk s i = some o ∧ match o with | .ret r => r = (0, false) | .next z => s ≤ z.1 ∧ z.1 ≤ 7943000000000 * (l.length : Int) ∧ ∀ e ∈ l.drop i, ∃ m : Nat, m < 100 ∧ e.Noise = 100 * (m : Int) ∧ linT m ≤ z.1 := by
  intro fk
  induction fk with
  | zero => intro i s _ h; omega
  | succ fk ih =>
    intro i s hi hk h0 h1
    rw [impl_NoiseSum_L1]
    by_cases h : i < l.length
    · have hc : ((i : Int) < l.length) = True := by simp; omega
      simp only [hc, decide_true, if_true, idx_in h, Option.bind_some, hasLinear_eq]
      cases hl : linOk l[i].Noise
      · exact ⟨_, rfl, rfl⟩
      · obtain ⟨m, hm, he⟩ := linOk_iff.1 hl
        obtain ⟨r0, r1⟩ := linT_range hm
        have e2 : impl_linear fu l[i].Noise = some (linT m) := (lin_T hfu hm he).2
        have e3 : w64 (s + linT m) = s + linT m := w64_in (by omega) (by omega)
        simp only [Bool.not_true, Bool.false_eq_true, if_false, e2, Option.bind_some, e3, w64_inc h (show (l.length : Int) ≤ 9223372036854775807 by omega)]
        obtain ⟨o, g1, g2⟩ := ih (i + 1) (s + linT m) h (by omega) (by omega) (by omega)
        refine ⟨o, g1, ?_⟩
        cases o with
        | ret r => exact g2
        | next z =>
          obtain ⟨q1, q2, q3⟩ := g2
          refine ⟨by omega, q2, fun e hm' => ?_⟩
          rw [← List.getElem_cons_drop h] at hm'
          rcases List.mem_cons.1 hm' with rfl | hm'
          · exact ⟨m, hm, he, by omega⟩
          · exact q3 e hm'
    · obtain rfl : i = l.length := by omega
      rw [if_neg (by simp)]
      exact ⟨_, rfl, Int.le_refl _, h1, by simp⟩
theorem noise_loop {fu : Nat} (hfu : 200 ≤ fu) (l : List Amplifier) (hn : l.length ≤ 2097152) : ∀ (fk i : Nat) (s : Int), i ≤ l.length → l.length - i < fk → spec_NoiseSum_L1 fu l fk s i = impl_NoiseSum_L1 fu l fk s i := by
  intro fk
  induction fk with
  | zero => intro i s _ h; omega
  | succ fk ih =>
    intro i s hi hk
    rw [spec_NoiseSum_L1, impl_NoiseSum_L1]
    by_cases h : i < l.length
    · have hc : ((i : Int) < l.length) = True := by simp; omega
      simp only [hc, decide_true, if_true, idx_in h, Option.bind_some, hasLinear_eq]
      cases hl : linOk l[i].Noise
      · rw [linear_no fu hl]; rfl
      · obtain ⟨a, h1, h2, h3, -, -⟩ := linear_yes hfu hl
        have : ¬ a = 0 := by omega
        simp only [h1, h2, Option.bind_some, beq_iff_eq, this, if_false, Bool.not_true, Bool.false_eq_true, w64_inc h (show (l.length : Int) ≤ 9223372036854775807 by omega)]
        exact ih _ _ h (by omega)
    · obtain rfl : i = l.length := by omega
      rw [if_neg (by simp), if_neg (by simp)]
/-- Both tell the same; and where a sum is told, no noise is above it. -/
theorem noise_eq {fu : Nat} (hfu : 2097153 ≤ fu) (l : List Amplifier) (hn : l.length ≤ 1000) : ∃ w, impl_NoiseSum fu l = some w ∧ spec_NoiseSum fu l = some w ∧ (w.2 = true → ∀ e ∈ l, e.Noise ≤ w.1) := by
  unfold impl_NoiseSum spec_NoiseSum
  rw [areAmplifiers_eq l 12 (by omega) (by omega), l22List_eq l 12 (by omega) (by omega)]
  simp only [Option.bind_some]
  generalize hc : (if ((l.length : Int) == 0) = true then some true else some (!ampsOk l 12) : Option Bool) = c
  have : ∃ d, c = some d := by rw [← hc]; split <;> exact ⟨_, rfl⟩
  obtain ⟨d, rfl⟩ := this
  simp only [Option.bind_some]
  cases d
  · have e0 := noise_loop (fu := fu) (by omega) l (by omega) fu 0 0 (by omega) (by omega)
    obtain ⟨o, h1, h2⟩ := sum_loop (fu := fu) (by omega) l (by omega) fu 0 0 (by omega) (by omega) (by omega) (by omega)
    rw [Int.ofNat_zero] at e0 h1
    simp only [Bool.false_eq_true, if_false, e0, h1, Option.bind_some]
    cases o with
    | ret r => exact ⟨r, rfl, rfl, fun h => by simp only at h2; rw [h2] at h; cases h⟩
    | next z =>
      simp only [Out.on, l1In_eq, Option.bind_some]
      simp only at h2
      by_cases hz : 1000 ≤ z.1 ∧ z.1 ≤ 10000000000000
      · obtain ⟨q, yq, g1, g0, g2, g3, g4⟩ := levelOf_of (fu := fu) (by omega) hz.1 hz.2
        obtain ⟨r, q1, q2⟩ := levelOf_eq (fu := fu) (by omega) z.1 fu 0 (by decide) (by omega)
        have hr : r = yq := by
          have hw : impl_within fu z.1 1000 10000000000000 = some true := by simp [hz.1, hz.2]
          unfold impl_LevelOf at g1
          rw [hw] at g1
          simp only [Option.bind_some, Bool.not_true, Bool.false_eq_true, if_false, q2] at g1
          exact (Prod.mk.inj (Option.some.inj g1)).1
        simp only [g1, hz.1, hz.2, decide_true, Bool.and_self, Bool.not_true, Bool.false_eq_true, if_false, Option.bind_some, spec_l22Of, q1]
        refine ⟨_, rfl, by rw [hr], fun _ e he => ?_⟩
        obtain ⟨m, hm, hem, hl⟩ := h2.2.2 e (by simpa using he)
        simp only [hem]
        have hmq : m ≤ q := by
          rcases Nat.lt_or_ge q m with hq | hq
          · have h5 := g4 (by omega)
            by_cases e2 : q + 1 = m
            · rw [e2] at h5; omega
            · have := linT_lt (i := q + 1) (j := m) (by omega) hm; omega
          · exact hq
        omega
      · have hf : (decide (1000 ≤ z.1) && decide (z.1 ≤ 10000000000000)) = false := by
          rw [Bool.eq_false_iff]; simpa using hz
        simp only [impl_LevelOf, within_eq, hf, Option.bind_some, Bool.not_false, if_true]
        exact ⟨_, rfl, rfl, fun h => by cases h⟩
  · exact ⟨_, rfl, rfl, fun h => by cases h⟩
theorem linearValue_eq {fu : Nat} (hfu : 200 ≤ fu) (x : Int) : ∃ w, impl_LinearValue fu x = some w ∧ spec_LinearValue fu x = some w ∧ (w.2 = true → impl_LevelOf fu w.1 = some (x, true)) := by
  unfold impl_LinearValue spec_LinearValue
  rw [hasLinear_eq]
  cases hl : linOk x
  · rw [linear_no fu hl]; exact ⟨_, rfl, rfl, fun h => by cases h⟩
  · obtain ⟨m, hm, hx⟩ := linOk_iff.1 hl
    obtain ⟨h1, h2⟩ := lin_T hfu hm hx
    have := linT_range hm
    have hp : decide (linT m > 0) = true := by simp; omega
    simp only [h1, h2, Option.bind_some, Bool.not_true, Bool.false_eq_true, if_false, hp]
    exact ⟨_, rfl, rfl, fun _ => levelOf_T hfu hm hx⟩
theorem quiet_loop1 {fu : Nat} (l : List Amplifier) (w : Int × Bool) (hw : ∀ e ∈ l, e.Noise ≤ w.1) (hn : l.length ≤ 1000) (hfu : 2097153 ≤ fu) : laws_FnDecibels_L1 fu l w fu 0 = some (.next (l.length : Int)) ∧ laws_FnDecibels_L2 fu l w fu 0 = some (.next (l.length : Int)) := by
  have hany : l.any (fun e => decide (e.Noise > w.1)) = false := by
    rw [List.any_eq_false]; intro e he; have := hw e he; simp; omega
  constructor
  · rw [scan_all (l := l) (G := laws_FnDecibels_L1 fu l w) (fun e => decide (e.Noise > w.1)) (fun _ => false) (by omega)
      (fun fk i hi => by rw [laws_FnDecibels_L1, if_pos (by simpa using hi), idx_in hi]; rfl)
      (fun fk => by rw [laws_FnDecibels_L1, if_neg (by simp)]) fu (by omega), hany]
    rfl
  · rw [scan_all (l := l) (G := laws_FnDecibels_L2 fu l w) (fun e => decide (e.Noise > w.1)) (fun _ => false) (by omega)
      (fun fk i hi => by rw [laws_FnDecibels_L2, if_pos (by simpa using hi), idx_in hi]; rfl)
      (fun fk => by rw [laws_FnDecibels_L2, if_neg (by simp)]) fu (by omega), hany]
    rfl
theorem FnDecibels_true (x0 : List By) (o0 : ok_ByS x0) : ∃ fu, laws_FnDecibels fu x0 = some true := by
  obtain ⟨fu, hfu⟩ : ∃ fu, 2097153 ≤ fu := ⟨2097153, Nat.le_refl _⟩
  refine ⟨fu, ?_⟩
  unfold laws_FnDecibels laws_vBig
  by_cases hb : (x0.length : Int) > 65536
  · simp only [hb, decide_true, Option.bind_some, if_true]
  simp only [hb, decide_false, Option.bind_some, Bool.false_eq_true, if_false]
  have hc : Cur ⟨x0, 0, ⟨0⟩⟩ 0 := start_cur o0.1 (by omega)
  -- the draws
  have d1 : ∃ v, spec_DrawLinearValue fu x0 = some v := by
    unfold spec_DrawLinearValue
    obtain ⟨r1, c1, g1, -, -, k1⟩ := pick_ok (fu := fu) hc (by omega) 100 (by decide)
    obtain ⟨r2, c2, g2, -, -, k2⟩ := pick_ok (fu := fu) k1 (by omega) 100 (by decide)
    obtain ⟨r3, c3, g3, -, k3⟩ := among_ok (fu := fu) k2 (by omega) [w64 (100 * r1), w64 (100 * r2), 150, (-100), 9900, 10000, 0] (by simp) (by simp)
    simp only [g1, g2, g3, Option.bind_some]
    exact ⟨_, rfl⟩
  have d2 : ∃ l, spec_DrawNoiseSum fu x0 = some l ∧ l.length ≤ 1000 := by
    unfold spec_DrawNoiseSum
    obtain ⟨r1, c1, g1, p0, p1, k1⟩ := pick_ok (fu := fu) hc (by omega) 6 (by decide)
    have p2 := p1 (by decide)
    have e : w64 (1 + r1) = (((1 + r1).toNat : Nat) : Int) := by rw [w64_in (by omega) (by omega)]; omega
    obtain ⟨l, c2, g2, g3, -⟩ := amplifiers_ok hfu k1 (by omega) (1 + r1).toNat (by omega)
    simp only [g1, e, g2, Option.bind_some]
    exact ⟨_, rfl, by omega⟩
  have d3 : ∃ s a b, spec_DrawMostSpans fu x0 = some (s, a, b) := by
    unfold spec_DrawMostSpans
    obtain ⟨r1, c1, g1, k1⟩ := level_ok (fu := fu) hc (by omega)
    obtain ⟨r2, c2, g2, k2⟩ := span_ok (fu := fu) k1 (by omega)
    obtain ⟨r3, c3, g3, -, k3⟩ := among_ok (fu := fu) k2 (by omega) [0, 10, 50, 100, 300, (-5), 2000] (by decide) (by decide)
    simp only [g1, g2, g3, Option.bind_some]
    exact ⟨_, _, _, rfl⟩
  obtain ⟨v, d1⟩ := d1
  obtain ⟨l, d2, hl⟩ := d2
  obtain ⟨s, a, b, d3⟩ := d3
  obtain ⟨w1, l1, l2, l3⟩ := linearValue_eq (fu := fu) (by omega) v
  obtain ⟨w2, n1, n2, n3⟩ := noise_eq hfu l hl
  obtain ⟨w3, m1, m2, m3⟩ := mostSpans_eq hfu s a b
  have hs := spanLoss_eq fu s
  have fin : (if (w3.1 == w3.1) = true then if (w3.2 == w3.2) = true then if (!w3.2) = true then some true else if (w3.1 == 0) = true then some true else some (decide (w64 (a - w64 (w3.1 * (if spanOk s = true then (lossF s, true) else (0, false)).1)) ≥ b)) else some false else some false : Option Bool) = some true := by
    cases h3 : w3.2
    · simp
    · by_cases h0 : w3.1 = 0
      · simp [h0]
      · obtain ⟨p1, p2⟩ := m3 h3 h0
        simp [h0, p1]; exact p2
  have key : ∀ (L : Option (Out Int Bool)), (w2.2 = true → L = some (.next (l.length : Int))) →
      (if (!w2.2) = true then (if (w2.1 == w2.1) = true then some (w2.2 == w2.2) else some false).bind fun c6 => some c6
      else L.bind fun out => out.on some fun z => (impl_MostSpans fu s a b).bind fun y10 => (spec_MostSpans fu s a b).bind fun y11 => (spec_SpanLoss fu s).bind fun y12 =>
        (if (y10.1 == y11.1) = true then if (y10.2 == y11.2) = true then if (!y10.2) = true then some true else if (y10.1 == 0) = true then some true else some (decide (w64 (a - w64 (y10.1 * y12.1)) ≥ b)) else some false else some false).bind fun c7 => some c7) = some true := by
    intro L hL
    cases h2 : w2.2
    · simp
    · rw [hL h2]
      simp only [bne_self_eq_false, Bool.false_eq_true, if_false, Bool.not_true, Option.bind_some, Out.on, m1, m2, hs, fin]
  have q1 : w2.2 = true → laws_FnDecibels_L1 fu l w2 fu 0 = some (.next (l.length : Int)) := fun h => (quiet_loop1 l w2 (n3 h) hl hfu).1
  have q2 : w2.2 = true → laws_FnDecibels_L2 fu l w2 fu 0 = some (.next (l.length : Int)) := fun h => (quiet_loop1 l w2 (n3 h) hl hfu).2
  simp only [d1, d2, d3, l1, l2, n1, n2, Option.bind_some, bne_self_eq_false, Bool.false_eq_true, if_false]
  cases h1 : w1.2
  · simp only [Bool.false_eq_true, if_false]
    exact key _ q2
  · simp only [if_true, l3 h1, Option.bind_some, Bool.not_true, Bool.false_eq_true, if_false, bne_self_eq_false]
    exact key _ q1
end AT
