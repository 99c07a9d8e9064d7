/- The lowest place of a light, plainly. -/
import Derived.Test.YtokhhjepjbhhpaaGreatQMask
set_option linter.unusedSimpArgs false
set_option linter.unusedVariables false
namespace AT
/-! ### Copies -/
theorem app_nil {α : Type} {l : List α} (h : l.length ≤ 1099511627776) : app ([] : List α) l = some l := by rw [app_ok (by simpa using h)]; rfl
theorem l9Copy_eq (fu : Nat) (x : Light) (h : x.Route.Fibers.length ≤ 2097152) : spec_l9Copy fu x = some x := by
  unfold spec_l9Copy spec_l4Own spec_l1Own
  rw [app_nil (by omega)]
  rfl
theorem own_loop {fu : Nat} (p : Plan) (hl : p.Lights.length ≤ 2097152) (hr : ∀ x ∈ p.Lights, x.Route.Fibers.length ≤ 2097152) : ∀ (fk i : Nat) (m : List Light), i ≤ p.Lights.length → p.Lights.length - i < fk → m.length ≤ i → ∃ z, spec_l9Own_L1 fu p fk i m = some (z, m ++ p.Lights.drop i) := by
  intro fk
  induction fk with
  | zero => intro i _ _ h; omega
  | succ fk ih =>
    intro i m hi hk hm
    rw [spec_l9Own_L1]
    by_cases h : i < p.Lights.length
    · have h' : (i : Int) < (p.Lights.length : Int) := by omega
      simp only [h', decide_true, if_true, idx_in h, Option.bind_some, l9Copy_eq fu _ (hr _ (List.getElem_mem h))]
      rw [app_ok (by simp; omega), Option.bind_some, w64_inc h (by omega)]
      obtain ⟨z, hz⟩ := ih (i + 1) (m ++ [p.Lights[i]]) h (by omega) (by simp; omega)
      refine ⟨z, ?_⟩
      rw [hz, List.append_assoc, ← List.getElem_cons_drop h]
      rfl
    · obtain rfl : i = p.Lights.length := by omega
      rw [if_neg (by simp), List.drop_length, List.append_nil]
      exact ⟨_, rfl⟩
theorem l9Own_eq {fu : Nat} (hfu : 2097153 ≤ fu) (p : Plan) (hB : PlanB p) : spec_l9Own fu p = some p := by
  obtain ⟨hN, hL, hR⟩ := hB
  unfold spec_l9Own spec_l2Own
  have h1 := hN.1.1
  have h2 := hN.2
  rw [app_nil (by omega), Option.bind_some, app_nil (by omega)]
  obtain ⟨z, hz⟩ := own_loop (fu := fu) p hL hR fu 0 [] (by omega) (by omega) (by simp)
  rw [show ((0 : Nat) : Int) = 0 from rfl] at hz
  simp only [Option.bind_some, hz, List.nil_append, List.drop_zero]
theorem l9Without_eq {fu : Nat} (hfu : 2097153 ≤ fu) (p : Plan) (hB : PlanB p) {i : Nat} (hi : i < p.Lights.length) : spec_l9Without fu p i = some { Network := p.Network, Lights := p.Lights.eraseIdx i } := by
  have hl := hB.2.1
  unfold spec_l9Without
  rw [l9Own_eq hfu p hB, Option.bind_some, sub_take (by omega), Option.bind_some, w64_inc hi (by omega)]
  have hs : sub p.Lights ((i + 1 : Nat) : Int) (p.Lights.length : Int) = some (p.Lights.drop (i + 1)) := by
    unfold sub
    rw [if_pos (by omega)]
    simp
  rw [hs, Option.bind_some, app_nil (by simp; omega), Option.bind_some, app_ok (by simp; omega), Option.bind_some, List.eraseIdx_eq_take_drop_succ]
/-! ### Occupied slots -/
theorem used_loop {fu : Nat} (hfu : 2097153 ≤ fu) (p : Plan) (f : Int) (hl : p.Lights.length ≤ 2097152) (hb : ∀ y ∈ p.Lights, blkOk y.Block = true) (hr : ∀ x ∈ p.Lights, x.Route.Fibers.length ≤ 2097152) : ∀ (fk i : Nat) (o : Int), i ≤ p.Lights.length → p.Lights.length - i < fk →
    ∃ z, spec_l9Used_L1 fu p f fk o i = some ((p.Lights.drop i).foldl (fun o y => if has y.Route.Fibers f = true then bor o (bits y.Block) else o) o, z) := by
  intro fk
  induction fk with
  | zero => intro i _ _ h; omega
  | succ fk ih =>
    intro i o hi hk
    rw [spec_l9Used_L1]
    by_cases h : i < p.Lights.length
    · have h' : (i : Int) < (p.Lights.length : Int) := by omega
      have hm := List.getElem_mem h
      have hr' := hr _ hm
      simp only [h', decide_true, if_true, idx_in h, Option.bind_some, l1Has_eq _ f (show p.Lights[i].Route.Fibers.length < fu by omega) hr', l8Bits_eq (hb _ hm)]
      rw [← List.getElem_cons_drop h, List.foldl_cons, w64_inc h (by omega)]
      have e : (p.Lights[i].Route.Fibers.any fun x => x == f) = has p.Lights[i].Route.Fibers f := rfl
      rw [e]
      by_cases hc : has p.Lights[i].Route.Fibers f = true
      · rw [if_pos hc, if_pos hc]
        exact ih (i + 1) _ h (by omega)
      · rw [if_neg hc, if_neg hc]
        exact ih (i + 1) _ h (by omega)
    · obtain rfl : i = p.Lights.length := by omega
      rw [if_neg (by simp), List.drop_length]
      exact ⟨_, rfl⟩
theorem l9Used_eq {fu : Nat} (hfu : 2097153 ≤ fu) (p : Plan) (f : Int) (hl : p.Lights.length ≤ 2097152) (hb : ∀ y ∈ p.Lights, blkOk y.Block = true) (hr : ∀ x ∈ p.Lights, x.Route.Fibers.length ≤ 2097152) : spec_l9Used fu p f = some (used p.Lights f) := by
  unfold spec_l9Used
  obtain ⟨z, hz⟩ := used_loop hfu p f hl hb hr fu 0 0 (by omega) (by omega)
  rw [show ((0 : Nat) : Int) = 0 from rfl, List.drop_zero] at hz
  rw [hz]
  rfl
theorem along_loop {fu : Nat} (hfu : 2097153 ≤ fu) (p : Plan) (r : Route) (hl : p.Lights.length ≤ 2097152) (hb : ∀ y ∈ p.Lights, blkOk y.Block = true) (hr : ∀ x ∈ p.Lights, x.Route.Fibers.length ≤ 2097152) (hrl : r.Fibers.length ≤ 2097152) : ∀ (fk i : Nat) (o : Int), i ≤ r.Fibers.length → r.Fibers.length - i < fk →
    ∃ z, spec_l9Along_L1 fu p r fk o i = some ((r.Fibers.drop i).foldl (fun o f => bor o (used p.Lights f)) o, z) := by
  intro fk
  induction fk with
  | zero => intro i _ _ h; omega
  | succ fk ih =>
    intro i o hi hk
    rw [spec_l9Along_L1]
    by_cases h : i < r.Fibers.length
    · have h' : (i : Int) < (r.Fibers.length : Int) := by omega
      simp only [h', decide_true, if_true, idx_in h, Option.bind_some, l9Used_eq hfu p _ hl hb hr]
      rw [← List.getElem_cons_drop h, List.foldl_cons, w64_inc h (by omega)]
      exact ih (i + 1) _ h (by omega)
    · obtain rfl : i = r.Fibers.length := by omega
      rw [if_neg (by simp), List.drop_length]
      exact ⟨_, rfl⟩
theorem l9Along_eq {fu : Nat} (hfu : 2097153 ≤ fu) (p : Plan) (r : Route) (hl : p.Lights.length ≤ 2097152) (hb : ∀ y ∈ p.Lights, blkOk y.Block = true) (hr : ∀ x ∈ p.Lights, x.Route.Fibers.length ≤ 2097152) (hrl : r.Fibers.length ≤ 2097152) : spec_l9Along fu p r = some (along p.Lights r.Fibers) := by
  unfold spec_l9Along
  obtain ⟨z, hz⟩ := along_loop hfu p r hl hb hr hrl fu 0 0 (by omega) (by omega)
  rw [show ((0 : Nat) : Int) = 0 from rfl, List.drop_zero] at hz
  rw [hz]
  rfl
/-! ### Where a block fits -/
def fits (m C : Int) : List Int := ((List.range' 0 (25 - C.toNat)).filter fun t : Nat => apart m (bits ⟨(t : Int), C⟩)).map fun t : Nat => (t : Int)
theorem apart_def (a b : Int) : (band a b == 0) = apart a b := rfl
theorem fits_loop {fu : Nat} (m C : Int) (N : Nat) (hN : (N : Int) + C = 25) (h1 : 1 ≤ C) : ∀ (fk k s : Nat) (out : List Int), N = s + k → k < fk → out.length ≤ s →
    ∃ z, spec_l8Fits_L1 fu m C fk out s = some (out ++ (((List.range' s k).filter fun t : Nat => apart m (bits ⟨(t : Int), C⟩)).map fun t : Nat => (t : Int)), z) := by
  intro fk
  induction fk with
  | zero => intro k s _ _ h; omega
  | succ fk ih =>
    intro k s out hs hk ho
    have hw0 : w64 ((s : Int) + C) = (s : Int) + C := w64_in (by omega) (by omega)
    rw [spec_l8Fits_L1, hw0]
    clear hw0
    cases k with
    | zero =>
      have h' : ¬ (s : Int) + C ≤ 24 := by omega
      simp only [h', decide_false, Bool.false_eq_true, if_false, List.range'_zero, List.filter_nil, List.map_nil, List.append_nil]
      exact ⟨_, rfl⟩
    | succ k =>
      have h' : (s : Int) + C ≤ 24 := by omega
      have hb : blkOk ⟨(s : Int), C⟩ = true := by simp only [blkOk, Bool.and_eq_true, decide_eq_true_eq]; omega
      obtain ⟨c, hc⟩ : ∃ c, apart m (bits ⟨(s : Int), C⟩) = c := ⟨_, rfl⟩
      obtain ⟨b, hb1, hb2⟩ : ∃ b, spec_l8Bits fu ⟨(s : Int), C⟩ = some b ∧ (band m b == 0) = c := ⟨_, l8Bits_eq hb, hc⟩
      have hw : w64 ((s : Int) + 1) = ((s + 1 : Nat) : Int) := by rw [w64_in (by omega) (by omega)]; omega
      rw [List.range'_succ, List.filter_cons, hc, hb1]
      clear hb1 hc hb
      rw [if_pos (by simpa using h'), Option.bind_some, hb2, hw]
      clear hw hb2
      cases c
      · rw [if_neg (by decide), if_neg (by decide)]
        exact ih k (s + 1) out (by omega) (by omega) (by omega)
      · have ha : app out [(s : Int)] = some (out ++ [(s : Int)]) := app_ok (by simp; omega)
        rw [if_pos rfl, if_pos rfl, ha, Option.bind_some]
        obtain ⟨z, hz⟩ := ih k (s + 1) (out ++ [(s : Int)]) (by omega) (by omega) (by simp; omega)
        exact ⟨z, by rw [hz, List.map_cons, List.append_assoc, List.singleton_append]⟩
theorem l8Fits_eq {fu : Nat} (hfu : 2097153 ≤ fu) (m C : Int) (h1 : 1 ≤ C) (h2 : C ≤ 24) : spec_l8Fits fu m C = some (fits m C) := by
  unfold spec_l8Fits fits
  obtain ⟨N, hN⟩ : ∃ N, N = 25 - C.toNat := ⟨_, rfl⟩
  rw [← hN]
  obtain ⟨z, hz⟩ := fits_loop (fu := fu) m C N (by omega) h1 fu N 0 [] (by omega) (by omega) (by simp)
  rw [show ((0 : Nat) : Int) = 0 from rfl] at hz
  rw [hz]
  rfl
theorem fits_mem {m C : Int} {s : Int} (h1 : 1 ≤ C) (h2 : C ≤ 24) : s ∈ fits m C ↔ 0 ≤ s ∧ s + C ≤ 24 ∧ apart m (bits ⟨s, C⟩) = true := by
  unfold fits
  simp only [List.mem_map, List.mem_filter, List.mem_range'_1]
  constructor
  · rintro ⟨t, ⟨⟨-, ht⟩, ha⟩, rfl⟩
    exact ⟨by omega, by omega, ha⟩
  · rintro ⟨h0, h3, ha⟩
    refine ⟨s.toNat, ⟨⟨by omega, by omega⟩, ?_⟩, by omega⟩
    rw [Int.toNat_of_nonneg h0]
    exact ha
theorem fits_sorted (m C : Int) : (fits m C).Pairwise (· < ·) := by
  unfold fits
  refine List.Pairwise.map _ (fun a b h => ?_) (List.Pairwise.filter _ (List.pairwise_lt_range'))
  omega
theorem fits_len (m C : Int) : (fits m C).length ≤ 25 := by
  unfold fits
  rw [List.length_map]
  refine Nat.le_trans (List.length_filter_le _ _) ?_
  rw [List.length_range']
  omega
/-! ### The lowest place -/
/-- The first number from 0 on that is so, below F; F if there is none. -/
def Low (P : Int → Prop) (F r : Int) : Prop := (0 ≤ r ∧ r < F ∧ P r ∧ ∀ s, 0 ≤ s → s < r → ¬ P s) ∨ (r = F ∧ ∀ s, 0 ≤ s → s < F → ¬ P s)
theorem Low.uniq {P : Int → Prop} {F r r' : Int} (h : Low P F r) (h' : Low P F r') : r = r' := by
  rcases h with ⟨a1, a2, a3, a4⟩ | ⟨a1, a2⟩ <;> rcases h' with ⟨b1, b2, b3, b4⟩ | ⟨b1, b2⟩
  · rcases Int.lt_trichotomy r r' with h | h | h
    · exact absurd a3 (b4 r a1 h)
    · exact h
    · exact absurd b3 (a4 r' b1 h)
  · exact absurd a3 (b2 r a1 a2)
  · exact absurd b3 (a2 r' b1 b2)
  · rw [a1, b1]
/-- May the light x be moved to s, beside the lights L? -/
def mayLow (L : List Light) (x : Light) (hit : Bool) (s : Int) : Prop := (hit = true → s + x.Block.Count ≤ x.Block.First) ∧ ∀ y ∈ L, ¬ (meets y.Route.Fibers x.Route.Fibers = true ∧ apart (bits y.Block) (bits ⟨s, x.Block.Count⟩) = false)
theorem low_loop {fu : Nat} {x : Light} (hx : blkOk x.Block = true) (hit : Bool) (ys : List Int) (hl : ys.length ≤ 25) (hb : ∀ y ∈ ys, 0 ≤ y ∧ y ≤ 24) : ∀ (fk k : Nat), ys.length - k < fk → k ≤ ys.length → (∀ j (h : j < ys.length), j < k → ys[j] < x.Block.First ∧ ¬ (hit = true → ys[j] + x.Block.Count ≤ x.Block.First)) →
    (∃ j, ∃ h : j < ys.length, spec_l21Lowest_L1 fu hit x ys fk k = some (.ret ys[j]) ∧ ys[j] < x.Block.First ∧ (hit = true → ys[j] + x.Block.Count ≤ x.Block.First) ∧ ∀ i (h' : i < ys.length), i < j → ¬ (hit = true → ys[i] + x.Block.Count ≤ x.Block.First)) ∨
    (∃ z, spec_l21Lowest_L1 fu hit x ys fk k = some (.next z) ∧ ∃ j, (∀ i (h' : i < ys.length), i < j → ¬ (hit = true → ys[i] + x.Block.Count ≤ x.Block.First)) ∧ ∀ (h' : j < ys.length), x.Block.First ≤ ys[j]) := by
  have hx' := hx
  simp only [blkOk, Bool.and_eq_true, decide_eq_true_eq] at hx'
  intro fk
  induction fk with
  | zero => intro k h; omega
  | succ fk ih =>
    intro k hk hkl hp
    rw [spec_l21Lowest_L1]
    by_cases h : k < ys.length
    · have h' : (k : Int) < (ys.length : Int) := by omega
      obtain ⟨y0, y1⟩ := hb _ (List.getElem_mem h)
      simp only [h', decide_true, if_true, idx_in h, Option.bind_some]
      rw [w64_in (n := ys[k] + x.Block.Count) (by omega) (by omega), w64_inc h (by omega)]
      by_cases hf : ys[k] < x.Block.First
      · simp only [hf, decide_true, if_true]
        by_cases hc : hit = true → ys[k] + x.Block.Count ≤ x.Block.First
        · have e : ((if (!hit) = true then some true else some (decide (ys[k] + x.Block.Count ≤ x.Block.First))) : Option Bool) = some true := by
            cases hit
            · rfl
            · simp [hc rfl]
          simp only [e, Option.bind_some, if_true]
          exact .inl ⟨k, h, rfl, hf, hc, fun i h' hi => (hp i h' hi).2⟩
        · have e : ((if (!hit) = true then some true else some (decide (ys[k] + x.Block.Count ≤ x.Block.First))) : Option Bool) = some false := by
            cases hit
            · exact absurd (fun h => by cases h) hc
            · have : ¬ ys[k] + x.Block.Count ≤ x.Block.First := fun h => hc fun _ => h
              simp [this]
          simp only [e, Option.bind_some, Bool.false_eq_true, if_false]
          refine ih (k + 1) (by omega) h fun j hj hjk => ?_
          rcases Nat.lt_or_ge j k with h1 | h1
          · exact hp j hj h1
          · obtain rfl : j = k := by omega
            exact ⟨hf, hc⟩
      · simp only [hf, decide_false, Bool.false_eq_true, if_false]
        exact .inr ⟨_, rfl, k, fun i h' hi => (hp i h' hi).2, fun _ => by omega⟩
    · obtain rfl : k = ys.length := by omega
      have h' : ¬ ((ys.length : Nat) : Int) < (ys.length : Int) := by omega
      simp only [h', decide_false, Bool.false_eq_true, if_false, Option.bind_some]
      exact .inr ⟨_, rfl, ys.length, fun i h' hi => (hp i h' hi).2, fun h => by omega⟩
structure PlanI (p : Plan) : Prop where
  ids : ∀ i j, i < j → j < p.Lights.length → (gd p.Lights i l0).Id < (gd p.Lights j l0).Id
theorem planI {p : Plan} (h : planOk p = true) : PlanI p := by
  unfold planOk at h
  simp only [Bool.and_eq_true, decide_eq_true_eq, Bool.not_eq_true'] at h
  obtain ⟨h1, h2, h3⟩ := h
  rw [Bool.eq_false_iff] at h3
  have adj : ∀ j, 0 < j → j < p.Lights.length → (gd p.Lights (j - 1) l0).Id < (gd p.Lights j l0).Id := fun j h0 hj => by
    have h6 : planBad p.Network p.Lights j = false := by
      rw [Bool.eq_false_iff]
      intro h7
      exact h3 (List.any_eq_true.2 ⟨j, List.mem_range.2 hj, h7⟩)
    unfold planBad at h6
    rw [Bool.or_eq_false_iff, Bool.or_eq_false_iff] at h6
    have := h6.2.1
    simp only [h0, decide_true, Bool.true_and, decide_eq_false_iff_not] at this
    omega
  refine ⟨fun i j => ?_⟩
  induction j with
  | zero => intro h; omega
  | succ j ih =>
    intro hij hj
    have := adj (j + 1) (by omega) hj
    rw [Nat.add_sub_cancel] at this
    rcases Nat.lt_or_ge i j with h' | h'
    · have := ih h' (by omega)
      omega
    · obtain rfl : i = j := by omega
      exact this
theorem erase_mem {L : List Light} {i : Nat} (hi : i < L.length) (hid : ∀ a b, a < b → b < L.length → (gd L a l0).Id < (gd L b l0).Id) (y : Light) : y ∈ L.eraseIdx i ↔ y ∈ L ∧ y.Id ≠ (gd L i l0).Id := by
  rw [List.mem_eraseIdx_iff_getElem]
  constructor
  · rintro ⟨j, hj, hne, rfl⟩
    refine ⟨List.getElem_mem _, ?_⟩
    rw [← gd_in l0 hj]
    rcases Nat.lt_or_ge j i with h | h
    · have := hid j i h hi
      omega
    · have := hid i j (by omega) hj
      omega
  · rintro ⟨hy, hne⟩
    obtain ⟨j, hj, rfl⟩ := List.mem_iff_getElem.1 hy
    refine ⟨j, hj, fun e => ?_, rfl⟩
    subst e
    rw [gd_in l0 hj] at hne
    exact hne rfl
theorem specLow {fu : Nat} (hfu : 2097153 ≤ fu) (p : Plan) (hB : PlanB p) (hF : PlanF p) {i : Nat} (hi : i < p.Lights.length) (hit : Bool) : ∃ r, spec_l21Lowest fu p i hit = some r ∧ Low (mayLow (p.Lights.eraseIdx i) (gd p.Lights i l0) hit) (gd p.Lights i l0).Block.First r := by
  have hx := hF.light _ (gd_mem l0 hi)
  unfold spec_l21Lowest
  rw [idx_gd l0 hi, Option.bind_some, l9Without_eq hfu p hB hi, Option.bind_some]
  obtain ⟨x, hxe⟩ : ∃ x, x = gd p.Lights i l0 := ⟨_, rfl⟩
  rw [← hxe] at hx ⊢
  have hx' := hx.blk
  have hrl := hx.short
  simp only [blkOk, Bool.and_eq_true, decide_eq_true_eq] at hx'
  have hsub : ∀ y ∈ p.Lights.eraseIdx i, y ∈ p.Lights := fun y hy => List.mem_of_mem_eraseIdx hy
  have hb : ∀ y ∈ p.Lights.eraseIdx i, blkOk y.Block = true := fun y hy => (hF.light y (hsub y hy)).blk
  have hle : (p.Lights.eraseIdx i).length ≤ 2097152 := by
    have := hB.2.1
    rw [List.length_eraseIdx]
    split <;> omega
  rw [l9Along_eq hfu { Network := p.Network, Lights := p.Lights.eraseIdx i } x.Route hle hb (fun y hy => hB.2.2 y (hsub y hy)) (by omega), Option.bind_some, l8Fits_eq hfu _ _ (by omega) (by omega), Option.bind_some]
  obtain ⟨m, hm⟩ : ∃ m, m = along (p.Lights.eraseIdx i) x.Route.Fibers := ⟨_, rfl⟩
  have hap : ∀ s, 0 ≤ s → s + x.Block.Count ≤ 24 → (apart m (bits ⟨s, x.Block.Count⟩) = true ↔ ∀ y ∈ p.Lights.eraseIdx i, ¬ (meets y.Route.Fibers x.Route.Fibers = true ∧ apart (bits y.Block) (bits ⟨s, x.Block.Count⟩) = false)) := fun s h0 h1 => by
    have hbs : blkOk ⟨s, x.Block.Count⟩ = true := by simp only [blkOk, Bool.and_eq_true, decide_eq_true_eq]; omega
    rw [hm, along_apart hb _ (bits_mk hbs)]
    simp only [List.all_eq_true, Bool.not_eq_true', Bool.and_eq_false_iff, Bool.not_eq_false']
    constructor
    · intro h y hy hc
      rcases h y hy with h | h
      · rw [h] at hc; cases hc.1
      · rw [h] at hc; cases hc.2
    · intro h y hy
      have := h y hy
      rcases Bool.eq_false_or_eq_true (meets y.Route.Fibers x.Route.Fibers) with h1 | h1
      · rcases Bool.eq_false_or_eq_true (apart (bits y.Block) (bits ⟨s, x.Block.Count⟩)) with h2 | h2
        · exact .inr h2
        · exact absurd ⟨h1, h2⟩ this
      · exact .inl h1
  have hmem : ∀ s, s ∈ fits m x.Block.Count ↔ 0 ≤ s ∧ s + x.Block.Count ≤ 24 ∧ apart m (bits ⟨s, x.Block.Count⟩) = true := fun s => fits_mem (by omega) (by omega)
  have hfb : ∀ y ∈ fits m x.Block.Count, 0 ≤ y ∧ y ≤ 24 := fun y hy => by
    have := (hmem y).1 hy
    omega
  have hin : ∀ s, 0 ≤ s → s < x.Block.First → mayLow (p.Lights.eraseIdx i) x hit s → ∃ j, ∃ h : j < (fits m x.Block.Count).length, (fits m x.Block.Count)[j] = s := fun s h0 h1 hP => by
    have : s ∈ fits m x.Block.Count := (hmem s).2 ⟨h0, by omega, (hap s h0 (by omega)).2 hP.2⟩
    exact List.mem_iff_getElem.1 this
  have hsort : ∀ a b (ha : a < (fits m x.Block.Count).length) (hb : b < (fits m x.Block.Count).length), a < b → (fits m x.Block.Count)[a] < (fits m x.Block.Count)[b] := fun a b ha hb hab => List.pairwise_iff_getElem.1 (fits_sorted m x.Block.Count) a b ha hb hab
  have hls := fits_len m x.Block.Count
  rw [← hm]
  rcases low_loop (fu := fu) hx.blk hit (fits m x.Block.Count) hls hfb fu 0 (by omega) (by omega) (fun j _ h => by omega) with ⟨j, hj, g1, g2, g3, g4⟩ | ⟨z, g1, j, g2, g3⟩
  · rw [show ((0 : Nat) : Int) = 0 from rfl] at g1
    rw [g1]
    have hmj := (hmem _).1 (List.getElem_mem hj)
    refine ⟨_, rfl, .inl ⟨hmj.1, g2, ⟨g3, (hap _ hmj.1 hmj.2.1).1 hmj.2.2⟩, fun s h0 h1 hP => ?_⟩⟩
    obtain ⟨a, ha, e⟩ := hin s h0 (by omega) hP
    rcases Nat.lt_or_ge a j with h | h
    · exact g4 a ha h (by rw [e]; exact hP.1)
    · rcases Nat.lt_or_ge j a with h' | h'
      · have := hsort j a hj ha h'
        omega
      · obtain rfl : a = j := by omega
        omega
  · rw [show ((0 : Nat) : Int) = 0 from rfl] at g1
    rw [g1]
    refine ⟨_, rfl, .inr ⟨rfl, fun s h0 h1 hP => ?_⟩⟩
    obtain ⟨a, ha, e⟩ := hin s h0 h1 hP
    rcases Nat.lt_or_ge a j with h | h
    · exact g2 a ha h (by rw [e]; exact hP.1)
    · rcases Nat.lt_or_ge j a with h' | h'
      · have := hsort j a (by omega) ha h'
        have := g3 (by omega)
        omega
      · obtain rfl : a = j := by omega
        have := g3 ha
        omega
end AT
