/- The draw of rates and a capacity; lists that are equal; the sum of the rates. -/
import Derived.Test.YtfkdikbnajeelaaQVInts
set_option linter.unusedSimpArgs false
set_option linter.unusedVariables false
namespace AT
theorem drawPk_loop {fu : Nat} (code : List By) : ∀ (fk m : Nat) (l : List Int) (b : List By) (a : Int) (s : U64) (k B : Int), Cur ⟨b, a, s⟩ k → k ≤ B + 2 * (l.length : Int) → B ≤ 800000000 → l.length + m ≤ 100 → m < fk →
    ∃ l' z b' a' s', spec_DrawPackInOrder_L1 fu code fk l m b a s = some (l', z, b', a', s') ∧ l'.length = l.length + m ∧ Cur ⟨b', a', s'⟩ (B + 200) := by
  intro fk
  induction fk with
  | zero => intro m _ _ _ _ _ _ _ _ _ _ h; omega
  | succ fk ih =>
    intro m l b a s k B hc hk hB hl hf
    rw [spec_DrawPackInOrder_L1]
    cases m with
    | zero =>
      have h' : ¬ ((0 : Nat) : Int) > 0 := by omega
      rw [decide_eq_false h', if_neg Bool.false_ne_true]
      exact ⟨_, _, _, _, _, rfl, by omega, hc.mono (by omega)⟩
    | succ m =>
      have h' : ((m + 1 : Nat) : Int) > 0 := by omega
      have hw : w64 (((m + 1 : Nat) : Int) - 1) = ((m : Nat) : Int) := by
        have := w64_dec (i := m + 1) (by omega) (by omega)
        exact this
      obtain ⟨q, c2, q1, q2, q3, q4⟩ := pick_ok (fu := fu) hc (by omega) 10 (by omega)
      rw [decide_eq_true h', if_pos rfl, q1, Option.bind_some, app1K (by omega), Option.bind_some, hw]
      obtain ⟨l', z, b', a', s', g1, g2, g3⟩ := ih m (l ++ [w64 (1 + q)]) c2.code c2.at_ c2.seed _ B q4 (by simp; omega) hB (by simp; omega) (by omega)
      exact ⟨l', z, b', a', s', g1, by rw [g2]; simp; omega, g3⟩
theorem drawPk_loop2 {fu : Nat} (code : List By) : ∀ (fk : Nat) (l : List Int) (b : List By) (a : Int) (s : U64) (k B : Int), Cur ⟨b, a, s⟩ k → k ≤ B + 2 * (l.length : Int) → B ≤ 800000000 → l.length ≤ 100 → 100 - l.length < fk →
    ∃ l' b' a' s', spec_DrawPackInOrder_L2 fu code fk l b a s = some (l', b', a', s') ∧ l'.length ≤ 100 ∧ Cur ⟨b', a', s'⟩ (B + 204) := by
  intro fk
  induction fk with
  | zero => intro l _ _ _ _ _ _ _ _ _ h; omega
  | succ fk ih =>
    intro l b a s k B hc hk hB hl hf
    rw [spec_DrawPackInOrder_L2]
    obtain ⟨q, c2, q1, q2, q3, q4⟩ := pick_ok (fu := fu) hc (by omega) 4 (by omega)
    have q5 := q3 (by omega)
    have hw : w64 (10 + q) = 10 + q := w64_in (by omega) (by omega)
    rw [q1, Option.bind_some, hw]
    by_cases h : (l.length : Int) < 10 + q
    · rw [decide_eq_true h, if_pos rfl, app1K (by omega), Option.bind_some]
      exact ih (l ++ [3]) c2.code c2.at_ c2.seed _ B q4 (by simp; omega) hB (by simp; omega) (by simp; omega)
    · rw [decide_eq_false h, if_neg Bool.false_ne_true]
      exact ⟨_, _, _, _, rfl, by omega, q4.mono (by omega)⟩
def capL : List Int := [10, 10, 12, 11, 20, 0, 10001]
theorem cap_ok {fu : Nat} {c : L1CurP} {k : Int} (hc : Cur c k) (hk : k ≤ 900000000) : ∃ q q2 l r c' c2, spec_l1Cur_pick fu c 40 = some (q, c') ∧ quo q 20 = some q2 ∧ sub capL 0 (w64 (5 + q2)) = some l ∧ spec_l1Cur_among fu c' l = some (r, c2) := by
  obtain ⟨q, c', q1, q2, q3, q4⟩ := pick_ok (fu := fu) hc (by omega) 40 (by omega)
  have q5 := q3 (by omega)
  have hq : quo q 20 = some (q / 20) := by
    unfold quo
    rw [if_neg (by omega), Int.tdiv_eq_ediv_of_nonneg q2]
    congr 1
    exact w64_in (by omega) (by omega)
  have hl : ∃ l, sub capL 0 (w64 (5 + q / 20)) = some l ∧ 1 ≤ l.length ∧ l.length ≤ 7 := by
    have h01 : q / 20 = 0 ∨ q / 20 = 1 := by omega
    rcases h01 with h | h <;> rw [h]
    · exact ⟨_, rfl, by decide, by decide⟩
    · exact ⟨_, rfl, by decide, by decide⟩
  obtain ⟨l, l1, l2, l3⟩ := hl
  obtain ⟨r, c2, r1, -, -⟩ := among_ok (fu := fu) q4 (by omega) l l2 (by omega)
  exact ⟨q, _, l, r, c', c2, q1, hq, l1, r1⟩
theorem drawPk_ok {fu : Nat} (hfu : 2097153 ≤ fu) {code : List By} (h : ∀ e ∈ code, 0 ≤ e.n ∧ e.n ≤ 255) (hl : code.length ≤ 65536) : ∃ r C, spec_DrawPackInOrder fu code = some (r, C) ∧ r.length ≤ 200 := by
  unfold spec_DrawPackInOrder
  obtain ⟨q, c1, q1, q2, q3, q4⟩ := pick_ok (fu := fu) (start_cur h hl) (by omega) 10 (by omega)
  have q5 := q3 (by omega)
  obtain ⟨m, rfl⟩ := Int.eq_ofNat_of_zero_le q2
  obtain ⟨l, z, b', a', s', l1, l2, l3⟩ := drawPk_loop (fu := fu) code fu m [] c1.code c1.at_ c1.seed _ 10 q4 (by simp) (by omega) (by simp; omega) (by omega)
  rw [List.length_nil, Nat.zero_add] at l2
  obtain ⟨t, c2, t1, t2, t3, t4⟩ := pick_ok (fu := fu) l3 (by omega) 40 (by omega)
  rw [q1, Option.bind_some, l1, Option.bind_some, t1, Option.bind_some]
  by_cases h0 : t = 0
  · rw [beq_iff_eq.2 h0, if_pos rfl]
    obtain ⟨u, c3, u1, -, u3⟩ := among_ok (fu := fu) t4 (by omega) [0, 11, 12] (by simp) (by simp)
    obtain ⟨x, x2, y, r, c4, c5, e1, e2, e3, e4⟩ := cap_ok (fu := fu) u3 (by omega)
    rw [u1, Option.bind_some, app1K (show l.length ≤ 2097152 by omega), Option.bind_some, e1, Option.bind_some, e2, Option.bind_some, show ([10, 10, 12, 11, 20, 0, 10001] : List Int) = capL from rfl, e3, Option.bind_some, e4, Option.bind_some]
    exact ⟨_, _, rfl, by simp; omega⟩
  · rw [beq_eq_false_iff_ne.2 h0, if_neg Bool.false_ne_true]
    by_cases h1 : t = 1
    · rw [beq_iff_eq.2 h1, if_pos rfl]
      obtain ⟨l', b2, a2, s2, g1, g2, g3⟩ := drawPk_loop2 (fu := fu) code fu l c2.code c2.at_ c2.seed _ 1000 t4 (by omega) (by omega) (by omega) (by omega)
      obtain ⟨x, x2, y, r, c4, c5, e1, e2, e3, e4⟩ := cap_ok (fu := fu) g3 (by omega)
      rw [g1, Option.bind_some, e1, Option.bind_some, e2, Option.bind_some, show ([10, 10, 12, 11, 20, 0, 10001] : List Int) = capL from rfl, e3, Option.bind_some, e4, Option.bind_some]
      exact ⟨_, _, rfl, show l'.length ≤ 200 by omega⟩
    · rw [beq_eq_false_iff_ne.2 h1, if_neg Bool.false_ne_true]
      obtain ⟨x, x2, y, r, c4, c5, e1, e2, e3, e4⟩ := cap_ok (fu := fu) t4 (by omega)
      rw [e1, Option.bind_some, e2, Option.bind_some, show ([10, 10, 12, 11, 20, 0, 10001] : List Int) = capL from rfl, e3, Option.bind_some, e4, Option.bind_some]
      exact ⟨_, _, rfl, show l.length ≤ 200 by omega⟩
theorem tot_take {r : List Int} {i : Nat} (h : i < r.length) : tot (r.take (i + 1)) = tot (r.take i) + gd r i 0 := by
  have key : ∀ (a : List Int) (x : Int), tot (a ++ [x]) = tot a + x := by
    intro a x
    induction a with
    | nil => simp [tot]
    | cons y a ih => rw [List.cons_append, tot, ih, tot]; omega
  rw [List.take_add_one, List.getElem?_eq_getElem h]
  simp only [Option.toList]
  rw [key, gd_in 0 h]
theorem tot_bound {r : List Int} (h : ∀ x ∈ r, 0 ≤ x ∧ x ≤ 10000) : ∀ i, i ≤ r.length → 0 ≤ tot (r.take i) ∧ tot (r.take i) ≤ 10000 * (i : Int)
  | 0, _ => by simp [tot]
  | i + 1, hi => by
    have h1 := tot_bound h i (by omega)
    have h2 := h _ (List.getElem_mem (show i < r.length by omega))
    rw [tot_take (by omega), gd_in 0 (show i < r.length by omega)]
    omega
theorem sumPk {fu : Nat} {r : List Int} {C : Int} (h : ∀ x ∈ r, 0 ≤ x ∧ x ≤ 10000) (hr : r.length ≤ 100) : ∀ (fk i : Nat), i ≤ r.length → r.length - i < fk → ∃ z, laws_FnPacking_L1 fu (r, C) fk (tot (r.take i)) i = some (tot r, z) := by
  intro fk
  induction fk with
  | zero => intro i _ h; omega
  | succ fk ih =>
    intro i hi hk
    rw [laws_FnPacking_L1]
    by_cases hc : i < r.length
    · have h' : (i : Int) < (r.length : Int) := by omega
      have h1 := tot_bound h (i + 1) hc
      rw [tot_take hc] at h1
      have hw : w64 (tot (r.take i) + gd r i 0) = tot (r.take (i + 1)) := by rw [tot_take hc]; exact w64_in (by omega) (by omega)
      have hi2 := w64_inc hc (show (r.length : Int) ≤ 9223372036854775807 by omega)
      show ∃ z, (if decide ((i : Int) < (r.length : Int)) = true then (idx r (i : Int)).bind _ else _) = _
      rw [decide_eq_true h', if_pos rfl, idx_gd 0 hc, Option.bind_some, hw, hi2]
      clear hw hi2
      exact ih (i + 1) hc (by omega)
    · have e : i = r.length := by omega
      show ∃ z, (if decide ((i : Int) < (r.length : Int)) = true then (idx r (i : Int)).bind _ else _) = _
      rw [decide_eq_false (show ¬ (i : Int) < (r.length : Int) by omega), if_neg Bool.false_ne_true, e, List.take_length]
      exact ⟨_, rfl⟩
theorem tot_rep (C : Int) : ∀ k : Nat, tot (List.replicate k C) = (k : Int) * C
  | 0 => by simp [tot]
  | k + 1 => by
    rw [List.replicate_succ, tot, tot_rep C k, show ((k + 1 : Nat) : Int) = (k : Int) + 1 from rfl, Int.add_mul, Int.one_mul]
    omega
end AT
